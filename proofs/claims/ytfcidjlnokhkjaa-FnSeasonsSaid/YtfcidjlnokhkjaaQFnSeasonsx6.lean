-- Laid by this session's own program (wip/myprint.py), the kit's printer its engine; turned by hand where that fell. Lean checks it.
import Derived.Test.YtfcidjlnokhkjaaQFnSeasonsx0
import Derived.Test.YtfcidjlnokhkjaaQFnSeasonsx1
import Derived.Test.YtfcidjlnokhkjaaQFnSeasonsx2
import Derived.Test.YtfcidjlnokhkjaaQFnSeasonsx3
import Derived.Test.YtfcidjlnokhkjaaQFnSeasonsx4
import Derived.Test.YtfcidjlnokhkjaaQFnSeasonsx5
namespace Go.Proofs.Ytfcidjlnokhkjaa.QFnSeasons
open Go.RowKit Go.Proofs.YtfcidjlnokhkjaaW.PrintWords Go.Proofs.YtfcidjlnokhkjaaW.PrintLast Go.Proofs.YtfcidjlnokhkjaaW.PrintMore
attribute [local go_sem] max2_int min2_int max_two min_two max_three min_three max_four min_four   -- for this text's walks alone
set_option linter.unusedVariables false
set_option linter.unusedSimpArgs false

/-! ### laws_FnSeasons: function 14 -/
mutual
def laws_FnSeasons.j0 : Nat → List Int → Int → List (List (List Int)) → Bool → Option (Bool)
  | 0, _, _, _, _ => none
  | k + 1, x0, x3, x4, x53 => if x53 = true then (some false) else (laws_FnSeasons.l0 k x0 x3 x4 0)
def laws_FnSeasons.l0 : Nat → List Int → Int → List (List (List Int)) → Int → Option (Bool)
  | 0, _, _, _, _ => none
  | k + 1, x0, x3, x4, x5 => if x5 < (x4.length : Int) then (if 0 ≤ x5 then ((impl_RestOf.f k (rd_L2 x4 x5) x3).bind fun t297 => (if (t297.length : Int) = 0 then (laws_FnSeasons.l0 k x0 x3 x4 (wrap64 (x5 + 1))) else (some false))) else (none)) else ((spec_DrawRoundWith.f k x0).bind fun bt300 => ((impl_RoundWith.f k bt300.1 bt300.2.1 bt300.2.2).bind fun t303 => (if t303 ≥ 0 then ((impl_SeasonRound.f k bt300.1 t303).bind fun t304 => (laws_FnSeasons.l1 k x0 bt300.1 bt300.2.1 bt300.2.2 false t304 0)) else (laws_FnSeasons.j3 k x0 bt300.1 bt300.2.1 bt300.2.2))))
def laws_FnSeasons.j3 : Nat → List Int → Int → Int → Int → Option (Bool)
  | 0, _, _, _, _ => none
  | k + 1, x0, x6, x7, x8 => (spec_DrawMeetOnce.f k x0).bind fun bt311 => ((impl_MeetOnce.f k bt311.1 bt311.2).bind fun t315 => (if t315 = true then (if bt311.2 ≥ 2 then ((impl_RoundWith.f k x6 x7 x8).bind fun t316 => ((impl_RoundWith.f k x6 x8 x7).bind fun t317 => (some (t316 == t317)))) else (some false)) else (some true)))
def laws_FnSeasons.l1 : Nat → List Int → Int → Int → Int → Bool → List (List Int) → Int → Option (Bool)
  | 0, _, _, _, _, _, _, _ => none
  | k + 1, x0, x6, x7, x8, x10, x11, x12 => if x12 < (x11.length : Int) then (if x10 = true then (laws_FnSeasons.l1 k x0 x6 x7 x8 true x11 (wrap64 (x12 + 1))) else (if 0 ≤ x12 then ((laws_contains.f k (rd_L1 x11 x12) x7).bind fun t308 => (if t308 = true then ((laws_contains.f k (rd_L1 x11 x12) x8).bind fun t310 => (laws_FnSeasons.l1 k x0 x6 x7 x8 t310 x11 (wrap64 (x12 + 1)))) else (laws_FnSeasons.l1 k x0 x6 x7 x8 false x11 (wrap64 (x12 + 1))))) else (none))) else (if x10 = true then (laws_FnSeasons.j3 k x0 x6 x7 x8) else (some false))
end
def laws_FnSeasons.f (k : Nat) (l0 : List Int) : Option (Bool) := (laws_big.f l0).bind fun t288 => (if t288 = true then (some true) else ((spec_DrawAllRounds.f k l0).bind fun t289 => ((impl_AllRounds.f k t289).bind fun t290 => (if t289 ≥ 2 then (if t289 ≤ 20 then (if ((decide ((t290.length : Int) > 0)) != ((Int.tmod t289 2) == 0)) = true then (laws_FnSeasons.j0 k l0 t289 t290 true) else (if (t290.length : Int) > 0 then (if (t290.length : Int) = (wrap64 (t289 - 1)) then ((impl_MeetOnce.f k t290 t289).bind fun t293 => (laws_FnSeasons.j0 k l0 t289 t290 (!t293))) else (laws_FnSeasons.j0 k l0 t289 t290 true)) else (laws_FnSeasons.j0 k l0 t289 t290 false))) else (if ((decide ((t290.length : Int) > 0)) != false) = true then (laws_FnSeasons.j0 k l0 t289 t290 true) else (if (t290.length : Int) > 0 then (if (t290.length : Int) = (wrap64 (t289 - 1)) then ((impl_MeetOnce.f k t290 t289).bind fun t294 => (laws_FnSeasons.j0 k l0 t289 t290 (!t294))) else (laws_FnSeasons.j0 k l0 t289 t290 true)) else (laws_FnSeasons.j0 k l0 t289 t290 false)))) else (if ((decide ((t290.length : Int) > 0)) != false) = true then (laws_FnSeasons.j0 k l0 t289 t290 true) else (if (t290.length : Int) > 0 then (if (t290.length : Int) = (wrap64 (t289 - 1)) then ((impl_MeetOnce.f k t290 t289).bind fun t295 => (laws_FnSeasons.j0 k l0 t289 t290 (!t295))) else (laws_FnSeasons.j0 k l0 t289 t290 true)) else (laws_FnSeasons.j0 k l0 t289 t290 false)))))))
theorem laws_FnSeasons.mono_l : ∀ k, (∀ y0 y1 y2 y3, LeO (laws_FnSeasons.j0 k y0 y1 y2 y3) (laws_FnSeasons.j0 (k + 1) y0 y1 y2 y3)) ∧ (∀ y0 y1 y2 y3, LeO (laws_FnSeasons.l0 k y0 y1 y2 y3) (laws_FnSeasons.l0 (k + 1) y0 y1 y2 y3)) ∧ (∀ y0 y1 y2 y3, LeO (laws_FnSeasons.j3 k y0 y1 y2 y3) (laws_FnSeasons.j3 (k + 1) y0 y1 y2 y3)) ∧ (∀ y0 y1 y2 y3 y4 y5 y6, LeO (laws_FnSeasons.l1 k y0 y1 y2 y3 y4 y5 y6) (laws_FnSeasons.l1 (k + 1) y0 y1 y2 y3 y4 y5 y6))
  | 0 => ⟨fun _ _ _ _ r h => by simp [laws_FnSeasons.j0] at h, fun _ _ _ _ r h => by simp [laws_FnSeasons.l0] at h, fun _ _ _ _ r h => by simp [laws_FnSeasons.j3] at h, fun _ _ _ _ _ _ _ r h => by simp [laws_FnSeasons.l1] at h⟩
  | k + 1 => by
    obtain ⟨ih0, ih1, ih2, ih3⟩ := laws_FnSeasons.mono_l k
    refine ⟨?_, ?_, ?_, ?_⟩
    · intro y0 y1 y2 y3
      unfold laws_FnSeasons.j0
      repeat' first
      | (with_reducible exact ih0 _ _ _ _)
      | (with_reducible exact ih1 _ _ _ _)
      | (with_reducible exact ih2 _ _ _ _)
      | (with_reducible exact ih3 _ _ _ _ _ _ _)
      | (with_reducible exact impl_AllRounds.mono _ _)
      | (with_reducible exact impl_MeetOnce.mono _ _ _)
      | (with_reducible exact impl_RestOf.mono _ _ _)
      | (with_reducible exact impl_RoundWith.mono _ _ _ _)
      | (with_reducible exact impl_SeasonRound.mono _ _ _)
      | (with_reducible exact laws_contains.mono _ _ _)
      | (with_reducible exact spec_DrawAllRounds.mono _ _)
      | (with_reducible exact spec_DrawMeetOnce.mono _ _)
      | (with_reducible exact spec_DrawRoundWith.mono _ _)
      | (with_reducible exact LeO.refl _)
      | (with_reducible exact LeO.none _)
      | (with_reducible refine LeO.ite ?_ ?_)
      | (with_reducible refine LeO.bind ?_ (fun _ => ?_))
      | exact ih0 _ _ _ _
      | exact ih1 _ _ _ _
      | exact ih2 _ _ _ _
      | exact ih3 _ _ _ _ _ _ _
      | exact impl_AllRounds.mono _ _
      | exact impl_MeetOnce.mono _ _ _
      | exact impl_RestOf.mono _ _ _
      | exact impl_RoundWith.mono _ _ _ _
      | exact impl_SeasonRound.mono _ _ _
      | exact laws_contains.mono _ _ _
      | exact spec_DrawAllRounds.mono _ _
      | exact spec_DrawMeetOnce.mono _ _
      | exact spec_DrawRoundWith.mono _ _
      | exact LeO.none _
      | refine LeO.ite ?_ ?_
      | refine LeO.bind ?_ (fun _ => ?_)
    · intro y0 y1 y2 y3
      unfold laws_FnSeasons.l0
      repeat' first
      | (with_reducible exact ih0 _ _ _ _)
      | (with_reducible exact ih1 _ _ _ _)
      | (with_reducible exact ih2 _ _ _ _)
      | (with_reducible exact ih3 _ _ _ _ _ _ _)
      | (with_reducible exact impl_AllRounds.mono _ _)
      | (with_reducible exact impl_MeetOnce.mono _ _ _)
      | (with_reducible exact impl_RestOf.mono _ _ _)
      | (with_reducible exact impl_RoundWith.mono _ _ _ _)
      | (with_reducible exact impl_SeasonRound.mono _ _ _)
      | (with_reducible exact laws_contains.mono _ _ _)
      | (with_reducible exact spec_DrawAllRounds.mono _ _)
      | (with_reducible exact spec_DrawMeetOnce.mono _ _)
      | (with_reducible exact spec_DrawRoundWith.mono _ _)
      | (with_reducible exact LeO.refl _)
      | (with_reducible exact LeO.none _)
      | (with_reducible refine LeO.ite ?_ ?_)
      | (with_reducible refine LeO.bind ?_ (fun _ => ?_))
      | exact ih0 _ _ _ _
      | exact ih1 _ _ _ _
      | exact ih2 _ _ _ _
      | exact ih3 _ _ _ _ _ _ _
      | exact impl_AllRounds.mono _ _
      | exact impl_MeetOnce.mono _ _ _
      | exact impl_RestOf.mono _ _ _
      | exact impl_RoundWith.mono _ _ _ _
      | exact impl_SeasonRound.mono _ _ _
      | exact laws_contains.mono _ _ _
      | exact spec_DrawAllRounds.mono _ _
      | exact spec_DrawMeetOnce.mono _ _
      | exact spec_DrawRoundWith.mono _ _
      | exact LeO.none _
      | refine LeO.ite ?_ ?_
      | refine LeO.bind ?_ (fun _ => ?_)
    · intro y0 y1 y2 y3
      unfold laws_FnSeasons.j3
      repeat' first
      | (with_reducible exact ih0 _ _ _ _)
      | (with_reducible exact ih1 _ _ _ _)
      | (with_reducible exact ih2 _ _ _ _)
      | (with_reducible exact ih3 _ _ _ _ _ _ _)
      | (with_reducible exact impl_AllRounds.mono _ _)
      | (with_reducible exact impl_MeetOnce.mono _ _ _)
      | (with_reducible exact impl_RestOf.mono _ _ _)
      | (with_reducible exact impl_RoundWith.mono _ _ _ _)
      | (with_reducible exact impl_SeasonRound.mono _ _ _)
      | (with_reducible exact laws_contains.mono _ _ _)
      | (with_reducible exact spec_DrawAllRounds.mono _ _)
      | (with_reducible exact spec_DrawMeetOnce.mono _ _)
      | (with_reducible exact spec_DrawRoundWith.mono _ _)
      | (with_reducible exact LeO.refl _)
      | (with_reducible exact LeO.none _)
      | (with_reducible refine LeO.ite ?_ ?_)
      | (with_reducible refine LeO.bind ?_ (fun _ => ?_))
      | exact ih0 _ _ _ _
      | exact ih1 _ _ _ _
      | exact ih2 _ _ _ _
      | exact ih3 _ _ _ _ _ _ _
      | exact impl_AllRounds.mono _ _
      | exact impl_MeetOnce.mono _ _ _
      | exact impl_RestOf.mono _ _ _
      | exact impl_RoundWith.mono _ _ _ _
      | exact impl_SeasonRound.mono _ _ _
      | exact laws_contains.mono _ _ _
      | exact spec_DrawAllRounds.mono _ _
      | exact spec_DrawMeetOnce.mono _ _
      | exact spec_DrawRoundWith.mono _ _
      | exact LeO.none _
      | refine LeO.ite ?_ ?_
      | refine LeO.bind ?_ (fun _ => ?_)
    · intro y0 y1 y2 y3 y4 y5 y6
      unfold laws_FnSeasons.l1
      repeat' first
      | (with_reducible exact ih0 _ _ _ _)
      | (with_reducible exact ih1 _ _ _ _)
      | (with_reducible exact ih2 _ _ _ _)
      | (with_reducible exact ih3 _ _ _ _ _ _ _)
      | (with_reducible exact impl_AllRounds.mono _ _)
      | (with_reducible exact impl_MeetOnce.mono _ _ _)
      | (with_reducible exact impl_RestOf.mono _ _ _)
      | (with_reducible exact impl_RoundWith.mono _ _ _ _)
      | (with_reducible exact impl_SeasonRound.mono _ _ _)
      | (with_reducible exact laws_contains.mono _ _ _)
      | (with_reducible exact spec_DrawAllRounds.mono _ _)
      | (with_reducible exact spec_DrawMeetOnce.mono _ _)
      | (with_reducible exact spec_DrawRoundWith.mono _ _)
      | (with_reducible exact LeO.refl _)
      | (with_reducible exact LeO.none _)
      | (with_reducible refine LeO.ite ?_ ?_)
      | (with_reducible refine LeO.bind ?_ (fun _ => ?_))
      | exact ih0 _ _ _ _
      | exact ih1 _ _ _ _
      | exact ih2 _ _ _ _
      | exact ih3 _ _ _ _ _ _ _
      | exact impl_AllRounds.mono _ _
      | exact impl_MeetOnce.mono _ _ _
      | exact impl_RestOf.mono _ _ _
      | exact impl_RoundWith.mono _ _ _ _
      | exact impl_SeasonRound.mono _ _ _
      | exact laws_contains.mono _ _ _
      | exact spec_DrawAllRounds.mono _ _
      | exact spec_DrawMeetOnce.mono _ _
      | exact spec_DrawRoundWith.mono _ _
      | exact LeO.none _
      | refine LeO.ite ?_ ?_
      | refine LeO.bind ?_ (fun _ => ?_)
theorem laws_FnSeasons.mono : ∀ a0 k, LeO (laws_FnSeasons.f k a0) (laws_FnSeasons.f (k + 1) a0) := by
  intro a0 k
  obtain ⟨ih0, ih1, ih2, ih3⟩ := laws_FnSeasons.mono_l k
  unfold laws_FnSeasons.f
  repeat' first
      | (with_reducible exact ih0 _ _ _ _)
      | (with_reducible exact ih1 _ _ _ _)
      | (with_reducible exact ih2 _ _ _ _)
      | (with_reducible exact ih3 _ _ _ _ _ _ _)
      | (with_reducible exact impl_AllRounds.mono _ _)
      | (with_reducible exact impl_MeetOnce.mono _ _ _)
      | (with_reducible exact impl_RestOf.mono _ _ _)
      | (with_reducible exact impl_RoundWith.mono _ _ _ _)
      | (with_reducible exact impl_SeasonRound.mono _ _ _)
      | (with_reducible exact laws_contains.mono _ _ _)
      | (with_reducible exact spec_DrawAllRounds.mono _ _)
      | (with_reducible exact spec_DrawMeetOnce.mono _ _)
      | (with_reducible exact spec_DrawRoundWith.mono _ _)
      | (with_reducible exact LeO.refl _)
      | (with_reducible exact LeO.none _)
      | (with_reducible refine LeO.ite ?_ ?_)
      | (with_reducible refine LeO.bind ?_ (fun _ => ?_))
      | exact ih0 _ _ _ _
      | exact ih1 _ _ _ _
      | exact ih2 _ _ _ _
      | exact ih3 _ _ _ _ _ _ _
      | exact impl_AllRounds.mono _ _
      | exact impl_MeetOnce.mono _ _ _
      | exact impl_RestOf.mono _ _ _
      | exact impl_RoundWith.mono _ _ _ _
      | exact impl_SeasonRound.mono _ _ _
      | exact laws_contains.mono _ _ _
      | exact spec_DrawAllRounds.mono _ _
      | exact spec_DrawMeetOnce.mono _ _
      | exact spec_DrawRoundWith.mono _ _
      | exact LeO.none _
      | refine LeO.ite ?_ ?_
      | refine LeO.bind ?_ (fun _ => ?_)
theorem laws_FnSeasons.j0_no : ∀ k a0 a1 a2, laws_FnSeasons.j0 k a0 a1 a2 true = some true → False := by
  intro k a0 a1 a2
  cases k <;> simp [laws_FnSeasons.j0]
set_option maxHeartbeats 8000000 in
set_option maxRecDepth 100000 in
theorem laws_FnSeasons.calls (k : Nat) (A0 : Option Addr) (c0 : Nat) (l0 : List Int) (r : Bool) (w : World) (hr0 : Kd.C (Kd.int .u8) w A0 l0.length l0) (hc0 : l0.length ≤ c0) (hr_ : r = true) (h : laws_FnSeasons.f k l0 = some r) :
    Calls Try.prog 14 #[.slice A0 l0.length c0] w fun e w' => e = .returned (.bool r) ∧ Below w.heap.size w w' := by
  have HR0 := Aside0.mk hr0
  have HC0 := Aside0.mk hc0
  clear hr0 hc0
  have HB := Aside0.mk (Below.refl w.heap.size w)
  have H : ((laws_big.f l0).bind fun t288 => (if t288 = true then (some true) else ((spec_DrawAllRounds.f k l0).bind fun t289 => ((impl_AllRounds.f k t289).bind fun t290 => (if t289 ≥ 2 then (if t289 ≤ 20 then (if ((decide ((t290.length : Int) > 0)) != ((Int.tmod t289 2) == 0)) = true then (laws_FnSeasons.j0 k l0 t289 t290 true) else (if (t290.length : Int) > 0 then (if (t290.length : Int) = (wrap64 (t289 - 1)) then ((impl_MeetOnce.f k t290 t289).bind fun t293 => (laws_FnSeasons.j0 k l0 t289 t290 (!t293))) else (laws_FnSeasons.j0 k l0 t289 t290 true)) else (laws_FnSeasons.j0 k l0 t289 t290 false))) else (if ((decide ((t290.length : Int) > 0)) != false) = true then (laws_FnSeasons.j0 k l0 t289 t290 true) else (if (t290.length : Int) > 0 then (if (t290.length : Int) = (wrap64 (t289 - 1)) then ((impl_MeetOnce.f k t290 t289).bind fun t294 => (laws_FnSeasons.j0 k l0 t289 t290 (!t294))) else (laws_FnSeasons.j0 k l0 t289 t290 true)) else (laws_FnSeasons.j0 k l0 t289 t290 false)))) else (if ((decide ((t290.length : Int) > 0)) != false) = true then (laws_FnSeasons.j0 k l0 t289 t290 true) else (if (t290.length : Int) > 0 then (if (t290.length : Int) = (wrap64 (t289 - 1)) then ((impl_MeetOnce.f k t290 t289).bind fun t295 => (laws_FnSeasons.j0 k l0 t289 t290 (!t295))) else (laws_FnSeasons.j0 k l0 t289 t290 true)) else (laws_FnSeasons.j0 k l0 t289 t290 false)))))))) = some r := h
  clear h
  replace H := Option.bind_eq_some_iff.mp H
  obtain ⟨t288, A20, H⟩ := H
  replace H : (if t288 = true then (some true) else ((spec_DrawAllRounds.f k l0).bind fun t289 => ((impl_AllRounds.f k t289).bind fun t290 => (if t289 ≥ 2 then (if t289 ≤ 20 then (if ((decide ((t290.length : Int) > 0)) != ((Int.tmod t289 2) == 0)) = true then (laws_FnSeasons.j0 k l0 t289 t290 true) else (if (t290.length : Int) > 0 then (if (t290.length : Int) = (wrap64 (t289 - 1)) then ((impl_MeetOnce.f k t290 t289).bind fun t293 => (laws_FnSeasons.j0 k l0 t289 t290 (!t293))) else (laws_FnSeasons.j0 k l0 t289 t290 true)) else (laws_FnSeasons.j0 k l0 t289 t290 false))) else (if ((decide ((t290.length : Int) > 0)) != false) = true then (laws_FnSeasons.j0 k l0 t289 t290 true) else (if (t290.length : Int) > 0 then (if (t290.length : Int) = (wrap64 (t289 - 1)) then ((impl_MeetOnce.f k t290 t289).bind fun t294 => (laws_FnSeasons.j0 k l0 t289 t290 (!t294))) else (laws_FnSeasons.j0 k l0 t289 t290 true)) else (laws_FnSeasons.j0 k l0 t289 t290 false)))) else (if ((decide ((t290.length : Int) > 0)) != false) = true then (laws_FnSeasons.j0 k l0 t289 t290 true) else (if (t290.length : Int) > 0 then (if (t290.length : Int) = (wrap64 (t289 - 1)) then ((impl_MeetOnce.f k t290 t289).bind fun t295 => (laws_FnSeasons.j0 k l0 t289 t290 (!t295))) else (laws_FnSeasons.j0 k l0 t289 t290 true)) else (laws_FnSeasons.j0 k l0 t289 t290 false))))))) = some r := H
  have A2 := Aside0.mk A20
  clear A20
  by_cases c3 : t288 = true
  · subst c3
    have H1 : (some true) = some r := by rw [if_pos rfl] at H; exact H
    clear H
    have H := H1
    clear H1
    obtain rfl := Option.some.inj H
    go_enter Try.func14, Try.ntmps14
    go_wp2_with (first | ((with_reducible refine gate_callee (f := 31) rfl ?_); refine goesL_ (some 16) rfl rfl Try.func31 (by kernel_rfl) rfl #[.slice A0 l0.length c0] rfl (by (try simp only [List.map_toArray, List.map_cons, List.map_nil]); first | done | rfl | (simp only [List.length_drop, List.length_take]; rfl)) ?_; (with_reducible refine (laws_big.calls _ _ l0 true _ ?side1 ?side2 A2.out).mono ?_); (case side1 => repeat (first | exact HR0.out | (with_reducible refine Kd.C_alloc ?_ _) | (with_reducible refine Kd.C_drewN ?_ _) | (with_reducible refine Kd.C_drew ?_))); (case side2 => exact HC0.out); rintro e w' ⟨rfl, ⟨nd, rfl⟩⟩; refine ⟨_, rfl, ?_⟩))
    go_ret
    exact ⟨by first | rfl | (simp [errW_none, errW_some] <;> rfl) | (simp [*, errW_none, errW_some] <;> rfl), by repeat (first | (with_reducible first | exact HB.out | apply below_alloc | apply pw_below_drewN | apply below_drew1) | exact HB.out)⟩
  · replace c3 := Bool.eq_false_iff.mpr c3
    subst c3
    have H1 : ((spec_DrawAllRounds.f k l0).bind fun t289 => ((impl_AllRounds.f k t289).bind fun t290 => (if t289 ≥ 2 then (if t289 ≤ 20 then (if ((decide ((t290.length : Int) > 0)) != ((Int.tmod t289 2) == 0)) = true then (laws_FnSeasons.j0 k l0 t289 t290 true) else (if (t290.length : Int) > 0 then (if (t290.length : Int) = (wrap64 (t289 - 1)) then ((impl_MeetOnce.f k t290 t289).bind fun t293 => (laws_FnSeasons.j0 k l0 t289 t290 (!t293))) else (laws_FnSeasons.j0 k l0 t289 t290 true)) else (laws_FnSeasons.j0 k l0 t289 t290 false))) else (if ((decide ((t290.length : Int) > 0)) != false) = true then (laws_FnSeasons.j0 k l0 t289 t290 true) else (if (t290.length : Int) > 0 then (if (t290.length : Int) = (wrap64 (t289 - 1)) then ((impl_MeetOnce.f k t290 t289).bind fun t294 => (laws_FnSeasons.j0 k l0 t289 t290 (!t294))) else (laws_FnSeasons.j0 k l0 t289 t290 true)) else (laws_FnSeasons.j0 k l0 t289 t290 false)))) else (if ((decide ((t290.length : Int) > 0)) != false) = true then (laws_FnSeasons.j0 k l0 t289 t290 true) else (if (t290.length : Int) > 0 then (if (t290.length : Int) = (wrap64 (t289 - 1)) then ((impl_MeetOnce.f k t290 t289).bind fun t295 => (laws_FnSeasons.j0 k l0 t289 t290 (!t295))) else (laws_FnSeasons.j0 k l0 t289 t290 true)) else (laws_FnSeasons.j0 k l0 t289 t290 false)))))) = some r := by rw [if_neg (show ¬ (false = true) by decide)] at H; exact H
    clear H
    have H := H1
    clear H1
    replace H := Option.bind_eq_some_iff.mp H
    obtain ⟨t289, A40, H⟩ := H
    replace H : ((impl_AllRounds.f k t289).bind fun t290 => (if t289 ≥ 2 then (if t289 ≤ 20 then (if ((decide ((t290.length : Int) > 0)) != ((Int.tmod t289 2) == 0)) = true then (laws_FnSeasons.j0 k l0 t289 t290 true) else (if (t290.length : Int) > 0 then (if (t290.length : Int) = (wrap64 (t289 - 1)) then ((impl_MeetOnce.f k t290 t289).bind fun t293 => (laws_FnSeasons.j0 k l0 t289 t290 (!t293))) else (laws_FnSeasons.j0 k l0 t289 t290 true)) else (laws_FnSeasons.j0 k l0 t289 t290 false))) else (if ((decide ((t290.length : Int) > 0)) != false) = true then (laws_FnSeasons.j0 k l0 t289 t290 true) else (if (t290.length : Int) > 0 then (if (t290.length : Int) = (wrap64 (t289 - 1)) then ((impl_MeetOnce.f k t290 t289).bind fun t294 => (laws_FnSeasons.j0 k l0 t289 t290 (!t294))) else (laws_FnSeasons.j0 k l0 t289 t290 true)) else (laws_FnSeasons.j0 k l0 t289 t290 false)))) else (if ((decide ((t290.length : Int) > 0)) != false) = true then (laws_FnSeasons.j0 k l0 t289 t290 true) else (if (t290.length : Int) > 0 then (if (t290.length : Int) = (wrap64 (t289 - 1)) then ((impl_MeetOnce.f k t290 t289).bind fun t295 => (laws_FnSeasons.j0 k l0 t289 t290 (!t295))) else (laws_FnSeasons.j0 k l0 t289 t290 true)) else (laws_FnSeasons.j0 k l0 t289 t290 false))))) = some r := H
    have A4 := Aside0.mk A40
    clear A40
    replace H := Option.bind_eq_some_iff.mp H
    obtain ⟨t290, A50, H⟩ := H
    replace H : (if t289 ≥ 2 then (if t289 ≤ 20 then (if ((decide ((t290.length : Int) > 0)) != ((Int.tmod t289 2) == 0)) = true then (laws_FnSeasons.j0 k l0 t289 t290 true) else (if (t290.length : Int) > 0 then (if (t290.length : Int) = (wrap64 (t289 - 1)) then ((impl_MeetOnce.f k t290 t289).bind fun t293 => (laws_FnSeasons.j0 k l0 t289 t290 (!t293))) else (laws_FnSeasons.j0 k l0 t289 t290 true)) else (laws_FnSeasons.j0 k l0 t289 t290 false))) else (if ((decide ((t290.length : Int) > 0)) != false) = true then (laws_FnSeasons.j0 k l0 t289 t290 true) else (if (t290.length : Int) > 0 then (if (t290.length : Int) = (wrap64 (t289 - 1)) then ((impl_MeetOnce.f k t290 t289).bind fun t294 => (laws_FnSeasons.j0 k l0 t289 t290 (!t294))) else (laws_FnSeasons.j0 k l0 t289 t290 true)) else (laws_FnSeasons.j0 k l0 t289 t290 false)))) else (if ((decide ((t290.length : Int) > 0)) != false) = true then (laws_FnSeasons.j0 k l0 t289 t290 true) else (if (t290.length : Int) > 0 then (if (t290.length : Int) = (wrap64 (t289 - 1)) then ((impl_MeetOnce.f k t290 t289).bind fun t295 => (laws_FnSeasons.j0 k l0 t289 t290 (!t295))) else (laws_FnSeasons.j0 k l0 t289 t290 true)) else (laws_FnSeasons.j0 k l0 t289 t290 false)))) = some r := H
    have A5 := Aside0.mk A50
    clear A50
    have HC6 := Aside0.mk H
    clear H
    go_enter Try.func14, Try.ntmps14
    go_upto_region 5 with (first | ((with_reducible refine gate_callee (f := 31) rfl ?_); refine goesL_ (some 16) rfl rfl Try.func31 (by kernel_rfl) rfl #[.slice A0 l0.length c0] rfl (by (try simp only [List.map_toArray, List.map_cons, List.map_nil]); first | done | rfl | (simp only [List.length_drop, List.length_take]; rfl)) ?_; (with_reducible refine (laws_big.calls _ _ l0 false _ ?side1 ?side2 A2.out).mono ?_); (case side1 => repeat (first | exact HR0.out | (with_reducible refine Kd.C_alloc ?_ _) | (with_reducible refine Kd.C_drewN ?_ _) | (with_reducible refine Kd.C_drew ?_))); (case side2 => exact HC0.out); rintro e w' ⟨rfl, ⟨nd, rfl⟩⟩; refine ⟨_, rfl, ?_⟩) | ((with_reducible refine gate_callee (f := 59) rfl ?_); refine goesL_ (some 18) rfl rfl Try.func59 (by kernel_rfl) rfl #[.slice A0 l0.length c0] rfl (by (try simp only [List.map_toArray, List.map_cons, List.map_nil]); first | done | rfl | (simp only [List.length_drop, List.length_take]; rfl)) ?_; (with_reducible refine (spec_DrawAllRounds.calls k _ _ l0 t289 _ ?side1 ?side2 A4.out).mono ?_); (case side1 => repeat (first | exact HR0.out | (with_reducible refine Kd.C_alloc ?_ _) | (with_reducible refine Kd.C_drewN ?_ _) | (with_reducible refine Kd.C_drew ?_))); (case side2 => exact HC0.out); rintro e w7 ⟨rfl, hb⟩; refine ⟨_, rfl, ?_⟩; have n0_ := Aside0.mk (below_step (by repeat (first | (with_reducible first | exact HB.out | apply below_alloc | apply pw_below_drewN | apply below_drew1) | exact HB.out)) hb); clear HB; have HB := n0_; clear n0_; (try clear hb); (try clear hb2); (try clear hk); (try clear hi)) | ((with_reducible refine gate_callee (f := 51) rfl ?_); refine goesL_ (some 20) rfl rfl Try.func51 (by kernel_rfl) rfl #[.int .i64 t289] rfl (by (try simp only [List.map_toArray, List.map_cons, List.map_nil]); first | done | rfl | (simp only [List.length_drop, List.length_take]; rfl)) ?_; (with_reducible refine (impl_AllRounds.calls k t289 t290 _ A5.out).mono ?_); rintro e w8 ⟨v291, rfl, ho0, hb⟩; refine ⟨_, rfl, ?_⟩; have n0_ := Aside0.mk (Kd.R_lower ho0 (below_size (by repeat (first | (with_reducible first | exact HB.out | apply below_alloc | apply pw_below_drewN | apply below_drew1) | exact HB.out)))); have n1_ := Aside0.mk (below_step (by repeat (first | (with_reducible first | exact HB.out | apply below_alloc | apply pw_below_drewN | apply below_drew1) | exact HB.out)) hb); clear HB; have HO292 := n0_; have HB := n1_; clear n0_ n1_; (try clear hb); (try clear hb2); (try clear hk); (try clear hi); (try clear ho0)))
    (try simp only [Act.put, List.setIfInBounds_toArray, List.set_cons_zero, List.set_cons_succ])
    go_cut [53] (fun v53 wc => ∃ (kq : Nat) (x53_5 : Bool), v53 = .bool x53_5 ∧ Aside0 (laws_FnSeasons.j0 kq l0 t289 t290 x53_5 = some r) ∧ Aside0 (kq ≤ k) ∧ Aside0 (Kd.R (Kd.slice 45 (Kd.slice 3 (Kd.int .i64))) 49 wc w.heap.size (fun _ => True) v291 t290) ∧ Aside0 (Below w.heap.size w wc))
    case first =>
      have H := HC6.out
      clear HC6
      by_cases c9 : t289 ≥ 2
      · rw [if_pos c9] at H
        have c9b0 : decide (2 ≤ t289) = true := decide_eq_true c9
        clear c9
        (first | rw [c9b0] | (simp only [i64_w, i32_w]; rw [c9b0]) | skip)
        by_cases c10 : t289 ≤ 20
        · rw [if_pos c10] at H
          have c10b0 : decide (t289 ≤ 20) = true := decide_eq_true c10
          clear c10
          by_cases c11 : ((decide ((t290.length : Int) > 0)) != ((Int.tmod t289 2) == 0)) = true
          · rw [if_pos c11] at H
            have c11b0 : ((decide ((t290.length : Int) > 0)) != ((Int.tmod t289 2) == 0)) = true := c11
            (try (have c11b1 : decide ((decide ((t290.length : Int) > 0)) = ((Int.tmod t289 2) == 0)) = false := by simpa using c11))
            (try (have c11b2 : ((decide ((t290.length : Int) > 0)) == ((Int.tmod t289 2) == 0)) = false := by simpa using c11))
            (try (have c11b3 : ¬ ((decide ((t290.length : Int) > 0)) = ((Int.tmod t289 2) == 0)) := by simpa using c11))
            clear c11
            exact absurd (H.trans (congrArg some hr_)) (fun h_ => laws_FnSeasons.j0_no _ _ _ _ h_)
          · rw [if_neg c11] at H
            have c11b0 : ((decide ((t290.length : Int) > 0)) != ((Int.tmod t289 2) == 0)) = false := by simpa using c11
            (try (have c11b1 : decide ((decide ((t290.length : Int) > 0)) = ((Int.tmod t289 2) == 0)) = true := by simpa using c11))
            (try (have c11b2 : ((decide ((t290.length : Int) > 0)) == ((Int.tmod t289 2) == 0)) = true := by simpa using c11))
            clear c11
            by_cases c13 : (t290.length : Int) > 0
            · rw [if_pos c13] at H
              have c13b0 : decide (0 < (t290.length : Int)) = true := decide_eq_true c13
              have c13b1 : decide (0 < t290.length) = true := decide_eq_true (by omega)
              have e11_ : (Int.tmod t289 2 == 0) = true := by rw [← bne_eq_false_iff_eq.mp c11b0]; exact decide_eq_true (of_decide_eq_true c13b0)
              have e12_ : Int.tmod t289 2 = 0 := beq_iff_eq.mp e11_
              clear c13
              by_cases c14 : (t290.length : Int) = (wrap64 (t289 - 1))
              · rw [if_pos c14] at H
                have c14b0 : ((t290.length : Int) == (wrap64 (t289 - 1))) = true := beq_iff_eq.mpr c14
                have c14b1 : ((t290.length : Int) != (wrap64 (t289 - 1))) = false := bne_eq_false_iff_eq.mpr c14
                clear c14
                replace H := Option.bind_eq_some_iff.mp H
                obtain ⟨t293, A150, H⟩ := H
                replace H : (laws_FnSeasons.j0 k l0 t289 t290 (!t293)) = some r := H
                have A15 := Aside0.mk A150
                clear A150
                have H' := Aside0.mk H
                clear H
                obtain ⟨Ao16, co16, eo16⟩ := Kd.R_slice HO292.out
                subst eo16
                go_wp2_with (first | (go_at_call 58; (with_reducible refine (impl_MeetOnce.calls k _ _ t290 t289 t293 _ ?side1 ?side2 A15.out).mono ?_); (case side1 => repeat (first | exact (Kd.R_reads' HO292.out).2.2 | (with_reducible refine Kd.C_alloc ?_ _) | (with_reducible refine Kd.C_drewN ?_ _) | (with_reducible refine Kd.C_drew ?_))); (case side2 => exact (Kd.R_reads' HO292.out).2.1); rintro e w17 ⟨rfl, hb⟩; have n0_ := Aside0.mk (Kd.R_below (by (with_reducible repeat (first | apply Kd.R_alloc | apply Kd.R_drewN | apply Kd.R_drew)); exact HO292.out) hb); have n1_ := Aside0.mk (below_step (by repeat (first | (with_reducible first | exact HB.out | apply below_alloc | apply pw_below_drewN | apply below_drew1) | exact HB.out)) hb); clear HO292; clear HB; have HO292 := n0_; have HB := n1_; clear n0_ n1_; (try clear hb); (try clear hb2); (try clear hk); (try clear hi)))
                go_meet
                case rel => exact ⟨_, (!t293), (by first | rfl | (simp; done) | (simp [*]; done)), H', ⟨by first | omega | exact Nat.le_refl _⟩, ⟨by (with_reducible repeat (first | apply Kd.R_alloc | apply Kd.R_drewN | apply Kd.R_drew)); exact HO292.out⟩, ⟨by repeat (first | (with_reducible first | exact HB.out | apply below_alloc | apply pw_below_drewN | apply below_drew1) | exact HB.out)⟩⟩
              · rw [if_neg c14] at H
                have c14b0 : ((t290.length : Int) == (wrap64 (t289 - 1))) = false := beq_eq_false_iff_ne.mpr c14
                have c14b1 : ((t290.length : Int) != (wrap64 (t289 - 1))) = true := bne_iff_ne.mpr c14
                exact absurd (H.trans (congrArg some hr_)) (fun h_ => laws_FnSeasons.j0_no _ _ _ _ h_)
            · rw [if_neg c13] at H
              have c13b0 : decide (0 < (t290.length : Int)) = false := decide_eq_false c13
              have c13b1 : decide (0 < t290.length) = false := decide_eq_false (by omega)
              have e11_ : (Int.tmod t289 2 == 0) = false := by rw [← bne_eq_false_iff_eq.mp c11b0]; exact decide_eq_false (of_decide_eq_false c13b0)
              have e12_ : ¬ Int.tmod t289 2 = 0 := beq_eq_false_iff_ne.mp e11_
              clear c13
              have H' := Aside0.mk H
              clear H
              obtain ⟨Ao19, co19, eo19⟩ := Kd.R_slice HO292.out
              subst eo19
              go_wp2
              go_meet
              case rel => exact ⟨_, (false), (by first | rfl | (simp; done) | (simp [*]; done)), H', ⟨by first | omega | exact Nat.le_refl _⟩, ⟨by (with_reducible repeat (first | apply Kd.R_alloc | apply Kd.R_drewN | apply Kd.R_drew)); exact HO292.out⟩, ⟨by repeat (first | (with_reducible first | exact HB.out | apply below_alloc | apply pw_below_drewN | apply below_drew1) | exact HB.out)⟩⟩
        · rw [if_neg c10] at H
          have c10b0 : decide (t289 ≤ 20) = false := decide_eq_false c10
          clear c10
          by_cases c20 : ((decide ((t290.length : Int) > 0)) != false) = true
          · rw [if_pos c20] at H
            have c20b0 : ((decide ((t290.length : Int) > 0)) != false) = true := c20
            (try (have c20b1 : decide ((decide ((t290.length : Int) > 0)) = false) = false := by simpa using c20))
            (try (have c20b2 : ((decide ((t290.length : Int) > 0)) == false) = false := by simpa using c20))
            (try (have c20b3 : ¬ ((decide ((t290.length : Int) > 0)) = false) := by simpa using c20))
            clear c20
            exact absurd (H.trans (congrArg some hr_)) (fun h_ => laws_FnSeasons.j0_no _ _ _ _ h_)
          · rw [if_neg c20] at H
            have c20b0 : ((decide ((t290.length : Int) > 0)) != false) = false := by simpa using c20
            (try (have c20b1 : decide ((decide ((t290.length : Int) > 0)) = false) = true := by simpa using c20))
            (try (have c20b2 : ((decide ((t290.length : Int) > 0)) == false) = true := by simpa using c20))
            clear c20
            by_cases c22 : (t290.length : Int) > 0
            · rw [if_pos c22] at H
              have c22b0 : decide (0 < (t290.length : Int)) = true := decide_eq_true c22
              have no_ := Aside0.mk (show False from by have q_ := bne_eq_false_iff_eq.mp c20b0; rw [decide_eq_false_iff_not] at q_; exact q_ c22)
              have c22b1 : decide (0 < t290.length) = true := decide_eq_true (by omega)
              clear c22
              by_cases c23 : (t290.length : Int) = (wrap64 (t289 - 1))
              · rw [if_pos c23] at H
                have c23b0 : ((t290.length : Int) == (wrap64 (t289 - 1))) = true := beq_iff_eq.mpr c23
                have c23b1 : ((t290.length : Int) != (wrap64 (t289 - 1))) = false := bne_eq_false_iff_eq.mpr c23
                clear c23
                replace H := Option.bind_eq_some_iff.mp H
                obtain ⟨t294, A240, H⟩ := H
                replace H : (laws_FnSeasons.j0 k l0 t289 t290 (!t294)) = some r := H
                have A24 := Aside0.mk A240
                clear A240
                have H' := Aside0.mk H
                clear H
                obtain ⟨Ao25, co25, eo25⟩ := Kd.R_slice HO292.out
                subst eo25
                go_wp2_with (first | (go_at_call 58; (with_reducible refine (impl_MeetOnce.calls k _ _ t290 t289 t294 _ ?side1 ?side2 A24.out).mono ?_); (case side1 => repeat (first | exact (Kd.R_reads' HO292.out).2.2 | (with_reducible refine Kd.C_alloc ?_ _) | (with_reducible refine Kd.C_drewN ?_ _) | (with_reducible refine Kd.C_drew ?_))); (case side2 => exact (Kd.R_reads' HO292.out).2.1); rintro e w26 ⟨rfl, hb⟩; have n0_ := Aside0.mk (Kd.R_below (by (with_reducible repeat (first | apply Kd.R_alloc | apply Kd.R_drewN | apply Kd.R_drew)); exact HO292.out) hb); have n1_ := Aside0.mk (below_step (by repeat (first | (with_reducible first | exact HB.out | apply below_alloc | apply pw_below_drewN | apply below_drew1) | exact HB.out)) hb); clear HO292; clear HB; have HO292 := n0_; have HB := n1_; clear n0_ n1_; (try clear hb); (try clear hb2); (try clear hk); (try clear hi)))
                go_meet
                case rel => exact ⟨_, (!t294), (by first | exact no_.out.elim | rfl | (simp; done) | (simp [*]; done)), H', ⟨by first | omega | exact Nat.le_refl _⟩, ⟨by (with_reducible repeat (first | apply Kd.R_alloc | apply Kd.R_drewN | apply Kd.R_drew)); exact HO292.out⟩, ⟨by repeat (first | (with_reducible first | exact HB.out | apply below_alloc | apply pw_below_drewN | apply below_drew1) | exact HB.out)⟩⟩
              · rw [if_neg c23] at H
                have c23b0 : ((t290.length : Int) == (wrap64 (t289 - 1))) = false := beq_eq_false_iff_ne.mpr c23
                have c23b1 : ((t290.length : Int) != (wrap64 (t289 - 1))) = true := bne_iff_ne.mpr c23
                exact absurd (H.trans (congrArg some hr_)) (fun h_ => laws_FnSeasons.j0_no _ _ _ _ h_)
            · rw [if_neg c22] at H
              have c22b0 : decide (0 < (t290.length : Int)) = false := decide_eq_false c22
              have c22b1 : decide (0 < t290.length) = false := decide_eq_false (by omega)
              clear c22
              have H' := Aside0.mk H
              clear H
              obtain ⟨Ao28, co28, eo28⟩ := Kd.R_slice HO292.out
              subst eo28
              go_wp2
              go_meet
              case rel => exact ⟨_, (false), (by first | rfl | (simp; done) | (simp [*]; done)), H', ⟨by first | omega | exact Nat.le_refl _⟩, ⟨by (with_reducible repeat (first | apply Kd.R_alloc | apply Kd.R_drewN | apply Kd.R_drew)); exact HO292.out⟩, ⟨by repeat (first | (with_reducible first | exact HB.out | apply below_alloc | apply pw_below_drewN | apply below_drew1) | exact HB.out)⟩⟩
      · rw [if_neg c9] at H
        have c9b0 : decide (2 ≤ t289) = false := decide_eq_false c9
        clear c9
        (first | rw [c9b0] | (simp only [i64_w, i32_w]; rw [c9b0]) | skip)
        by_cases c29 : ((decide ((t290.length : Int) > 0)) != false) = true
        · rw [if_pos c29] at H
          have c29b0 : ((decide ((t290.length : Int) > 0)) != false) = true := c29
          (try (have c29b1 : decide ((decide ((t290.length : Int) > 0)) = false) = false := by simpa using c29))
          (try (have c29b2 : ((decide ((t290.length : Int) > 0)) == false) = false := by simpa using c29))
          (try (have c29b3 : ¬ ((decide ((t290.length : Int) > 0)) = false) := by simpa using c29))
          clear c29
          exact absurd (H.trans (congrArg some hr_)) (fun h_ => laws_FnSeasons.j0_no _ _ _ _ h_)
        · rw [if_neg c29] at H
          have c29b0 : ((decide ((t290.length : Int) > 0)) != false) = false := by simpa using c29
          (try (have c29b1 : decide ((decide ((t290.length : Int) > 0)) = false) = true := by simpa using c29))
          (try (have c29b2 : ((decide ((t290.length : Int) > 0)) == false) = true := by simpa using c29))
          clear c29
          by_cases c31 : (t290.length : Int) > 0
          · rw [if_pos c31] at H
            have c31b0 : decide (0 < (t290.length : Int)) = true := decide_eq_true c31
            have no_ := Aside0.mk (show False from by have q_ := bne_eq_false_iff_eq.mp c29b0; rw [decide_eq_false_iff_not] at q_; exact q_ c31)
            have c31b1 : decide (0 < t290.length) = true := decide_eq_true (by omega)
            clear c31
            by_cases c32 : (t290.length : Int) = (wrap64 (t289 - 1))
            · rw [if_pos c32] at H
              have c32b0 : ((t290.length : Int) == (wrap64 (t289 - 1))) = true := beq_iff_eq.mpr c32
              have c32b1 : ((t290.length : Int) != (wrap64 (t289 - 1))) = false := bne_eq_false_iff_eq.mpr c32
              clear c32
              replace H := Option.bind_eq_some_iff.mp H
              obtain ⟨t295, A330, H⟩ := H
              replace H : (laws_FnSeasons.j0 k l0 t289 t290 (!t295)) = some r := H
              have A33 := Aside0.mk A330
              clear A330
              have H' := Aside0.mk H
              clear H
              obtain ⟨Ao34, co34, eo34⟩ := Kd.R_slice HO292.out
              subst eo34
              go_wp2_with (first | (go_at_call 58; (with_reducible refine (impl_MeetOnce.calls k _ _ t290 t289 t295 _ ?side1 ?side2 A33.out).mono ?_); (case side1 => repeat (first | exact (Kd.R_reads' HO292.out).2.2 | (with_reducible refine Kd.C_alloc ?_ _) | (with_reducible refine Kd.C_drewN ?_ _) | (with_reducible refine Kd.C_drew ?_))); (case side2 => exact (Kd.R_reads' HO292.out).2.1); rintro e w35 ⟨rfl, hb⟩; have n0_ := Aside0.mk (Kd.R_below (by (with_reducible repeat (first | apply Kd.R_alloc | apply Kd.R_drewN | apply Kd.R_drew)); exact HO292.out) hb); have n1_ := Aside0.mk (below_step (by repeat (first | (with_reducible first | exact HB.out | apply below_alloc | apply pw_below_drewN | apply below_drew1) | exact HB.out)) hb); clear HO292; clear HB; have HO292 := n0_; have HB := n1_; clear n0_ n1_; (try clear hb); (try clear hb2); (try clear hk); (try clear hi)))
              go_meet
              case rel => exact ⟨_, (!t295), (by first | exact no_.out.elim | rfl | (simp; done) | (simp [*]; done)), H', ⟨by first | omega | exact Nat.le_refl _⟩, ⟨by (with_reducible repeat (first | apply Kd.R_alloc | apply Kd.R_drewN | apply Kd.R_drew)); exact HO292.out⟩, ⟨by repeat (first | (with_reducible first | exact HB.out | apply below_alloc | apply pw_below_drewN | apply below_drew1) | exact HB.out)⟩⟩
            · rw [if_neg c32] at H
              have c32b0 : ((t290.length : Int) == (wrap64 (t289 - 1))) = false := beq_eq_false_iff_ne.mpr c32
              have c32b1 : ((t290.length : Int) != (wrap64 (t289 - 1))) = true := bne_iff_ne.mpr c32
              exact absurd (H.trans (congrArg some hr_)) (fun h_ => laws_FnSeasons.j0_no _ _ _ _ h_)
          · rw [if_neg c31] at H
            have c31b0 : decide (0 < (t290.length : Int)) = false := decide_eq_false c31
            have c31b1 : decide (0 < t290.length) = false := decide_eq_false (by omega)
            clear c31
            have H' := Aside0.mk H
            clear H
            obtain ⟨Ao37, co37, eo37⟩ := Kd.R_slice HO292.out
            subst eo37
            go_wp2
            go_meet
            case rel => exact ⟨_, (false), (by first | rfl | (simp; done) | (simp [*]; done)), H', ⟨by first | omega | exact Nat.le_refl _⟩, ⟨by (with_reducible repeat (first | apply Kd.R_alloc | apply Kd.R_drewN | apply Kd.R_drew)); exact HO292.out⟩, ⟨by repeat (first | (with_reducible first | exact HB.out | apply below_alloc | apply pw_below_drewN | apply below_drew1) | exact HB.out)⟩⟩
    case rest =>
      clear HC6
      try clear c1
      try clear c2
      try clear p2
      try clear c3
      try clear c5
      try clear p6
      try clear c9
      try clear c9b0
      try clear c10
      try clear c10b0
      try clear c11
      try clear c11b0
      try clear c11b1
      try clear c11b2
      try clear c13
      try clear c13b0
      try clear c13b1
      try clear c14
      try clear c14b0
      try clear c14b1
      try clear c20
      try clear c20b0
      try clear c20b1
      try clear c20b2
      try clear c22
      try clear c22b0
      try clear c22b1
      try clear c23
      try clear c23b0
      try clear c23b1
      try clear c29
      try clear c29b0
      try clear c29b1
      try clear c29b2
      try clear c31
      try clear c31b0
      try clear c31b1
      try clear c32
      try clear c32b0
      try clear c32b1
      obtain ⟨kq, x53_5, rfl, HA, HJ5, HO_4, HB⟩ := hcut
      cases kq with
      | zero => exact absurd HA.out (by simp [laws_FnSeasons.j0])
      | succ kj5 =>
        have H := HA.out
        clear HA
        simp only [laws_FnSeasons.j0] at H
        by_cases c38 : x53_5 = true
        · subst c38
          have H1 : (some false) = some r := by rw [if_pos rfl] at H; exact H
          clear H
          have H := H1
          clear H1
          exact absurd ((Option.some.inj H).trans hr_) (by decide)
        · replace c38 := Bool.eq_false_iff.mpr c38
          subst c38
          have H1 : (laws_FnSeasons.l0 kj5 l0 t289 t290 0) = some r := by rw [if_neg (show ¬ (false = true) by decide)] at H; exact H
          clear H
          have H := H1
          clear H1
          have H' := Aside0.mk H
          clear H
          go_wp2
          go_loopg [5] kj5 (fun kq v5 w' => ∃ (x5_2 : Int), v5 = .int .i64 x5_2 ∧ Aside0 (laws_FnSeasons.l0 kq l0 t289 t290 x5_2 = some r) ∧ Aside0 (kq ≤ kj5) ∧ Aside0 (Kd.R (Kd.slice 45 (Kd.slice 3 (Kd.int .i64))) 49 w' w.heap.size (fun _ => True) v291 t290) ∧ Aside0 (Below w.heap.size w w'))
          case atStart => exact ⟨(0), (by first | rfl | (simp; done) | (simp [*]; done)), H', ⟨Nat.le_refl _⟩, ⟨by (with_reducible repeat (first | apply Kd.R_alloc | apply Kd.R_drewN | apply Kd.R_drew)); exact HO_4.out⟩, ⟨by repeat (first | (with_reducible first | exact HB.out | apply below_alloc | apply pw_below_drewN | apply below_drew1) | exact HB.out)⟩⟩
          case round =>
            clear H'
            try clear c1
            try clear c2
            try clear p2
            try clear c3
            try clear c5
            try clear p6
            try clear c9
            try clear c9b0
            try clear c10
            try clear c10b0
            try clear c11
            try clear c11b0
            try clear c11b1
            try clear c11b2
            try clear c13
            try clear c13b0
            try clear c13b1
            try clear c14
            try clear c14b0
            try clear c14b1
            try clear c20
            try clear c20b0
            try clear c20b1
            try clear c20b2
            try clear c22
            try clear c22b0
            try clear c22b1
            try clear c23
            try clear c23b0
            try clear c23b1
            try clear c29
            try clear c29b0
            try clear c29b1
            try clear c29b2
            try clear c31
            try clear c31b0
            try clear c31b1
            try clear c32
            try clear c32b0
            try clear c32b1
            try clear c38
            try clear p2
            try clear p6
            obtain ⟨x5_2, rfl, HA, HK2, HO_4, HB⟩ := hrel
            cases gk with
            | zero => exact absurd HA.out (by simp [laws_FnSeasons.l0])
            | succ k2 =>
              have H := HA.out
              clear HA
              simp only [laws_FnSeasons.l0] at H
              by_cases c39 : x5_2 < (t290.length : Int)
              · rw [if_pos c39] at H
                have c39b0 : decide (x5_2 < (t290.length : Int)) = true := decide_eq_true c39
                clear c39
                by_cases c40 : 0 ≤ x5_2
                · rw [if_pos c40] at H
                  have c40b0 : decide (0 ≤ x5_2) = true := decide_eq_true c40
                  clear c40
                  replace H := Option.bind_eq_some_iff.mp H
                  obtain ⟨t297, A410, H⟩ := H
                  replace H : (if (t297.length : Int) = 0 then (laws_FnSeasons.l0 k2 l0 t289 t290 (wrap64 (x5_2 + 1))) else (some false)) = some r := H
                  have A41 := Aside0.mk A410
                  clear A410
                  by_cases c42 : (t297.length : Int) = 0
                  · rw [if_pos c42] at H
                    have c42b0 : ((t297.length : Int) == 0) = true := beq_iff_eq.mpr c42
                    have c42b1 : ((t297.length : Int) != 0) = false := bne_eq_false_iff_eq.mpr c42
                    clear c42
                    have H' := Aside0.mk H
                    clear H
                    obtain ⟨Ao43, co43, eo43⟩ := Kd.R_slice HO_4.out
                    subst eo43
                    have p296 : 0 ≤ (x5_2 : Int) := of_decide_eq_true (by first | (with_reducible assumption) | assumption)
                    have q296 : x5_2 < (t290.length : Int) := of_decide_eq_true (by first | (with_reducible assumption) | assumption)
                    obtain ⟨ad296, A296_0, c296_0, e296, hx296_0, hl296_0, hi296_0⟩ := at_L2 (Kd.R_reads' HO_4.out).2.2 x5_2 p296 q296
                    cases e296
                    obtain ⟨ce296, hce296, hMe296, hcc296⟩ := Kd.R_get HO_4.out [] x5_2 p296 (by first | exact q296 | exact of_decide_eq_true (by first | (with_reducible assumption) | assumption) | (have e_ := (Kd.R_reads' HO_4.out).1; omega))
                    obtain ⟨ve296_0, rfl, ge296_0⟩ := hMe296
                    have hv296_0 := hcc296 0 _ rfl
                    rw [Nat.add_zero, show ((Kd.slice 45 (Kd.slice 3 (Kd.int .i64)))).sz = 1 from rfl, Nat.mul_one] at hv296_0
                    replace hv296_0 := Option.some.inj (hv296_0.symm.trans hx296_0)
                    rw [hv296_0] at ge296_0
                    have HL296_0 := Aside0.mk (show Kd.R (Kd.slice 3 (Kd.int .i64)) 45 _ _ _ _ (rd_L2 t290 x5_2) from ge296_0)
                    clear hv296_0 ge296_0
                    clear hcc296 hce296
                    have HR296_0 := Aside0.mk hi296_0
                    have HC296_0 := Aside0.mk hl296_0
                    clear hi296_0 hl296_0
                    replace p296 := eq_true p296
                    replace q296 := eq_true q296
                    go_wp2_with (first | ((with_reducible refine gate_callee (f := 46) rfl ?_); refine goesL_ (some 65) rfl rfl Try.func46 (by kernel_rfl) rfl #[.slice A296_0 (rd_L2 t290 x5_2).length c296_0, .int .i64 t289] rfl (by (try simp only [List.map_toArray, List.map_cons, List.map_nil]); first | done | rfl | (simp only [List.length_drop, List.length_take]; rfl)) ?_; (with_reducible refine (impl_RestOf.calls k2 _ _ (rd_L2 t290 x5_2) t289 t297 _ ?side1 ?side2 A41.out).mono ?_); (case side1 => repeat (first | exact (by repeat (first | (with_reducible exact HR296_0.out) | (with_reducible refine Kd.C_alloc ?_ _) | (with_reducible refine Kd.C_drewN ?_ _) | (with_reducible refine Kd.C_drew ?_) | exact HR296_0.out)) | (with_reducible refine Kd.C_alloc ?_ _) | (with_reducible refine Kd.C_drewN ?_ _) | (with_reducible refine Kd.C_drew ?_))); (case side2 => exact HC296_0.out); rintro e w44 ⟨v298, rfl, ho0, hb⟩; refine ⟨_, rfl, ?_⟩; have n0_ := Aside0.mk (Kd.R_elder' (by (with_reducible repeat (first | apply Kd.R_alloc | apply Kd.R_drewN | apply Kd.R_drew)); exact HO_4.out) (Kd.R_base ho0) hb); have n1_ := Aside0.mk (Kd.R_elder' (by (with_reducible repeat (first | apply Kd.R_alloc | apply Kd.R_drewN | apply Kd.R_drew)); exact HL296_0.out) (Kd.R_base ho0) hb); have n2_ := Aside0.mk (Kd.R_lower ho0 (below_size (by repeat (first | (with_reducible first | exact HB.out | apply below_alloc | apply pw_below_drewN | apply below_drew1) | exact HB.out)))); have n3_ := Aside0.mk (Kd.C_below (by repeat (first | (with_reducible exact HR296_0.out) | (with_reducible refine Kd.C_alloc ?_ _) | (with_reducible refine Kd.C_drewN ?_ _) | (with_reducible refine Kd.C_drew ?_) | exact HR296_0.out)) hb); have n4_ := Aside0.mk (below_step (by repeat (first | (with_reducible first | exact HB.out | apply below_alloc | apply pw_below_drewN | apply below_drew1) | exact HB.out)) hb); clear HO_4; clear HL296_0; clear HR296_0; clear HB; have HO_4 := n0_; have HL296_0 := n1_; have HO299 := n2_; have HR296_0 := n3_; have HB := n4_; clear n0_ n1_ n2_ n3_ n4_; (try clear hb); (try clear hb2); (try clear hk); (try clear hi); (try clear ho0); obtain ⟨Ao45, co45, eo45⟩ := Kd.R_slice HO299.out; subst eo45))
                    go_roundg k2
                    case measure => have := HJ5.out; have := HK2.out; omega
                    case rel => exact ⟨(wrap64 (x5_2 + 1)), (by first | rfl | (simp; done) | (simp [*]; done)), H', ⟨by have := HJ5.out; have := HK2.out; omega⟩, ⟨by (with_reducible repeat (first | apply Kd.R_alloc | apply Kd.R_drewN | apply Kd.R_drew)); exact Kd.R_mono HO_4.out (fun _ hk => trivial)⟩, ⟨by repeat (first | (with_reducible first | exact HB.out | apply below_alloc | apply pw_below_drewN | apply below_drew1) | exact HB.out)⟩⟩
                  · rw [if_neg c42] at H
                    have c42b0 : ((t297.length : Int) == 0) = false := beq_eq_false_iff_ne.mpr c42
                    have c42b1 : ((t297.length : Int) != 0) = true := bne_iff_ne.mpr c42
                    have c42b2 : ¬ (t297 = []) := fun h_ => c42 (by rw [h_]; rfl)
                    exact absurd ((Option.some.inj H).trans hr_) (by decide)
                · rw [if_neg c40] at H
                  exact absurd H (by simp)
              · rw [if_neg c39] at H
                have c39b0 : decide (x5_2 < (t290.length : Int)) = false := decide_eq_false c39
                clear c39
                replace H := Option.bind_eq_some_iff.mp H
                obtain ⟨⟨t300, t301, t302⟩, A490, H⟩ := H
                replace H : ((impl_RoundWith.f k2 t300 t301 t302).bind fun t303 => (if t303 ≥ 0 then ((impl_SeasonRound.f k2 t300 t303).bind fun t304 => (laws_FnSeasons.l1 k2 l0 t300 t301 t302 false t304 0)) else (laws_FnSeasons.j3 k2 l0 t300 t301 t302))) = some r := H
                have A49 := Aside0.mk A490
                clear A490
                replace H := Option.bind_eq_some_iff.mp H
                obtain ⟨t303, A500, H⟩ := H
                replace H : (if t303 ≥ 0 then ((impl_SeasonRound.f k2 t300 t303).bind fun t304 => (laws_FnSeasons.l1 k2 l0 t300 t301 t302 false t304 0)) else (laws_FnSeasons.j3 k2 l0 t300 t301 t302)) = some r := H
                have A50 := Aside0.mk A500
                clear A500
                have HC51 := Aside0.mk H
                clear H
                obtain ⟨Ao52, co52, eo52⟩ := Kd.R_slice HO_4.out
                subst eo52
                go_upto_if 79 with (first | ((with_reducible refine gate_callee (f := 60) rfl ?_); refine goesL_ (some 70) rfl rfl Try.func60 (by kernel_rfl) rfl #[.slice A0 l0.length c0] rfl (by (try simp only [List.map_toArray, List.map_cons, List.map_nil]); first | done | rfl | (simp only [List.length_drop, List.length_take]; rfl)) ?_; (with_reducible refine (spec_DrawRoundWith.calls k2 _ _ l0 t300 t301 t302 _ ?side1 ?side2 A49.out).mono ?_); (case side1 => repeat (first | exact (Kd.C_below HR0.out HB.out) | (with_reducible refine Kd.C_alloc ?_ _) | (with_reducible refine Kd.C_drewN ?_ _) | (with_reducible refine Kd.C_drew ?_))); (case side2 => exact HC0.out); rintro e w53 ⟨rfl, hb⟩; refine ⟨_, rfl, ?_⟩; have n0_ := Aside0.mk (Kd.R_below (by (with_reducible repeat (first | apply Kd.R_alloc | apply Kd.R_drewN | apply Kd.R_drew)); exact HO_4.out) hb); have n1_ := Aside0.mk (below_step (by repeat (first | (with_reducible first | exact HB.out | apply below_alloc | apply pw_below_drewN | apply below_drew1) | exact HB.out)) hb); clear HO_4; clear HB; have HO_4 := n0_; have HB := n1_; clear n0_ n1_; (try clear hb); (try clear hb2); (try clear hk); (try clear hi)) | ((with_reducible refine gate_callee (f := 42) rfl ?_); refine goesL_ (some 77) rfl rfl Try.func42 (by kernel_rfl) rfl #[.int .i64 t300, .int .i64 t301, .int .i64 t302] rfl (by (try simp only [List.map_toArray, List.map_cons, List.map_nil]); first | done | rfl | (simp only [List.length_drop, List.length_take]; rfl)) ?_; (with_reducible refine (impl_RoundWith.calls k2 t300 t301 t302 t303 _ A50.out).mono ?_); rintro e w54 ⟨rfl, hb⟩; refine ⟨_, rfl, ?_⟩; have n0_ := Aside0.mk (Kd.R_below (by (with_reducible repeat (first | apply Kd.R_alloc | apply Kd.R_drewN | apply Kd.R_drew)); exact HO_4.out) hb); have n1_ := Aside0.mk (below_step (by repeat (first | (with_reducible first | exact HB.out | apply below_alloc | apply pw_below_drewN | apply below_drew1) | exact HB.out)) hb); clear HO_4; clear HB; have HO_4 := n0_; have HB := n1_; clear n0_ n1_; (try clear hb); (try clear hb2); (try clear hk); (try clear hi)))
                (try simp only [Act.put, List.setIfInBounds_toArray, List.set_cons_zero, List.set_cons_succ])
                go_cut [] (fun wc => ∃ (kq : Nat), Aside0 (laws_FnSeasons.j3 kq l0 t300 t301 t302 = some r) ∧ Aside0 (kq ≤ k2) ∧ Aside0 (Below w.heap.size w wc))
                case first =>
                  have H := HC51.out
                  clear HC51
                  by_cases c55 : t303 ≥ 0
                  · rw [if_pos c55] at H
                    have c55b0 : decide (0 ≤ t303) = true := decide_eq_true c55
                    clear c55
                    (first | rw [c55b0] | (simp only [i64_w, i32_w]; rw [c55b0]) | skip)
                    replace H := Option.bind_eq_some_iff.mp H
                    obtain ⟨t304, A560, H⟩ := H
                    replace H : (laws_FnSeasons.l1 k2 l0 t300 t301 t302 false t304 0) = some r := H
                    have A56 := Aside0.mk A560
                    clear A560
                    have H' := Aside0.mk H
                    clear H
                    go_wp2_with (first | ((with_reducible refine gate_callee (f := 37) rfl ?_); refine goesL_ (some 82) rfl rfl Try.func37 (by kernel_rfl) rfl #[.int .i64 t300, .int .i64 t303] rfl (by (try simp only [List.map_toArray, List.map_cons, List.map_nil]); first | done | rfl | (simp only [List.length_drop, List.length_take]; rfl)) ?_; (with_reducible refine (impl_SeasonRound.calls k2 t300 t303 t304 _ A56.out).mono ?_); rintro e w57 ⟨v305, rfl, ho0, hb⟩; refine ⟨_, rfl, ?_⟩; have n0_ := Aside0.mk (Kd.R_elder' (by (with_reducible repeat (first | apply Kd.R_alloc | apply Kd.R_drewN | apply Kd.R_drew)); exact HO_4.out) (Kd.S_base ho0) hb); have n1_ := Aside0.mk (Kd.S_lower ho0 (below_size (by repeat (first | (with_reducible first | exact HB.out | apply below_alloc | apply pw_below_drewN | apply below_drew1) | exact HB.out)))); have n2_ := Aside0.mk (below_step (by repeat (first | (with_reducible first | exact HB.out | apply below_alloc | apply pw_below_drewN | apply below_drew1) | exact HB.out)) hb); clear HO_4; clear HB; have HO_4 := n0_; have HO306 := n1_; have HB := n2_; clear n0_ n1_ n2_; (try clear hb); (try clear hb2); (try clear hk); (try clear hi); (try clear ho0)))
                    go_loopg [10, 12] k2 (fun kq v10 v12 w' => ∃ (x10_3 : Bool) (x12_3 : Int), v10 = .bool x10_3 ∧ v12 = .int .i64 x12_3 ∧ Aside0 (laws_FnSeasons.l1 kq l0 t300 t301 t302 x10_3 t304 x12_3 = some r) ∧ Aside0 (kq ≤ k2) ∧ Aside0 (Kd.S (Kd.slice 3 (Kd.int .i64)) 45 w' w.heap.size (fun _ => True) v305 t304) ∧ Aside0 (Below w.heap.size w w'))
                    case atStart => exact ⟨(false), (0), (by first | rfl | (simp; done) | (simp [*]; done)), (by first | rfl | (simp; done) | (simp [*]; done)), H', ⟨Nat.le_refl _⟩, ⟨by (with_reducible repeat (first | apply Kd.S_alloc | apply Kd.S_drewN | apply Kd.S_drew)); exact HO306.out⟩, ⟨by repeat (first | (with_reducible first | exact HB.out | apply below_alloc | apply pw_below_drewN | apply below_drew1) | exact HB.out)⟩⟩
                    case round =>
                      clear H'
                      try clear c1
                      try clear c2
                      try clear p2
                      try clear q2
                      try clear hx2
                      try clear c3
                      try clear c4
                      try clear c5
                      try clear c6
                      try clear p6
                      try clear c9
                      try clear c9b0
                      try clear c10
                      try clear c10b0
                      try clear c11
                      try clear c11b0
                      try clear c11b1
                      try clear c11b2
                      try clear c13
                      try clear c13b0
                      try clear c13b1
                      try clear c14
                      try clear c14b0
                      try clear c14b1
                      try clear c20
                      try clear c20b0
                      try clear c20b1
                      try clear c20b2
                      try clear c22
                      try clear c22b0
                      try clear c22b1
                      try clear c23
                      try clear c23b0
                      try clear c23b1
                      try clear c29
                      try clear c29b0
                      try clear c29b1
                      try clear c29b2
                      try clear p29
                      try clear q29
                      try clear hx29
                      try clear c31
                      try clear c31b0
                      try clear c31b1
                      try clear c32
                      try clear c32b0
                      try clear c32b1
                      try clear c37
                      try clear c38
                      try clear c39
                      try clear c39b0
                      try clear c40
                      try clear c40b0
                      try clear c42
                      try clear c42b0
                      try clear c42b1
                      try clear c42b2
                      try clear c46
                      try clear c51
                      try clear c55
                      try clear c55b0
                      try clear hx296_0
                      try clear p2
                      try clear p296
                      try clear p6
                      try clear q296
                      obtain ⟨x10_3, x12_3, rfl, rfl, HA, HK3, HO_11, HB⟩ := hrel
                      cases gk with
                      | zero => exact absurd HA.out (by simp [laws_FnSeasons.l1])
                      | succ k3 =>
                        have H := HA.out
                        clear HA
                        simp only [laws_FnSeasons.l1] at H
                        by_cases c58 : x12_3 < (t304.length : Int)
                        · rw [if_pos c58] at H
                          have c58b0 : decide (x12_3 < (t304.length : Int)) = true := decide_eq_true c58
                          clear c58
                          by_cases c59 : x10_3 = true
                          · subst c59
                            have H1 : (laws_FnSeasons.l1 k3 l0 t300 t301 t302 true t304 (wrap64 (x12_3 + 1))) = some r := by rw [if_pos rfl] at H; exact H
                            clear H
                            have H := H1
                            clear H1
                            have H' := Aside0.mk H
                            clear H
                            obtain ⟨Ao60, co60, eo60⟩ := Kd.S_slice HO_11.out
                            subst eo60
                            go_wp2
                            go_roundg k3
                            case measure => have := HJ5.out; have := HK2.out; have := HK3.out; omega
                            case rel => exact ⟨(true), (wrap64 (x12_3 + 1)), (by first | rfl | (simp; done) | (simp [*]; done)), (by first | rfl | (simp; done) | (simp [*]; done)), H', ⟨by have := HJ5.out; have := HK2.out; have := HK3.out; omega⟩, ⟨by (with_reducible repeat (first | apply Kd.S_alloc | apply Kd.S_drewN | apply Kd.S_drew)); exact HO_11.out⟩, ⟨by repeat (first | (with_reducible first | exact HB.out | apply below_alloc | apply pw_below_drewN | apply below_drew1) | exact HB.out)⟩⟩
                          · replace c59 := Bool.eq_false_iff.mpr c59
                            subst c59
                            have H1 : (if 0 ≤ x12_3 then ((laws_contains.f k3 (rd_L1 t304 x12_3) t301).bind fun t308 => (if t308 = true then ((laws_contains.f k3 (rd_L1 t304 x12_3) t302).bind fun t310 => (laws_FnSeasons.l1 k3 l0 t300 t301 t302 t310 t304 (wrap64 (x12_3 + 1)))) else (laws_FnSeasons.l1 k3 l0 t300 t301 t302 false t304 (wrap64 (x12_3 + 1))))) else (none)) = some r := by rw [if_neg (show ¬ (false = true) by decide)] at H; exact H
                            clear H
                            have H := H1
                            clear H1
                            by_cases c61 : 0 ≤ x12_3
                            · rw [if_pos c61] at H
                              have c61b0 : decide (0 ≤ x12_3) = true := decide_eq_true c61
                              clear c61
                              replace H := Option.bind_eq_some_iff.mp H
                              obtain ⟨t308, A620, H⟩ := H
                              replace H : (if t308 = true then ((laws_contains.f k3 (rd_L1 t304 x12_3) t302).bind fun t310 => (laws_FnSeasons.l1 k3 l0 t300 t301 t302 t310 t304 (wrap64 (x12_3 + 1)))) else (laws_FnSeasons.l1 k3 l0 t300 t301 t302 false t304 (wrap64 (x12_3 + 1)))) = some r := H
                              have A62 := Aside0.mk A620
                              clear A620
                              by_cases c63 : t308 = true
                              · subst c63
                                have H1 : ((laws_contains.f k3 (rd_L1 t304 x12_3) t302).bind fun t310 => (laws_FnSeasons.l1 k3 l0 t300 t301 t302 t310 t304 (wrap64 (x12_3 + 1)))) = some r := by rw [if_pos rfl] at H; exact H
                                clear H
                                have H := H1
                                clear H1
                                replace H := Option.bind_eq_some_iff.mp H
                                obtain ⟨t310, A640, H⟩ := H
                                replace H : (laws_FnSeasons.l1 k3 l0 t300 t301 t302 t310 t304 (wrap64 (x12_3 + 1))) = some r := H
                                have A64 := Aside0.mk A640
                                clear A640
                                have H' := Aside0.mk H
                                clear H
                                obtain ⟨Ao65, co65, eo65⟩ := Kd.S_slice HO_11.out
                                subst eo65
                                have p307 : 0 ≤ (x12_3 : Int) := of_decide_eq_true (by first | (with_reducible assumption) | assumption)
                                have q307 : x12_3 < (t304.length : Int) := of_decide_eq_true (by first | (with_reducible assumption) | assumption)
                                obtain ⟨ad307, A307_0, c307_0, e307, hx307_0, hl307_0, hi307_0⟩ := at_L1 (Kd.S_reads' HO_11.out).2.2 x12_3 p307 q307
                                cases e307
                                obtain ⟨ce307, hce307, hMe307, hcc307⟩ := Kd.S_get HO_11.out [] x12_3 p307 (by first | exact q307 | exact of_decide_eq_true (by first | (with_reducible assumption) | assumption) | (have e_ := (Kd.S_reads' HO_11.out).1; omega))
                                obtain ⟨ve307_0, rfl, ge307_0⟩ := hMe307
                                have hv307_0 := hcc307 0 _ rfl
                                rw [Nat.add_zero, show ((Kd.slice 3 (Kd.int .i64))).sz = 1 from rfl, Nat.mul_one] at hv307_0
                                replace hv307_0 := Option.some.inj (hv307_0.symm.trans hx307_0)
                                rw [hv307_0] at ge307_0
                                have HL307_0 := Aside0.mk (show Kd.R (Kd.int .i64) 3 _ _ _ _ (rd_L1 t304 x12_3) from ge307_0)
                                clear hv307_0 ge307_0
                                clear hcc307 hce307
                                have HR307_0 := Aside0.mk hi307_0
                                have HC307_0 := Aside0.mk hl307_0
                                clear hi307_0 hl307_0
                                replace p307 := eq_true p307
                                replace q307 := eq_true q307
                                go_wp2_with (first | (go_at_call 33; (with_reducible refine (laws_contains.calls k3 _ _ (rd_L1 t304 x12_3) t301 true _ ?side1 ?side2 A62.out).mono ?_); (case side1 => repeat (first | exact (by repeat (first | (with_reducible exact HR307_0.out) | (with_reducible refine Kd.C_alloc ?_ _) | (with_reducible refine Kd.C_drewN ?_ _) | (with_reducible refine Kd.C_drew ?_) | exact HR307_0.out)) | (with_reducible refine Kd.C_alloc ?_ _) | (with_reducible refine Kd.C_drewN ?_ _) | (with_reducible refine Kd.C_drew ?_))); (case side2 => exact HC307_0.out); rintro e w' ⟨rfl, ⟨nd, rfl⟩⟩; have p309 : 0 ≤ (x12_3 : Int) := of_decide_eq_true (by first | (with_reducible assumption) | assumption); have q309 : x12_3 < (t304.length : Int) := of_decide_eq_true (by first | (with_reducible assumption) | assumption); obtain ⟨ad309, A309_0, c309_0, e309, hx309_0, hl309_0, hi309_0⟩ := at_L1 (Kd.S_reads' HO_11.out).2.2 x12_3 p309 q309; obtain rfl : ad307 = ad309 := (by injection e309); obtain ⟨ce309, hce309, hMe309, hcc309⟩ := Kd.S_get HO_11.out [] x12_3 p309 (by first | exact q309 | exact of_decide_eq_true (by first | (with_reducible assumption) | assumption) | (have e_ := (Kd.S_reads' HO_11.out).1; omega)); obtain ⟨ve309_0, rfl, ge309_0⟩ := hMe309; have hv309_0 := hcc309 0 _ rfl; rw [Nat.add_zero, show ((Kd.slice 3 (Kd.int .i64))).sz = 1 from rfl, Nat.mul_one] at hv309_0; replace hv309_0 := Option.some.inj (hv309_0.symm.trans hx309_0); rw [hv309_0] at ge309_0; have HL309_0 := Aside0.mk (show Kd.R (Kd.int .i64) 3 _ _ _ _ (rd_L1 t304 x12_3) from ge309_0); clear hv309_0 ge309_0; clear hcc309 hce309; have HR309_0 := Aside0.mk hi309_0; have HC309_0 := Aside0.mk hl309_0; clear hi309_0 hl309_0; replace p309 := eq_true p309; replace q309 := eq_true q309; have ea_ := Option.some.inj (hx307_0.symm.trans hx309_0); injection ea_ with ea_ en_ ec_; subst ea_; subst ec_; clear en_) | (go_at_call 33; (with_reducible refine (laws_contains.calls k3 _ _ (rd_L1 t304 x12_3) t302 t310 _ ?side1 ?side2 A64.out).mono ?_); (case side1 => repeat (first | exact (by repeat (first | (with_reducible exact HR309_0.out) | (with_reducible refine Kd.C_alloc ?_ _) | (with_reducible refine Kd.C_drewN ?_ _) | (with_reducible refine Kd.C_drew ?_) | exact HR309_0.out)) | (with_reducible refine Kd.C_alloc ?_ _) | (with_reducible refine Kd.C_drewN ?_ _) | (with_reducible refine Kd.C_drew ?_))); (case side2 => exact HC309_0.out); rintro e w' ⟨rfl, ⟨nd, rfl⟩⟩))
                                go_roundg k3
                                case measure => have := HJ5.out; have := HK2.out; have := HK3.out; omega
                                case rel => exact ⟨(t310), (wrap64 (x12_3 + 1)), (by first | rfl | (simp; done) | (simp [*]; done)), (by first | rfl | (simp; done) | (simp [*]; done)), H', ⟨by have := HJ5.out; have := HK2.out; have := HK3.out; omega⟩, ⟨by (with_reducible repeat (first | apply Kd.S_alloc | apply Kd.S_drewN | apply Kd.S_drew)); exact HO_11.out⟩, ⟨by repeat (first | (with_reducible first | exact HB.out | apply below_alloc | apply pw_below_drewN | apply below_drew1) | exact HB.out)⟩⟩
                              · replace c63 := Bool.eq_false_iff.mpr c63
                                subst c63
                                have H1 : (laws_FnSeasons.l1 k3 l0 t300 t301 t302 false t304 (wrap64 (x12_3 + 1))) = some r := by rw [if_neg (show ¬ (false = true) by decide)] at H; exact H
                                clear H
                                have H := H1
                                clear H1
                                have H' := Aside0.mk H
                                clear H
                                obtain ⟨Ao66, co66, eo66⟩ := Kd.S_slice HO_11.out
                                subst eo66
                                have p307 : 0 ≤ (x12_3 : Int) := of_decide_eq_true (by first | (with_reducible assumption) | assumption)
                                have q307 : x12_3 < (t304.length : Int) := of_decide_eq_true (by first | (with_reducible assumption) | assumption)
                                obtain ⟨ad307, A307_0, c307_0, e307, hx307_0, hl307_0, hi307_0⟩ := at_L1 (Kd.S_reads' HO_11.out).2.2 x12_3 p307 q307
                                cases e307
                                obtain ⟨ce307, hce307, hMe307, hcc307⟩ := Kd.S_get HO_11.out [] x12_3 p307 (by first | exact q307 | exact of_decide_eq_true (by first | (with_reducible assumption) | assumption) | (have e_ := (Kd.S_reads' HO_11.out).1; omega))
                                obtain ⟨ve307_0, rfl, ge307_0⟩ := hMe307
                                have hv307_0 := hcc307 0 _ rfl
                                rw [Nat.add_zero, show ((Kd.slice 3 (Kd.int .i64))).sz = 1 from rfl, Nat.mul_one] at hv307_0
                                replace hv307_0 := Option.some.inj (hv307_0.symm.trans hx307_0)
                                rw [hv307_0] at ge307_0
                                have HL307_0 := Aside0.mk (show Kd.R (Kd.int .i64) 3 _ _ _ _ (rd_L1 t304 x12_3) from ge307_0)
                                clear hv307_0 ge307_0
                                clear hcc307 hce307
                                have HR307_0 := Aside0.mk hi307_0
                                have HC307_0 := Aside0.mk hl307_0
                                clear hi307_0 hl307_0
                                replace p307 := eq_true p307
                                replace q307 := eq_true q307
                                go_wp2_with (first | (go_at_call 33; (with_reducible refine (laws_contains.calls k3 _ _ (rd_L1 t304 x12_3) t301 false _ ?side1 ?side2 A62.out).mono ?_); (case side1 => repeat (first | exact (by repeat (first | (with_reducible exact HR307_0.out) | (with_reducible refine Kd.C_alloc ?_ _) | (with_reducible refine Kd.C_drewN ?_ _) | (with_reducible refine Kd.C_drew ?_) | exact HR307_0.out)) | (with_reducible refine Kd.C_alloc ?_ _) | (with_reducible refine Kd.C_drewN ?_ _) | (with_reducible refine Kd.C_drew ?_))); (case side2 => exact HC307_0.out); rintro e w' ⟨rfl, ⟨nd, rfl⟩⟩))
                                go_roundg k3
                                case measure => have := HJ5.out; have := HK2.out; have := HK3.out; omega
                                case rel => exact ⟨(false), (wrap64 (x12_3 + 1)), (by first | rfl | (simp; done) | (simp [*]; done)), (by first | rfl | (simp; done) | (simp [*]; done)), H', ⟨by have := HJ5.out; have := HK2.out; have := HK3.out; omega⟩, ⟨by (with_reducible repeat (first | apply Kd.S_alloc | apply Kd.S_drewN | apply Kd.S_drew)); exact HO_11.out⟩, ⟨by repeat (first | (with_reducible first | exact HB.out | apply below_alloc | apply pw_below_drewN | apply below_drew1) | exact HB.out)⟩⟩
                            · rw [if_neg c61] at H
                              exact absurd H (by simp)
                        · rw [if_neg c58] at H
                          have c58b0 : decide (x12_3 < (t304.length : Int)) = false := decide_eq_false c58
                          clear c58
                          by_cases c67 : x10_3 = true
                          · subst c67
                            have H1 : (laws_FnSeasons.j3 k3 l0 t300 t301 t302) = some r := by rw [if_pos rfl] at H; exact H
                            clear H
                            have H := H1
                            clear H1
                            have H' := Aside0.mk H
                            clear H
                            obtain ⟨Ao68, co68, eo68⟩ := Kd.S_slice HO_11.out
                            subst eo68
                            go_wp2
                            go_meet
                            case rel => exact ⟨_, H', ⟨by have := HJ5.out; have := HK2.out; have := HK3.out; first | omega | exact Nat.le_refl _⟩, ⟨by repeat (first | (with_reducible first | exact HB.out | apply below_alloc | apply pw_below_drewN | apply below_drew1) | exact HB.out)⟩⟩
                          · replace c67 := Bool.eq_false_iff.mpr c67
                            subst c67
                            have H1 : (some false) = some r := by rw [if_neg (show ¬ (false = true) by decide)] at H; exact H
                            clear H
                            have H := H1
                            clear H1
                            exact absurd ((Option.some.inj H).trans hr_) (by decide)
                  · rw [if_neg c55] at H
                    have c55b0 : decide (0 ≤ t303) = false := decide_eq_false c55
                    clear c55
                    (first | rw [c55b0] | (simp only [i64_w, i32_w]; rw [c55b0]) | skip)
                    have H' := Aside0.mk H
                    clear H
                    go_wp2
                    go_meet
                    case rel => exact ⟨_, H', ⟨by have := HJ5.out; have := HK2.out; first | omega | exact Nat.le_refl _⟩, ⟨by repeat (first | (with_reducible first | exact HB.out | apply below_alloc | apply pw_below_drewN | apply below_drew1) | exact HB.out)⟩⟩
                case rest =>
                  clear HC51
                  try clear c1
                  try clear c2
                  try clear p2
                  try clear q2
                  try clear hx2
                  try clear c3
                  try clear p3
                  try clear q3
                  try clear hx3
                  try clear c4
                  try clear c5
                  try clear c6
                  try clear p6
                  try clear c9
                  try clear c9b0
                  try clear c10
                  try clear c10b0
                  try clear c11
                  try clear c11b0
                  try clear c11b1
                  try clear c11b2
                  try clear c13
                  try clear c13b0
                  try clear c13b1
                  try clear c14
                  try clear c14b0
                  try clear c14b1
                  try clear c20
                  try clear c20b0
                  try clear c20b1
                  try clear c20b2
                  try clear c22
                  try clear c22b0
                  try clear c22b1
                  try clear c23
                  try clear c23b0
                  try clear c23b1
                  try clear c29
                  try clear c29b0
                  try clear c29b1
                  try clear c29b2
                  try clear p29
                  try clear q29
                  try clear hx29
                  try clear c30
                  try clear p30
                  try clear q30
                  try clear hx30
                  try clear c31
                  try clear c31b0
                  try clear c31b1
                  try clear c32
                  try clear c32b0
                  try clear c32b1
                  try clear c37
                  try clear c38
                  try clear c39
                  try clear c39b0
                  try clear c40
                  try clear c40b0
                  try clear c42
                  try clear c42b0
                  try clear c42b1
                  try clear c42b2
                  try clear c46
                  try clear c51
                  try clear c55
                  try clear c55b0
                  try clear c58
                  try clear c58b0
                  try clear c59
                  try clear c60
                  try clear c61
                  try clear c61b0
                  try clear c63
                  try clear p64
                  try clear c67
                  try clear hx296_0
                  try clear hx307_0
                  try clear hx309_0
                  try clear p2
                  try clear p29
                  try clear p296
                  try clear p307
                  try clear p309
                  try clear p6
                  try clear q2
                  try clear q29
                  try clear q296
                  try clear q307
                  try clear q309
                  obtain ⟨kq, HA, HJ50, HB⟩ := hcut
                  cases kq with
                  | zero => exact absurd HA.out (by simp [laws_FnSeasons.j3])
                  | succ kj50 =>
                    have H := HA.out
                    clear HA
                    simp only [laws_FnSeasons.j3] at H
                    replace H := Option.bind_eq_some_iff.mp H
                    obtain ⟨⟨t311, t312⟩, A700, H⟩ := H
                    replace H : ((impl_MeetOnce.f kj50 t311 t312).bind fun t315 => (if t315 = true then (if t312 ≥ 2 then ((impl_RoundWith.f kj50 t300 t301 t302).bind fun t316 => ((impl_RoundWith.f kj50 t300 t302 t301).bind fun t317 => (some (t316 == t317)))) else (some false)) else (some true))) = some r := H
                    have A70 := Aside0.mk A700
                    clear A700
                    replace H := Option.bind_eq_some_iff.mp H
                    obtain ⟨t315, A710, H⟩ := H
                    replace H : (if t315 = true then (if t312 ≥ 2 then ((impl_RoundWith.f kj50 t300 t301 t302).bind fun t316 => ((impl_RoundWith.f kj50 t300 t302 t301).bind fun t317 => (some (t316 == t317)))) else (some false)) else (some true)) = some r := H
                    have A71 := Aside0.mk A710
                    clear A710
                    by_cases c72 : t315 = true
                    · subst c72
                      have H1 : (if t312 ≥ 2 then ((impl_RoundWith.f kj50 t300 t301 t302).bind fun t316 => ((impl_RoundWith.f kj50 t300 t302 t301).bind fun t317 => (some (t316 == t317)))) else (some false)) = some r := by rw [if_pos rfl] at H; exact H
                      clear H
                      have H := H1
                      clear H1
                      by_cases c73 : t312 ≥ 2
                      · rw [if_pos c73] at H
                        have c73b0 : decide (2 ≤ t312) = true := decide_eq_true c73
                        clear c73
                        replace H := Option.bind_eq_some_iff.mp H
                        obtain ⟨t316, A740, H⟩ := H
                        replace H : ((impl_RoundWith.f kj50 t300 t302 t301).bind fun t317 => (some (t316 == t317))) = some r := H
                        have A74 := Aside0.mk A740
                        clear A740
                        replace H := Option.bind_eq_some_iff.mp H
                        obtain ⟨t317, A750, H⟩ := H
                        replace H : (some (t316 == t317)) = some r := H
                        have A75 := Aside0.mk A750
                        clear A750
                        obtain rfl := Option.some.inj H
                        go_wp2_with (first | ((with_reducible refine gate_callee (f := 61) rfl ?_); refine goesL_ (some 110) rfl rfl Try.func61 (by kernel_rfl) rfl #[.slice A0 l0.length c0] rfl (by (try simp only [List.map_toArray, List.map_cons, List.map_nil]); first | done | rfl | (simp only [List.length_drop, List.length_take]; rfl)) ?_; (with_reducible refine (spec_DrawMeetOnce.calls kj50 _ _ l0 t311 t312 _ ?side1 ?side2 A70.out).mono ?_); (case side1 => repeat (first | exact (Kd.C_below HR0.out HB.out) | (with_reducible refine Kd.C_alloc ?_ _) | (with_reducible refine Kd.C_drewN ?_ _) | (with_reducible refine Kd.C_drew ?_))); (case side2 => exact HC0.out); rintro e w76 ⟨v313, rfl, ho0, hb⟩; refine ⟨_, rfl, ?_⟩; have n0_ := Aside0.mk (Kd.Q_lower ho0 (below_size (by repeat (first | (with_reducible first | exact HB.out | apply below_alloc | apply pw_below_drewN | apply below_drew1) | exact HB.out)))); have n1_ := Aside0.mk (below_step (by repeat (first | (with_reducible first | exact HB.out | apply below_alloc | apply pw_below_drewN | apply below_drew1) | exact HB.out)) hb); clear HB; have HO314 := n0_; have HB := n1_; clear n0_ n1_; (try clear hb); (try clear hb2); (try clear hk); (try clear hi); (try clear ho0); obtain ⟨Ao77, co77, eo77, _⟩ := Kd.Q_slice HO314.out; subst eo77) | ((with_reducible refine gate_callee (f := 58) rfl ?_); refine goesL_ (some 115) rfl rfl Try.func58 (by kernel_rfl) rfl #[.slice Ao77 t311.length co77, .int .i64 t312] rfl (by (try simp only [List.map_toArray, List.map_cons, List.map_nil]); first | done | rfl | (simp only [List.length_drop, List.length_take]; rfl)) ?_; (with_reducible refine (impl_MeetOnce.calls kj50 _ _ t311 t312 true _ ?side1 ?side2 A71.out).mono ?_); (case side1 => repeat (first | exact (Kd.Q_reads' HO314.out).2.2 | (with_reducible refine Kd.C_alloc ?_ _) | (with_reducible refine Kd.C_drewN ?_ _) | (with_reducible refine Kd.C_drew ?_))); (case side2 => exact (Kd.Q_reads' HO314.out).2.1); rintro e w78 ⟨rfl, hb⟩; refine ⟨_, rfl, ?_⟩; have n0_ := Aside0.mk (Kd.Q_below (by (with_reducible repeat (first | apply Kd.Q_alloc | apply Kd.Q_drewN | apply Kd.Q_drew)); exact HO314.out) hb); have n1_ := Aside0.mk (below_step (by repeat (first | (with_reducible first | exact HB.out | apply below_alloc | apply pw_below_drewN | apply below_drew1) | exact HB.out)) hb); clear HO314; clear HB; have HO314 := n0_; have HB := n1_; clear n0_ n1_; (try clear hb); (try clear hb2); (try clear hk); (try clear hi)) | (go_at_call 42; (with_reducible refine (impl_RoundWith.calls kj50 t300 t301 t302 t316 _ A74.out).mono ?_); rintro e w79 ⟨rfl, hb⟩; have n0_ := Aside0.mk (Kd.Q_below (by (with_reducible repeat (first | apply Kd.Q_alloc | apply Kd.Q_drewN | apply Kd.Q_drew)); exact HO314.out) hb); have n1_ := Aside0.mk (below_step (by repeat (first | (with_reducible first | exact HB.out | apply below_alloc | apply pw_below_drewN | apply below_drew1) | exact HB.out)) hb); clear HO314; clear HB; have HO314 := n0_; have HB := n1_; clear n0_ n1_; (try clear hb); (try clear hb2); (try clear hk); (try clear hi)) | (go_at_call 42; (with_reducible refine (impl_RoundWith.calls kj50 t300 t302 t301 t317 _ A75.out).mono ?_); rintro e w80 ⟨rfl, hb⟩; have n0_ := Aside0.mk (Kd.Q_below (by (with_reducible repeat (first | apply Kd.Q_alloc | apply Kd.Q_drewN | apply Kd.Q_drew)); exact HO314.out) hb); have n1_ := Aside0.mk (below_step (by repeat (first | (with_reducible first | exact HB.out | apply below_alloc | apply pw_below_drewN | apply below_drew1) | exact HB.out)) hb); clear HO314; clear HB; have HO314 := n0_; have HB := n1_; clear n0_ n1_; (try clear hb); (try clear hb2); (try clear hk); (try clear hi)))
                        go_ret
                        exact ⟨by first | rfl | (simp [errW_none, errW_some] <;> rfl) | (simp [*, errW_none, errW_some] <;> rfl), by repeat (first | (with_reducible first | exact HB.out | apply below_alloc | apply pw_below_drewN | apply below_drew1) | exact HB.out)⟩
                      · rw [if_neg c73] at H
                        have c73b0 : decide (2 ≤ t312) = false := decide_eq_false c73
                        clear c73
                        exact absurd ((Option.some.inj H).trans hr_) (by decide)
                    · replace c72 := Bool.eq_false_iff.mpr c72
                      subst c72
                      have H1 : (some true) = some r := by rw [if_neg (show ¬ (false = true) by decide)] at H; exact H
                      clear H
                      have H := H1
                      clear H1
                      obtain rfl := Option.some.inj H
                      go_wp2_with (first | ((with_reducible refine gate_callee (f := 61) rfl ?_); refine goesL_ (some 110) rfl rfl Try.func61 (by kernel_rfl) rfl #[.slice A0 l0.length c0] rfl (by (try simp only [List.map_toArray, List.map_cons, List.map_nil]); first | done | rfl | (simp only [List.length_drop, List.length_take]; rfl)) ?_; (with_reducible refine (spec_DrawMeetOnce.calls kj50 _ _ l0 t311 t312 _ ?side1 ?side2 A70.out).mono ?_); (case side1 => repeat (first | exact (Kd.C_below HR0.out HB.out) | (with_reducible refine Kd.C_alloc ?_ _) | (with_reducible refine Kd.C_drewN ?_ _) | (with_reducible refine Kd.C_drew ?_))); (case side2 => exact HC0.out); rintro e w84 ⟨v313, rfl, ho0, hb⟩; refine ⟨_, rfl, ?_⟩; have n0_ := Aside0.mk (Kd.Q_lower ho0 (below_size (by repeat (first | (with_reducible first | exact HB.out | apply below_alloc | apply pw_below_drewN | apply below_drew1) | exact HB.out)))); have n1_ := Aside0.mk (below_step (by repeat (first | (with_reducible first | exact HB.out | apply below_alloc | apply pw_below_drewN | apply below_drew1) | exact HB.out)) hb); clear HB; have HO314 := n0_; have HB := n1_; clear n0_ n1_; (try clear hb); (try clear hb2); (try clear hk); (try clear hi); (try clear ho0); obtain ⟨Ao85, co85, eo85, _⟩ := Kd.Q_slice HO314.out; subst eo85) | ((with_reducible refine gate_callee (f := 58) rfl ?_); refine goesL_ (some 115) rfl rfl Try.func58 (by kernel_rfl) rfl #[.slice Ao85 t311.length co85, .int .i64 t312] rfl (by (try simp only [List.map_toArray, List.map_cons, List.map_nil]); first | done | rfl | (simp only [List.length_drop, List.length_take]; rfl)) ?_; (with_reducible refine (impl_MeetOnce.calls kj50 _ _ t311 t312 false _ ?side1 ?side2 A71.out).mono ?_); (case side1 => repeat (first | exact (Kd.Q_reads' HO314.out).2.2 | (with_reducible refine Kd.C_alloc ?_ _) | (with_reducible refine Kd.C_drewN ?_ _) | (with_reducible refine Kd.C_drew ?_))); (case side2 => exact (Kd.Q_reads' HO314.out).2.1); rintro e w86 ⟨rfl, hb⟩; refine ⟨_, rfl, ?_⟩; have n0_ := Aside0.mk (Kd.Q_below (by (with_reducible repeat (first | apply Kd.Q_alloc | apply Kd.Q_drewN | apply Kd.Q_drew)); exact HO314.out) hb); have n1_ := Aside0.mk (below_step (by repeat (first | (with_reducible first | exact HB.out | apply below_alloc | apply pw_below_drewN | apply below_drew1) | exact HB.out)) hb); clear HO314; clear HB; have HO314 := n0_; have HB := n1_; clear n0_ n1_; (try clear hb); (try clear hb2); (try clear hk); (try clear hi)))
                      go_ret
                      exact ⟨by first | rfl | (simp [errW_none, errW_some] <;> rfl) | (simp [*, errW_none, errW_some] <;> rfl), by repeat (first | (with_reducible first | exact HB.out | apply below_alloc | apply pw_below_drewN | apply below_drew1) | exact HB.out)⟩

/-- THE ONE PURE STATEMENT of laws_FnSeasons: yours. -/
def laws_FnSeasons.Pure : Prop := ∀ (l0 : List Int), l0.length ≤ maxLen → l0.length * 1 ≤ 140737488351232 → (∀ x ∈ l0, (Lit.int .u8 x).wf = true) → ∃ k, laws_FnSeasons.f k l0 = some true
theorem laws_FnSeasons.walk (P : laws_FnSeasons.Pure) (a0 : Option Addr) (len0 cap0 : Nat) (z0 : List Int) (w : World) (w0 : (a0 = none ∧ len0 = 0 ∧ cap0 = 0 ∧ z0 = []) ∨ ∃ x, a0 = some x ∧ len0 ≤ cap0 ∧ cap0 ≤ maxLen ∧ z0.length = cap0 ∧ (∀ i, i < z0.length → w.cell? (x.add i) = some (.int .u8 (z0.getD i 0))) ∧ ∀ n ∈ z0, (Lit.int .u8 n).wf = true) (y0 : len0 * 1 ≤ 140737488351232) :
    Calls Try.prog 14 #[.slice a0 len0 cap0] w fun e w' => e = .returned (.bool true) ∧ Below w.heap.size w w' := by
  obtain ⟨l0, rfl, hr0, hm0, hw0, hc0⟩ := ReadsInt.ofRowC w0
  obtain ⟨k, h⟩ := P l0 hm0 y0 hw0
  refine (laws_FnSeasons.calls k _ _ l0 true w (Kd.C_of_reads (d := (0 : Int)) (h1 := fun _ => rfl) hr0) hc0 rfl h).mono ?_
  rintro e w' ⟨rfl, hd⟩
  exact ⟨rfl, hd⟩

end Go.Proofs.Ytfcidjlnokhkjaa.QFnSeasons
