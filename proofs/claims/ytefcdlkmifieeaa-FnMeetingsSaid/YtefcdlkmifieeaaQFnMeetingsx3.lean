-- Laid by this session's own program (wip/myprint.py), the kit's printer its engine; turned by hand where that fell. Lean checks it.
import Derived.Test.YtefcdlkmifieeaaQFnMeetingsx0
import Derived.Test.YtefcdlkmifieeaaQFnMeetingsx1
import Derived.Test.YtefcdlkmifieeaaQFnMeetingsx2
namespace Go.Proofs.Ytefcdlkmifieeaa.QFnMeetings
open Go.RowKit Go.Proofs.YtefcdlkmifieeaaW.PrintWords Go.Proofs.YtefcdlkmifieeaaW.PrintLast Go.Proofs.YtefcdlkmifieeaaW.PrintMore
attribute [local go_sem] max2_int min2_int max_two min_two max_three min_three max_four min_four   -- for this text's walks alone
set_option linter.unusedVariables false
set_option linter.unusedSimpArgs false

/-! ### laws_FnMeetings: function 12 -/
mutual
def laws_FnMeetings.j0 : Nat → List Int → Bool → Option (Bool)
  | 0, _, _ => none
  | k + 1, x0, x75 => if x75 = true then (some false) else ((spec_DrawLeastYes.f k x0).bind fun bt218 => ((impl_LeastYes.f k bt218.1 bt218.2).bind fun t220 => (if t220 ≥ 0 then ((impl_Passes.f k t220 (wrap64 (bt218.1 - t220)) bt218.2).bind fun t221 => (if t221 = true then (if t220 > 0 then ((impl_Passes.f k (wrap64 (t220 - 1)) (wrap64 ((wrap64 (bt218.1 - t220)) + 1)) bt218.2).bind fun t222 => (laws_FnMeetings.j1 k x0 t222)) else (laws_FnMeetings.j1 k x0 false)) else (laws_FnMeetings.j1 k x0 true))) else (laws_FnMeetings.j1 k x0 false))))
def laws_FnMeetings.j1 : Nat → List Int → Bool → Option (Bool)
  | 0, _, _ => none
  | k + 1, x0, x108 => if x108 = true then (some false) else ((spec_DrawCastingVote.f k x0).bind fun bt223 => ((impl_CastingVote.f bt223.1 bt223.2.1 bt223.2.2).bind fun t226 => ((impl_CastingVote.f bt223.2.1 bt223.1 (!bt223.2.2)).bind fun t227 => (if (t226 != t227) = true then ((impl_Passes.f k bt223.1 bt223.2.1 false).bind fun t228 => (if t228 = true then ((impl_CastingVote.f bt223.1 bt223.2.1 false).bind fun t229 => (some t229)) else (some true))) else (some false)))))
end
def laws_FnMeetings.f (k : Nat) (l0 : List Int) : Option (Bool) := (laws_big.f l0).bind fun t205 => (if t205 = true then (some true) else ((spec_DrawResolve.f k l0).bind fun bt206 => ((impl_Resolve.f k bt206.1 bt206.2.1 bt206.2.2.1 bt206.2.2.2.1 bt206.2.2.2.2).bind fun t211 => (if t211.toList = ([121, 101, 115] : List UInt8) then ((impl_IsQuorum.f bt206.1 bt206.2.1).bind fun t212 => (if t212 = true then ((impl_Passes.f k bt206.2.2.1 bt206.2.2.2.1 bt206.2.2.2.2).bind fun t213 => (if t213 = true then (if t211.toList = ([110, 111, 110, 101] : List UInt8) then ((impl_IsQuorum.f bt206.1 bt206.2.1).bind fun t214 => (if t214 = true then (laws_FnMeetings.j0 k l0 true) else (if (wrap64 (bt206.2.2.1 + bt206.2.2.2.1)) < bt206.2.1 then ((impl_Resolve.f k bt206.1 bt206.2.1 (wrap64 (bt206.2.2.1 + 1)) bt206.2.2.2.1 bt206.2.2.2.2).bind fun t215 => (laws_FnMeetings.j0 k l0 (t215.toList != ([121, 101, 115] : List UInt8)))) else (laws_FnMeetings.j0 k l0 false)))) else (if (wrap64 (bt206.2.2.1 + bt206.2.2.2.1)) < bt206.2.1 then ((impl_Resolve.f k bt206.1 bt206.2.1 (wrap64 (bt206.2.2.1 + 1)) bt206.2.2.2.1 bt206.2.2.2.2).bind fun t216 => (laws_FnMeetings.j0 k l0 (t216.toList != ([121, 101, 115] : List UInt8)))) else (laws_FnMeetings.j0 k l0 false))) else (laws_FnMeetings.j0 k l0 true))) else (laws_FnMeetings.j0 k l0 true))) else (if t211.toList = ([110, 111, 110, 101] : List UInt8) then ((impl_IsQuorum.f bt206.1 bt206.2.1).bind fun t217 => (if t217 = true then (laws_FnMeetings.j0 k l0 true) else (if (wrap64 (bt206.2.2.1 + bt206.2.2.2.1)) < bt206.2.1 then (laws_FnMeetings.j0 k l0 false) else (laws_FnMeetings.j0 k l0 false)))) else (if (wrap64 (bt206.2.2.1 + bt206.2.2.2.1)) < bt206.2.1 then (laws_FnMeetings.j0 k l0 false) else (laws_FnMeetings.j0 k l0 false)))))))
theorem laws_FnMeetings.mono_l : ∀ k, (∀ y0 y1, LeO (laws_FnMeetings.j0 k y0 y1) (laws_FnMeetings.j0 (k + 1) y0 y1)) ∧ (∀ y0 y1, LeO (laws_FnMeetings.j1 k y0 y1) (laws_FnMeetings.j1 (k + 1) y0 y1))
  | 0 => ⟨fun _ _ r h => by simp [laws_FnMeetings.j0] at h, fun _ _ r h => by simp [laws_FnMeetings.j1] at h⟩
  | k + 1 => by
    obtain ⟨ih0, ih1⟩ := laws_FnMeetings.mono_l k
    refine ⟨?_, ?_⟩
    · intro y0 y1
      unfold laws_FnMeetings.j0
      repeat' first
      | (with_reducible exact ih0 _ _)
      | (with_reducible exact ih1 _ _)
      | (with_reducible exact impl_LeastYes.mono _ _ _)
      | (with_reducible exact impl_Passes.mono _ _ _ _)
      | (with_reducible exact impl_Resolve.mono _ _ _ _ _ _)
      | (with_reducible exact spec_DrawCastingVote.mono _ _)
      | (with_reducible exact spec_DrawLeastYes.mono _ _)
      | (with_reducible exact spec_DrawResolve.mono _ _)
      | (with_reducible exact LeO.refl _)
      | (with_reducible exact LeO.none _)
      | (with_reducible refine LeO.ite ?_ ?_)
      | (with_reducible refine LeO.bind ?_ (fun _ => ?_))
      | exact ih0 _ _
      | exact ih1 _ _
      | exact impl_LeastYes.mono _ _ _
      | exact impl_Passes.mono _ _ _ _
      | exact impl_Resolve.mono _ _ _ _ _ _
      | exact spec_DrawCastingVote.mono _ _
      | exact spec_DrawLeastYes.mono _ _
      | exact spec_DrawResolve.mono _ _
      | exact LeO.none _
      | refine LeO.ite ?_ ?_
      | refine LeO.bind ?_ (fun _ => ?_)
    · intro y0 y1
      unfold laws_FnMeetings.j1
      repeat' first
      | (with_reducible exact ih0 _ _)
      | (with_reducible exact ih1 _ _)
      | (with_reducible exact impl_LeastYes.mono _ _ _)
      | (with_reducible exact impl_Passes.mono _ _ _ _)
      | (with_reducible exact impl_Resolve.mono _ _ _ _ _ _)
      | (with_reducible exact spec_DrawCastingVote.mono _ _)
      | (with_reducible exact spec_DrawLeastYes.mono _ _)
      | (with_reducible exact spec_DrawResolve.mono _ _)
      | (with_reducible exact LeO.refl _)
      | (with_reducible exact LeO.none _)
      | (with_reducible refine LeO.ite ?_ ?_)
      | (with_reducible refine LeO.bind ?_ (fun _ => ?_))
      | exact ih0 _ _
      | exact ih1 _ _
      | exact impl_LeastYes.mono _ _ _
      | exact impl_Passes.mono _ _ _ _
      | exact impl_Resolve.mono _ _ _ _ _ _
      | exact spec_DrawCastingVote.mono _ _
      | exact spec_DrawLeastYes.mono _ _
      | exact spec_DrawResolve.mono _ _
      | exact LeO.none _
      | refine LeO.ite ?_ ?_
      | refine LeO.bind ?_ (fun _ => ?_)
theorem laws_FnMeetings.mono : ∀ a0 k, LeO (laws_FnMeetings.f k a0) (laws_FnMeetings.f (k + 1) a0) := by
  intro a0 k
  obtain ⟨ih0, ih1⟩ := laws_FnMeetings.mono_l k
  unfold laws_FnMeetings.f
  repeat' first
      | (with_reducible exact ih0 _ _)
      | (with_reducible exact ih1 _ _)
      | (with_reducible exact impl_LeastYes.mono _ _ _)
      | (with_reducible exact impl_Passes.mono _ _ _ _)
      | (with_reducible exact impl_Resolve.mono _ _ _ _ _ _)
      | (with_reducible exact spec_DrawCastingVote.mono _ _)
      | (with_reducible exact spec_DrawLeastYes.mono _ _)
      | (with_reducible exact spec_DrawResolve.mono _ _)
      | (with_reducible exact LeO.refl _)
      | (with_reducible exact LeO.none _)
      | (with_reducible refine LeO.ite ?_ ?_)
      | (with_reducible refine LeO.bind ?_ (fun _ => ?_))
      | exact ih0 _ _
      | exact ih1 _ _
      | exact impl_LeastYes.mono _ _ _
      | exact impl_Passes.mono _ _ _ _
      | exact impl_Resolve.mono _ _ _ _ _ _
      | exact spec_DrawCastingVote.mono _ _
      | exact spec_DrawLeastYes.mono _ _
      | exact spec_DrawResolve.mono _ _
      | exact LeO.none _
      | refine LeO.ite ?_ ?_
      | refine LeO.bind ?_ (fun _ => ?_)
set_option maxHeartbeats 8000000 in
set_option maxRecDepth 100000 in
theorem laws_FnMeetings.calls (k : Nat) (A0 : Option Addr) (c0 : Nat) (l0 : List Int) (r : Bool) (w : World) (hr0 : Kd.C (Kd.int .u8) w A0 l0.length l0) (hc0 : l0.length ≤ c0) (h : laws_FnMeetings.f k l0 = some r) :
    Calls Try.prog 12 #[.slice A0 l0.length c0] w fun e w' => e = .returned (.bool r) ∧ Below w.heap.size w w' := by
  have HR0 := Aside0.mk hr0
  have HC0 := Aside0.mk hc0
  clear hr0 hc0
  have HB := Aside0.mk (Below.refl w.heap.size w)
  have H : ((laws_big.f l0).bind fun t205 => (if t205 = true then (some true) else ((spec_DrawResolve.f k l0).bind fun bt206 => ((impl_Resolve.f k bt206.1 bt206.2.1 bt206.2.2.1 bt206.2.2.2.1 bt206.2.2.2.2).bind fun t211 => (if t211.toList = ([121, 101, 115] : List UInt8) then ((impl_IsQuorum.f bt206.1 bt206.2.1).bind fun t212 => (if t212 = true then ((impl_Passes.f k bt206.2.2.1 bt206.2.2.2.1 bt206.2.2.2.2).bind fun t213 => (if t213 = true then (if t211.toList = ([110, 111, 110, 101] : List UInt8) then ((impl_IsQuorum.f bt206.1 bt206.2.1).bind fun t214 => (if t214 = true then (laws_FnMeetings.j0 k l0 true) else (if (wrap64 (bt206.2.2.1 + bt206.2.2.2.1)) < bt206.2.1 then ((impl_Resolve.f k bt206.1 bt206.2.1 (wrap64 (bt206.2.2.1 + 1)) bt206.2.2.2.1 bt206.2.2.2.2).bind fun t215 => (laws_FnMeetings.j0 k l0 (t215.toList != ([121, 101, 115] : List UInt8)))) else (laws_FnMeetings.j0 k l0 false)))) else (if (wrap64 (bt206.2.2.1 + bt206.2.2.2.1)) < bt206.2.1 then ((impl_Resolve.f k bt206.1 bt206.2.1 (wrap64 (bt206.2.2.1 + 1)) bt206.2.2.2.1 bt206.2.2.2.2).bind fun t216 => (laws_FnMeetings.j0 k l0 (t216.toList != ([121, 101, 115] : List UInt8)))) else (laws_FnMeetings.j0 k l0 false))) else (laws_FnMeetings.j0 k l0 true))) else (laws_FnMeetings.j0 k l0 true))) else (if t211.toList = ([110, 111, 110, 101] : List UInt8) then ((impl_IsQuorum.f bt206.1 bt206.2.1).bind fun t217 => (if t217 = true then (laws_FnMeetings.j0 k l0 true) else (if (wrap64 (bt206.2.2.1 + bt206.2.2.2.1)) < bt206.2.1 then (laws_FnMeetings.j0 k l0 false) else (laws_FnMeetings.j0 k l0 false)))) else (if (wrap64 (bt206.2.2.1 + bt206.2.2.2.1)) < bt206.2.1 then (laws_FnMeetings.j0 k l0 false) else (laws_FnMeetings.j0 k l0 false)))))))) = some r := h
  clear h
  replace H := Option.bind_eq_some_iff.mp H
  obtain ⟨t205, A20, H⟩ := H
  replace H : (if t205 = true then (some true) else ((spec_DrawResolve.f k l0).bind fun bt206 => ((impl_Resolve.f k bt206.1 bt206.2.1 bt206.2.2.1 bt206.2.2.2.1 bt206.2.2.2.2).bind fun t211 => (if t211.toList = ([121, 101, 115] : List UInt8) then ((impl_IsQuorum.f bt206.1 bt206.2.1).bind fun t212 => (if t212 = true then ((impl_Passes.f k bt206.2.2.1 bt206.2.2.2.1 bt206.2.2.2.2).bind fun t213 => (if t213 = true then (if t211.toList = ([110, 111, 110, 101] : List UInt8) then ((impl_IsQuorum.f bt206.1 bt206.2.1).bind fun t214 => (if t214 = true then (laws_FnMeetings.j0 k l0 true) else (if (wrap64 (bt206.2.2.1 + bt206.2.2.2.1)) < bt206.2.1 then ((impl_Resolve.f k bt206.1 bt206.2.1 (wrap64 (bt206.2.2.1 + 1)) bt206.2.2.2.1 bt206.2.2.2.2).bind fun t215 => (laws_FnMeetings.j0 k l0 (t215.toList != ([121, 101, 115] : List UInt8)))) else (laws_FnMeetings.j0 k l0 false)))) else (if (wrap64 (bt206.2.2.1 + bt206.2.2.2.1)) < bt206.2.1 then ((impl_Resolve.f k bt206.1 bt206.2.1 (wrap64 (bt206.2.2.1 + 1)) bt206.2.2.2.1 bt206.2.2.2.2).bind fun t216 => (laws_FnMeetings.j0 k l0 (t216.toList != ([121, 101, 115] : List UInt8)))) else (laws_FnMeetings.j0 k l0 false))) else (laws_FnMeetings.j0 k l0 true))) else (laws_FnMeetings.j0 k l0 true))) else (if t211.toList = ([110, 111, 110, 101] : List UInt8) then ((impl_IsQuorum.f bt206.1 bt206.2.1).bind fun t217 => (if t217 = true then (laws_FnMeetings.j0 k l0 true) else (if (wrap64 (bt206.2.2.1 + bt206.2.2.2.1)) < bt206.2.1 then (laws_FnMeetings.j0 k l0 false) else (laws_FnMeetings.j0 k l0 false)))) else (if (wrap64 (bt206.2.2.1 + bt206.2.2.2.1)) < bt206.2.1 then (laws_FnMeetings.j0 k l0 false) else (laws_FnMeetings.j0 k l0 false))))))) = some r := H
  have A2 := Aside0.mk A20
  clear A20
  by_cases c3 : t205 = true
  · subst c3
    have H1 : (some true) = some r := by rw [if_pos rfl] at H; exact H
    clear H
    have H := H1
    clear H1
    obtain rfl := Option.some.inj H
    go_enter Try.func12, Try.ntmps12
    go_wp2_with (first | ((with_reducible refine gate_callee (f := 35) rfl ?_); refine goesL_ (some 16) rfl rfl Try.func35 (by kernel_rfl) rfl #[.slice A0 l0.length c0] rfl (by (try simp only [List.map_toArray, List.map_cons, List.map_nil]); first | done | rfl | (simp only [List.length_drop, List.length_take]; rfl)) ?_; (with_reducible refine (laws_big.calls _ _ l0 true _ ?side1 ?side2 A2.out).mono ?_); (case side1 => repeat (first | exact HR0.out | (with_reducible refine Kd.C_alloc ?_ _) | (with_reducible refine Kd.C_drewN ?_ _) | (with_reducible refine Kd.C_drew ?_))); (case side2 => exact HC0.out); rintro e w' ⟨rfl, ⟨nd, rfl⟩⟩; refine ⟨_, rfl, ?_⟩))
    go_ret
    exact ⟨by first | rfl | (simp [errW_none, errW_some] <;> rfl) | (simp [*, errW_none, errW_some] <;> rfl), by repeat (first | (with_reducible first | exact HB.out | apply below_alloc | apply pw_below_drewN | apply below_drew1) | exact HB.out)⟩
  · replace c3 := Bool.eq_false_iff.mpr c3
    subst c3
    have H1 : ((spec_DrawResolve.f k l0).bind fun bt206 => ((impl_Resolve.f k bt206.1 bt206.2.1 bt206.2.2.1 bt206.2.2.2.1 bt206.2.2.2.2).bind fun t211 => (if t211.toList = ([121, 101, 115] : List UInt8) then ((impl_IsQuorum.f bt206.1 bt206.2.1).bind fun t212 => (if t212 = true then ((impl_Passes.f k bt206.2.2.1 bt206.2.2.2.1 bt206.2.2.2.2).bind fun t213 => (if t213 = true then (if t211.toList = ([110, 111, 110, 101] : List UInt8) then ((impl_IsQuorum.f bt206.1 bt206.2.1).bind fun t214 => (if t214 = true then (laws_FnMeetings.j0 k l0 true) else (if (wrap64 (bt206.2.2.1 + bt206.2.2.2.1)) < bt206.2.1 then ((impl_Resolve.f k bt206.1 bt206.2.1 (wrap64 (bt206.2.2.1 + 1)) bt206.2.2.2.1 bt206.2.2.2.2).bind fun t215 => (laws_FnMeetings.j0 k l0 (t215.toList != ([121, 101, 115] : List UInt8)))) else (laws_FnMeetings.j0 k l0 false)))) else (if (wrap64 (bt206.2.2.1 + bt206.2.2.2.1)) < bt206.2.1 then ((impl_Resolve.f k bt206.1 bt206.2.1 (wrap64 (bt206.2.2.1 + 1)) bt206.2.2.2.1 bt206.2.2.2.2).bind fun t216 => (laws_FnMeetings.j0 k l0 (t216.toList != ([121, 101, 115] : List UInt8)))) else (laws_FnMeetings.j0 k l0 false))) else (laws_FnMeetings.j0 k l0 true))) else (laws_FnMeetings.j0 k l0 true))) else (if t211.toList = ([110, 111, 110, 101] : List UInt8) then ((impl_IsQuorum.f bt206.1 bt206.2.1).bind fun t217 => (if t217 = true then (laws_FnMeetings.j0 k l0 true) else (if (wrap64 (bt206.2.2.1 + bt206.2.2.2.1)) < bt206.2.1 then (laws_FnMeetings.j0 k l0 false) else (laws_FnMeetings.j0 k l0 false)))) else (if (wrap64 (bt206.2.2.1 + bt206.2.2.2.1)) < bt206.2.1 then (laws_FnMeetings.j0 k l0 false) else (laws_FnMeetings.j0 k l0 false)))))) = some r := by rw [if_neg (show ¬ (false = true) by decide)] at H; exact H
    clear H
    have H := H1
    clear H1
    replace H := Option.bind_eq_some_iff.mp H
    obtain ⟨⟨t206, t207, t208, t209, t210⟩, A40, H⟩ := H
    replace H : ((impl_Resolve.f k t206 t207 t208 t209 t210).bind fun t211 => (if t211.toList = ([121, 101, 115] : List UInt8) then ((impl_IsQuorum.f t206 t207).bind fun t212 => (if t212 = true then ((impl_Passes.f k t208 t209 t210).bind fun t213 => (if t213 = true then (if t211.toList = ([110, 111, 110, 101] : List UInt8) then ((impl_IsQuorum.f t206 t207).bind fun t214 => (if t214 = true then (laws_FnMeetings.j0 k l0 true) else (if (wrap64 (t208 + t209)) < t207 then ((impl_Resolve.f k t206 t207 (wrap64 (t208 + 1)) t209 t210).bind fun t215 => (laws_FnMeetings.j0 k l0 (t215.toList != ([121, 101, 115] : List UInt8)))) else (laws_FnMeetings.j0 k l0 false)))) else (if (wrap64 (t208 + t209)) < t207 then ((impl_Resolve.f k t206 t207 (wrap64 (t208 + 1)) t209 t210).bind fun t216 => (laws_FnMeetings.j0 k l0 (t216.toList != ([121, 101, 115] : List UInt8)))) else (laws_FnMeetings.j0 k l0 false))) else (laws_FnMeetings.j0 k l0 true))) else (laws_FnMeetings.j0 k l0 true))) else (if t211.toList = ([110, 111, 110, 101] : List UInt8) then ((impl_IsQuorum.f t206 t207).bind fun t217 => (if t217 = true then (laws_FnMeetings.j0 k l0 true) else (if (wrap64 (t208 + t209)) < t207 then (laws_FnMeetings.j0 k l0 false) else (laws_FnMeetings.j0 k l0 false)))) else (if (wrap64 (t208 + t209)) < t207 then (laws_FnMeetings.j0 k l0 false) else (laws_FnMeetings.j0 k l0 false))))) = some r := H
    have A4 := Aside0.mk A40
    clear A40
    replace H := Option.bind_eq_some_iff.mp H
    obtain ⟨t211, A50, H⟩ := H
    replace H : (if t211.toList = ([121, 101, 115] : List UInt8) then ((impl_IsQuorum.f t206 t207).bind fun t212 => (if t212 = true then ((impl_Passes.f k t208 t209 t210).bind fun t213 => (if t213 = true then (if t211.toList = ([110, 111, 110, 101] : List UInt8) then ((impl_IsQuorum.f t206 t207).bind fun t214 => (if t214 = true then (laws_FnMeetings.j0 k l0 true) else (if (wrap64 (t208 + t209)) < t207 then ((impl_Resolve.f k t206 t207 (wrap64 (t208 + 1)) t209 t210).bind fun t215 => (laws_FnMeetings.j0 k l0 (t215.toList != ([121, 101, 115] : List UInt8)))) else (laws_FnMeetings.j0 k l0 false)))) else (if (wrap64 (t208 + t209)) < t207 then ((impl_Resolve.f k t206 t207 (wrap64 (t208 + 1)) t209 t210).bind fun t216 => (laws_FnMeetings.j0 k l0 (t216.toList != ([121, 101, 115] : List UInt8)))) else (laws_FnMeetings.j0 k l0 false))) else (laws_FnMeetings.j0 k l0 true))) else (laws_FnMeetings.j0 k l0 true))) else (if t211.toList = ([110, 111, 110, 101] : List UInt8) then ((impl_IsQuorum.f t206 t207).bind fun t217 => (if t217 = true then (laws_FnMeetings.j0 k l0 true) else (if (wrap64 (t208 + t209)) < t207 then (laws_FnMeetings.j0 k l0 false) else (laws_FnMeetings.j0 k l0 false)))) else (if (wrap64 (t208 + t209)) < t207 then (laws_FnMeetings.j0 k l0 false) else (laws_FnMeetings.j0 k l0 false)))) = some r := H
    have A5 := Aside0.mk A50
    clear A50
    have HC6 := Aside0.mk H
    clear H
    go_enter Try.func12, Try.ntmps12
    go_upto_region 5 with (first | ((with_reducible refine gate_callee (f := 35) rfl ?_); refine goesL_ (some 16) rfl rfl Try.func35 (by kernel_rfl) rfl #[.slice A0 l0.length c0] rfl (by (try simp only [List.map_toArray, List.map_cons, List.map_nil]); first | done | rfl | (simp only [List.length_drop, List.length_take]; rfl)) ?_; (with_reducible refine (laws_big.calls _ _ l0 false _ ?side1 ?side2 A2.out).mono ?_); (case side1 => repeat (first | exact HR0.out | (with_reducible refine Kd.C_alloc ?_ _) | (with_reducible refine Kd.C_drewN ?_ _) | (with_reducible refine Kd.C_drew ?_))); (case side2 => exact HC0.out); rintro e w' ⟨rfl, ⟨nd, rfl⟩⟩; refine ⟨_, rfl, ?_⟩) | ((with_reducible refine gate_callee (f := 36) rfl ?_); refine goesL_ (some 19) rfl rfl Try.func36 (by kernel_rfl) rfl #[.slice A0 l0.length c0] rfl (by (try simp only [List.map_toArray, List.map_cons, List.map_nil]); first | done | rfl | (simp only [List.length_drop, List.length_take]; rfl)) ?_; (with_reducible refine (spec_DrawResolve.calls k _ _ l0 t206 t207 t208 t209 t210 _ ?side1 ?side2 A4.out).mono ?_); (case side1 => repeat (first | exact HR0.out | (with_reducible refine Kd.C_alloc ?_ _) | (with_reducible refine Kd.C_drewN ?_ _) | (with_reducible refine Kd.C_drew ?_))); (case side2 => exact HC0.out); rintro e w7 ⟨rfl, hb⟩; refine ⟨_, rfl, ?_⟩; have n0_ := Aside0.mk (below_step (by repeat (first | (with_reducible first | exact HB.out | apply below_alloc | apply pw_below_drewN | apply below_drew1) | exact HB.out)) hb); clear HB; have HB := n0_; clear n0_; (try clear hb); (try clear hb2); (try clear hk); (try clear hi)) | ((with_reducible refine gate_callee (f := 30) rfl ?_); refine goesL_ (some 30) rfl rfl Try.func30 (by kernel_rfl) rfl #[.int .i64 t206, .int .i64 t207, .int .i64 t208, .int .i64 t209, .bool t210] rfl (by (try simp only [List.map_toArray, List.map_cons, List.map_nil]); first | done | rfl | (simp only [List.length_drop, List.length_take]; rfl)) ?_; (with_reducible refine (impl_Resolve.calls k t206 t207 t208 t209 t210 t211 _ A5.out).mono ?_); rintro e w' ⟨rfl, ⟨nd, rfl⟩⟩; refine ⟨_, rfl, ?_⟩))
    (try simp only [Act.put, List.setIfInBounds_toArray, List.set_cons_zero, List.set_cons_succ])
    go_cut [75] (fun v75 wc => ∃ (kq : Nat) (x75_5 : Bool), v75 = .bool x75_5 ∧ Aside0 (laws_FnMeetings.j0 kq l0 x75_5 = some r) ∧ Aside0 (kq ≤ k) ∧ Aside0 (Below w.heap.size w wc))
    case first =>
      have H := HC6.out
      clear HC6
      by_cases c8 : t211.toList = ([121, 101, 115] : List UInt8)
      · rw [if_pos c8] at H
        have c8b0 : (t211.toList == ([121, 101, 115] : List UInt8)) = true := beq_iff_eq.mpr c8
        have c8b1 : (t211.toList != ([121, 101, 115] : List UInt8)) = false := bne_eq_false_iff_eq.mpr c8
        clear c8
        (first | rw [c8b0] | (simp only [i64_w, i32_w]; rw [c8b0]) | skip)
        replace H := Option.bind_eq_some_iff.mp H
        obtain ⟨t212, A90, H⟩ := H
        replace H : (if t212 = true then ((impl_Passes.f k t208 t209 t210).bind fun t213 => (if t213 = true then (if t211.toList = ([110, 111, 110, 101] : List UInt8) then ((impl_IsQuorum.f t206 t207).bind fun t214 => (if t214 = true then (laws_FnMeetings.j0 k l0 true) else (if (wrap64 (t208 + t209)) < t207 then ((impl_Resolve.f k t206 t207 (wrap64 (t208 + 1)) t209 t210).bind fun t215 => (laws_FnMeetings.j0 k l0 (t215.toList != ([121, 101, 115] : List UInt8)))) else (laws_FnMeetings.j0 k l0 false)))) else (if (wrap64 (t208 + t209)) < t207 then ((impl_Resolve.f k t206 t207 (wrap64 (t208 + 1)) t209 t210).bind fun t216 => (laws_FnMeetings.j0 k l0 (t216.toList != ([121, 101, 115] : List UInt8)))) else (laws_FnMeetings.j0 k l0 false))) else (laws_FnMeetings.j0 k l0 true))) else (laws_FnMeetings.j0 k l0 true)) = some r := H
        have A9 := Aside0.mk A90
        clear A90
        by_cases c10 : t212 = true
        · subst c10
          have H1 : ((impl_Passes.f k t208 t209 t210).bind fun t213 => (if t213 = true then (if t211.toList = ([110, 111, 110, 101] : List UInt8) then ((impl_IsQuorum.f t206 t207).bind fun t214 => (if t214 = true then (laws_FnMeetings.j0 k l0 true) else (if (wrap64 (t208 + t209)) < t207 then ((impl_Resolve.f k t206 t207 (wrap64 (t208 + 1)) t209 t210).bind fun t215 => (laws_FnMeetings.j0 k l0 (t215.toList != ([121, 101, 115] : List UInt8)))) else (laws_FnMeetings.j0 k l0 false)))) else (if (wrap64 (t208 + t209)) < t207 then ((impl_Resolve.f k t206 t207 (wrap64 (t208 + 1)) t209 t210).bind fun t216 => (laws_FnMeetings.j0 k l0 (t216.toList != ([121, 101, 115] : List UInt8)))) else (laws_FnMeetings.j0 k l0 false))) else (laws_FnMeetings.j0 k l0 true))) = some r := by rw [if_pos rfl] at H; exact H
          clear H
          have H := H1
          clear H1
          replace H := Option.bind_eq_some_iff.mp H
          obtain ⟨t213, A110, H⟩ := H
          replace H : (if t213 = true then (if t211.toList = ([110, 111, 110, 101] : List UInt8) then ((impl_IsQuorum.f t206 t207).bind fun t214 => (if t214 = true then (laws_FnMeetings.j0 k l0 true) else (if (wrap64 (t208 + t209)) < t207 then ((impl_Resolve.f k t206 t207 (wrap64 (t208 + 1)) t209 t210).bind fun t215 => (laws_FnMeetings.j0 k l0 (t215.toList != ([121, 101, 115] : List UInt8)))) else (laws_FnMeetings.j0 k l0 false)))) else (if (wrap64 (t208 + t209)) < t207 then ((impl_Resolve.f k t206 t207 (wrap64 (t208 + 1)) t209 t210).bind fun t216 => (laws_FnMeetings.j0 k l0 (t216.toList != ([121, 101, 115] : List UInt8)))) else (laws_FnMeetings.j0 k l0 false))) else (laws_FnMeetings.j0 k l0 true)) = some r := H
          have A11 := Aside0.mk A110
          clear A110
          by_cases c12 : t213 = true
          · subst c12
            have H1 : (if t211.toList = ([110, 111, 110, 101] : List UInt8) then ((impl_IsQuorum.f t206 t207).bind fun t214 => (if t214 = true then (laws_FnMeetings.j0 k l0 true) else (if (wrap64 (t208 + t209)) < t207 then ((impl_Resolve.f k t206 t207 (wrap64 (t208 + 1)) t209 t210).bind fun t215 => (laws_FnMeetings.j0 k l0 (t215.toList != ([121, 101, 115] : List UInt8)))) else (laws_FnMeetings.j0 k l0 false)))) else (if (wrap64 (t208 + t209)) < t207 then ((impl_Resolve.f k t206 t207 (wrap64 (t208 + 1)) t209 t210).bind fun t216 => (laws_FnMeetings.j0 k l0 (t216.toList != ([121, 101, 115] : List UInt8)))) else (laws_FnMeetings.j0 k l0 false))) = some r := by rw [if_pos rfl] at H; exact H
            clear H
            have H := H1
            clear H1
            by_cases c13 : t211.toList = ([110, 111, 110, 101] : List UInt8)
            · rw [if_pos c13] at H
              have c13b0 : (t211.toList == ([110, 111, 110, 101] : List UInt8)) = true := beq_iff_eq.mpr c13
              have c13b1 : (t211.toList != ([110, 111, 110, 101] : List UInt8)) = false := bne_eq_false_iff_eq.mpr c13
              clear c13
              replace H := Option.bind_eq_some_iff.mp H
              obtain ⟨t214, A140, H⟩ := H
              replace H : (if t214 = true then (laws_FnMeetings.j0 k l0 true) else (if (wrap64 (t208 + t209)) < t207 then ((impl_Resolve.f k t206 t207 (wrap64 (t208 + 1)) t209 t210).bind fun t215 => (laws_FnMeetings.j0 k l0 (t215.toList != ([121, 101, 115] : List UInt8)))) else (laws_FnMeetings.j0 k l0 false))) = some r := H
              have A14 := Aside0.mk A140
              clear A140
              by_cases c15 : t214 = true
              · subst c15
                have H1 : (laws_FnMeetings.j0 k l0 true) = some r := by rw [if_pos rfl] at H; exact H
                clear H
                have H := H1
                clear H1
                have H' := Aside0.mk H
                clear H
                go_wp2_with (first | (go_at_call 18; (with_reducible refine (impl_IsQuorum.calls t206 t207 true _ A9.out).mono ?_); rintro e w' ⟨rfl, ⟨nd, rfl⟩⟩) | (go_at_call 20; (with_reducible refine (impl_Passes.calls k t208 t209 t210 true _ A11.out).mono ?_); rintro e w' ⟨rfl, ⟨nd, rfl⟩⟩) | (go_at_call 18; (with_reducible refine (impl_IsQuorum.calls t206 t207 true _ A14.out).mono ?_); rintro e w' ⟨rfl, ⟨nd, rfl⟩⟩))
                go_meet
                case rel => exact ⟨_, (true), (by first | rfl | (simp; done) | (simp [*]; done)), H', ⟨by first | omega | exact Nat.le_refl _⟩, ⟨by repeat (first | (with_reducible first | exact HB.out | apply below_alloc | apply pw_below_drewN | apply below_drew1) | exact HB.out)⟩⟩
              · exact absurd (Option.some.inj (A9.out.symm.trans A14.out)).symm c15
            · rw [if_neg c13] at H
              have c13b0 : (t211.toList == ([110, 111, 110, 101] : List UInt8)) = false := beq_eq_false_iff_ne.mpr c13
              have c13b1 : (t211.toList != ([110, 111, 110, 101] : List UInt8)) = true := bne_iff_ne.mpr c13
              by_cases c18 : (wrap64 (t208 + t209)) < t207
              · rw [if_pos c18] at H
                have c18b0 : decide ((wrap64 (t208 + t209)) < t207) = true := decide_eq_true c18
                clear c18
                replace H := Option.bind_eq_some_iff.mp H
                obtain ⟨t216, A190, H⟩ := H
                replace H : (laws_FnMeetings.j0 k l0 (t216.toList != ([121, 101, 115] : List UInt8))) = some r := H
                have A19 := Aside0.mk A190
                clear A190
                have H' := Aside0.mk H
                clear H
                go_wp2_with (first | (go_at_call 18; (with_reducible refine (impl_IsQuorum.calls t206 t207 true _ A9.out).mono ?_); rintro e w' ⟨rfl, ⟨nd, rfl⟩⟩) | (go_at_call 20; (with_reducible refine (impl_Passes.calls k t208 t209 t210 true _ A11.out).mono ?_); rintro e w' ⟨rfl, ⟨nd, rfl⟩⟩) | (go_at_call 30; (with_reducible refine (impl_Resolve.calls k t206 t207 (wrap64 (t208 + 1)) t209 t210 t216 _ A19.out).mono ?_); rintro e w' ⟨rfl, ⟨nd, rfl⟩⟩))
                go_meet
                case rel => exact ⟨_, ((t216.toList != ([121, 101, 115] : List UInt8))), (by first | rfl | (simp; done) | (simp [*]; done)), H', ⟨by first | omega | exact Nat.le_refl _⟩, ⟨by repeat (first | (with_reducible first | exact HB.out | apply below_alloc | apply pw_below_drewN | apply below_drew1) | exact HB.out)⟩⟩
              · rw [if_neg c18] at H
                have c18b0 : decide ((wrap64 (t208 + t209)) < t207) = false := decide_eq_false c18
                clear c18
                have H' := Aside0.mk H
                clear H
                go_wp2_with (first | (go_at_call 18; (with_reducible refine (impl_IsQuorum.calls t206 t207 true _ A9.out).mono ?_); rintro e w' ⟨rfl, ⟨nd, rfl⟩⟩) | (go_at_call 20; (with_reducible refine (impl_Passes.calls k t208 t209 t210 true _ A11.out).mono ?_); rintro e w' ⟨rfl, ⟨nd, rfl⟩⟩))
                go_meet
                case rel => exact ⟨_, (false), (by first | rfl | (simp; done) | (simp [*]; done)), H', ⟨by first | omega | exact Nat.le_refl _⟩, ⟨by repeat (first | (with_reducible first | exact HB.out | apply below_alloc | apply pw_below_drewN | apply below_drew1) | exact HB.out)⟩⟩
          · replace c12 := Bool.eq_false_iff.mpr c12
            subst c12
            have H1 : (laws_FnMeetings.j0 k l0 true) = some r := by rw [if_neg (show ¬ (false = true) by decide)] at H; exact H
            clear H
            have H := H1
            clear H1
            have H' := Aside0.mk H
            clear H
            go_wp2_with (first | (go_at_call 18; (with_reducible refine (impl_IsQuorum.calls t206 t207 true _ A9.out).mono ?_); rintro e w' ⟨rfl, ⟨nd, rfl⟩⟩) | (go_at_call 20; (with_reducible refine (impl_Passes.calls k t208 t209 t210 false _ A11.out).mono ?_); rintro e w' ⟨rfl, ⟨nd, rfl⟩⟩))
            go_meet
            case rel => exact ⟨_, (true), (by first | rfl | (simp; done) | (simp [*]; done)), H', ⟨by first | omega | exact Nat.le_refl _⟩, ⟨by repeat (first | (with_reducible first | exact HB.out | apply below_alloc | apply pw_below_drewN | apply below_drew1) | exact HB.out)⟩⟩
        · replace c10 := Bool.eq_false_iff.mpr c10
          subst c10
          have H1 : (laws_FnMeetings.j0 k l0 true) = some r := by rw [if_neg (show ¬ (false = true) by decide)] at H; exact H
          clear H
          have H := H1
          clear H1
          have H' := Aside0.mk H
          clear H
          go_wp2_with (first | (go_at_call 18; (with_reducible refine (impl_IsQuorum.calls t206 t207 false _ A9.out).mono ?_); rintro e w' ⟨rfl, ⟨nd, rfl⟩⟩))
          go_meet
          case rel => exact ⟨_, (true), (by first | rfl | (simp; done) | (simp [*]; done)), H', ⟨by first | omega | exact Nat.le_refl _⟩, ⟨by repeat (first | (with_reducible first | exact HB.out | apply below_alloc | apply pw_below_drewN | apply below_drew1) | exact HB.out)⟩⟩
      · rw [if_neg c8] at H
        have c8b0 : (t211.toList == ([121, 101, 115] : List UInt8)) = false := beq_eq_false_iff_ne.mpr c8
        have c8b1 : (t211.toList != ([121, 101, 115] : List UInt8)) = true := bne_iff_ne.mpr c8
        (first | rw [c8b0] | (simp only [i64_w, i32_w]; rw [c8b0]) | skip)
        by_cases c20 : t211.toList = ([110, 111, 110, 101] : List UInt8)
        · rw [if_pos c20] at H
          have c20b0 : (t211.toList == ([110, 111, 110, 101] : List UInt8)) = true := beq_iff_eq.mpr c20
          have c20b1 : (t211.toList != ([110, 111, 110, 101] : List UInt8)) = false := bne_eq_false_iff_eq.mpr c20
          clear c20
          replace H := Option.bind_eq_some_iff.mp H
          obtain ⟨t217, A210, H⟩ := H
          replace H : (if t217 = true then (laws_FnMeetings.j0 k l0 true) else (if (wrap64 (t208 + t209)) < t207 then (laws_FnMeetings.j0 k l0 false) else (laws_FnMeetings.j0 k l0 false))) = some r := H
          have A21 := Aside0.mk A210
          clear A210
          by_cases c22 : t217 = true
          · subst c22
            have H1 : (laws_FnMeetings.j0 k l0 true) = some r := by rw [if_pos rfl] at H; exact H
            clear H
            have H := H1
            clear H1
            have H' := Aside0.mk H
            clear H
            go_wp2_with (first | (go_at_call 18; (with_reducible refine (impl_IsQuorum.calls t206 t207 true _ A21.out).mono ?_); rintro e w' ⟨rfl, ⟨nd, rfl⟩⟩))
            go_meet
            case rel => exact ⟨_, (true), (by first | rfl | (simp; done) | (simp [*]; done)), H', ⟨by first | omega | exact Nat.le_refl _⟩, ⟨by repeat (first | (with_reducible first | exact HB.out | apply below_alloc | apply pw_below_drewN | apply below_drew1) | exact HB.out)⟩⟩
          · replace c22 := Bool.eq_false_iff.mpr c22
            subst c22
            have H1 : (if (wrap64 (t208 + t209)) < t207 then (laws_FnMeetings.j0 k l0 false) else (laws_FnMeetings.j0 k l0 false)) = some r := by rw [if_neg (show ¬ (false = true) by decide)] at H; exact H
            clear H
            have H := H1
            clear H1
            by_cases c23 : (wrap64 (t208 + t209)) < t207
            · rw [if_pos c23] at H
              have c23b0 : decide ((wrap64 (t208 + t209)) < t207) = true := decide_eq_true c23
              clear c23
              have H' := Aside0.mk H
              clear H
              go_wp2_with (first | (go_at_call 18; (with_reducible refine (impl_IsQuorum.calls t206 t207 false _ A21.out).mono ?_); rintro e w' ⟨rfl, ⟨nd, rfl⟩⟩))
              go_meet
              case rel => exact ⟨_, (false), (by first | rfl | (simp; done) | (simp [*]; done)), H', ⟨by first | omega | exact Nat.le_refl _⟩, ⟨by repeat (first | (with_reducible first | exact HB.out | apply below_alloc | apply pw_below_drewN | apply below_drew1) | exact HB.out)⟩⟩
            · rw [if_neg c23] at H
              have c23b0 : decide ((wrap64 (t208 + t209)) < t207) = false := decide_eq_false c23
              clear c23
              have H' := Aside0.mk H
              clear H
              go_wp2_with (first | (go_at_call 18; (with_reducible refine (impl_IsQuorum.calls t206 t207 false _ A21.out).mono ?_); rintro e w' ⟨rfl, ⟨nd, rfl⟩⟩))
              go_meet
              case rel => exact ⟨_, (false), (by first | rfl | (simp; done) | (simp [*]; done)), H', ⟨by first | omega | exact Nat.le_refl _⟩, ⟨by repeat (first | (with_reducible first | exact HB.out | apply below_alloc | apply pw_below_drewN | apply below_drew1) | exact HB.out)⟩⟩
        · rw [if_neg c20] at H
          have c20b0 : (t211.toList == ([110, 111, 110, 101] : List UInt8)) = false := beq_eq_false_iff_ne.mpr c20
          have c20b1 : (t211.toList != ([110, 111, 110, 101] : List UInt8)) = true := bne_iff_ne.mpr c20
          by_cases c24 : (wrap64 (t208 + t209)) < t207
          · rw [if_pos c24] at H
            have c24b0 : decide ((wrap64 (t208 + t209)) < t207) = true := decide_eq_true c24
            clear c24
            have H' := Aside0.mk H
            clear H
            go_wp2
            go_meet
            case rel => exact ⟨_, (false), (by first | rfl | (simp; done) | (simp [*]; done)), H', ⟨by first | omega | exact Nat.le_refl _⟩, ⟨by repeat (first | (with_reducible first | exact HB.out | apply below_alloc | apply pw_below_drewN | apply below_drew1) | exact HB.out)⟩⟩
          · rw [if_neg c24] at H
            have c24b0 : decide ((wrap64 (t208 + t209)) < t207) = false := decide_eq_false c24
            clear c24
            have H' := Aside0.mk H
            clear H
            go_wp2
            go_meet
            case rel => exact ⟨_, (false), (by first | rfl | (simp; done) | (simp [*]; done)), H', ⟨by first | omega | exact Nat.le_refl _⟩, ⟨by repeat (first | (with_reducible first | exact HB.out | apply below_alloc | apply pw_below_drewN | apply below_drew1) | exact HB.out)⟩⟩
    case rest =>
      clear HC6
      try clear c1
      try clear c2
      try clear p2
      try clear c3
      try clear p6
      try clear c8
      try clear c8b0
      try clear c8b1
      try clear c10
      try clear c12
      try clear c13
      try clear c13b0
      try clear c13b1
      try clear c15
      try clear c16
      try clear c16b0
      try clear c18
      try clear c18b0
      try clear c20
      try clear c20b0
      try clear c20b1
      try clear c22
      try clear c23
      try clear c23b0
      try clear c24
      try clear c24b0
      obtain ⟨kq, x75_5, rfl, HA, HJ5, HB⟩ := hcut
      cases kq with
      | zero => exact absurd HA.out (by simp [laws_FnMeetings.j0])
      | succ kj5 =>
        have H := HA.out
        clear HA
        simp only [laws_FnMeetings.j0] at H
        by_cases c25 : x75_5 = true
        · subst c25
          have H1 : (some false) = some r := by rw [if_pos rfl] at H; exact H
          clear H
          have H := H1
          clear H1
          obtain rfl := Option.some.inj H
          go_wp2
          go_ret
          exact ⟨by first | rfl | (simp [errW_none, errW_some] <;> rfl) | (simp [*, errW_none, errW_some] <;> rfl), by repeat (first | (with_reducible first | exact HB.out | apply below_alloc | apply pw_below_drewN | apply below_drew1) | exact HB.out)⟩
        · replace c25 := Bool.eq_false_iff.mpr c25
          subst c25
          have H1 : ((spec_DrawLeastYes.f kj5 l0).bind fun bt218 => ((impl_LeastYes.f kj5 bt218.1 bt218.2).bind fun t220 => (if t220 ≥ 0 then ((impl_Passes.f kj5 t220 (wrap64 (bt218.1 - t220)) bt218.2).bind fun t221 => (if t221 = true then (if t220 > 0 then ((impl_Passes.f kj5 (wrap64 (t220 - 1)) (wrap64 ((wrap64 (bt218.1 - t220)) + 1)) bt218.2).bind fun t222 => (laws_FnMeetings.j1 kj5 l0 t222)) else (laws_FnMeetings.j1 kj5 l0 false)) else (laws_FnMeetings.j1 kj5 l0 true))) else (laws_FnMeetings.j1 kj5 l0 false)))) = some r := by rw [if_neg (show ¬ (false = true) by decide)] at H; exact H
          clear H
          have H := H1
          clear H1
          replace H := Option.bind_eq_some_iff.mp H
          obtain ⟨⟨t218, t219⟩, A260, H⟩ := H
          replace H : ((impl_LeastYes.f kj5 t218 t219).bind fun t220 => (if t220 ≥ 0 then ((impl_Passes.f kj5 t220 (wrap64 (t218 - t220)) t219).bind fun t221 => (if t221 = true then (if t220 > 0 then ((impl_Passes.f kj5 (wrap64 (t220 - 1)) (wrap64 ((wrap64 (t218 - t220)) + 1)) t219).bind fun t222 => (laws_FnMeetings.j1 kj5 l0 t222)) else (laws_FnMeetings.j1 kj5 l0 false)) else (laws_FnMeetings.j1 kj5 l0 true))) else (laws_FnMeetings.j1 kj5 l0 false))) = some r := H
          have A26 := Aside0.mk A260
          clear A260
          replace H := Option.bind_eq_some_iff.mp H
          obtain ⟨t220, A270, H⟩ := H
          replace H : (if t220 ≥ 0 then ((impl_Passes.f kj5 t220 (wrap64 (t218 - t220)) t219).bind fun t221 => (if t221 = true then (if t220 > 0 then ((impl_Passes.f kj5 (wrap64 (t220 - 1)) (wrap64 ((wrap64 (t218 - t220)) + 1)) t219).bind fun t222 => (laws_FnMeetings.j1 kj5 l0 t222)) else (laws_FnMeetings.j1 kj5 l0 false)) else (laws_FnMeetings.j1 kj5 l0 true))) else (laws_FnMeetings.j1 kj5 l0 false)) = some r := H
          have A27 := Aside0.mk A270
          clear A270
          have HC28 := Aside0.mk H
          clear H
          go_upto_region 9 with (first | ((with_reducible refine gate_callee (f := 37) rfl ?_); refine goesL_ (some 78) rfl rfl Try.func37 (by kernel_rfl) rfl #[.slice A0 l0.length c0] rfl (by (try simp only [List.map_toArray, List.map_cons, List.map_nil]); first | done | rfl | (simp only [List.length_drop, List.length_take]; rfl)) ?_; (with_reducible refine (spec_DrawLeastYes.calls kj5 _ _ l0 t218 t219 _ ?side1 ?side2 A26.out).mono ?_); (case side1 => repeat (first | exact (Kd.C_below HR0.out HB.out) | (with_reducible refine Kd.C_alloc ?_ _) | (with_reducible refine Kd.C_drewN ?_ _) | (with_reducible refine Kd.C_drew ?_))); (case side2 => exact HC0.out); rintro e w29 ⟨rfl, hb⟩; refine ⟨_, rfl, ?_⟩; have n0_ := Aside0.mk (below_step (by repeat (first | (with_reducible first | exact HB.out | apply below_alloc | apply pw_below_drewN | apply below_drew1) | exact HB.out)) hb); clear HB; have HB := n0_; clear n0_; (try clear hb); (try clear hb2); (try clear hk); (try clear hi)) | ((with_reducible refine gate_callee (f := 24) rfl ?_); refine goesL_ (some 83) rfl rfl Try.func24 (by kernel_rfl) rfl #[.int .i64 t218, .bool t219] rfl (by (try simp only [List.map_toArray, List.map_cons, List.map_nil]); first | done | rfl | (simp only [List.length_drop, List.length_take]; rfl)) ?_; (with_reducible refine (impl_LeastYes.calls kj5 t218 t219 t220 _ A27.out).mono ?_); rintro e w' ⟨rfl, ⟨nd, rfl⟩⟩; refine ⟨_, rfl, ?_⟩))
          (try simp only [Act.put, List.setIfInBounds_toArray, List.set_cons_zero, List.set_cons_succ])
          go_cut [108] (fun v108 wc => ∃ (kq : Nat) (x108_27 : Bool), v108 = .bool x108_27 ∧ Aside0 (laws_FnMeetings.j1 kq l0 x108_27 = some r) ∧ Aside0 (kq ≤ kj5) ∧ Aside0 (Below w.heap.size w wc))
          case first =>
            have H := HC28.out
            clear HC28
            by_cases c30 : t220 ≥ 0
            · rw [if_pos c30] at H
              have c30b0 : decide (0 ≤ t220) = true := decide_eq_true c30
              clear c30
              (first | rw [c30b0] | (simp only [i64_w, i32_w]; rw [c30b0]) | skip)
              replace H := Option.bind_eq_some_iff.mp H
              obtain ⟨t221, A310, H⟩ := H
              replace H : (if t221 = true then (if t220 > 0 then ((impl_Passes.f kj5 (wrap64 (t220 - 1)) (wrap64 ((wrap64 (t218 - t220)) + 1)) t219).bind fun t222 => (laws_FnMeetings.j1 kj5 l0 t222)) else (laws_FnMeetings.j1 kj5 l0 false)) else (laws_FnMeetings.j1 kj5 l0 true)) = some r := H
              have A31 := Aside0.mk A310
              clear A310
              by_cases c32 : t221 = true
              · subst c32
                have H1 : (if t220 > 0 then ((impl_Passes.f kj5 (wrap64 (t220 - 1)) (wrap64 ((wrap64 (t218 - t220)) + 1)) t219).bind fun t222 => (laws_FnMeetings.j1 kj5 l0 t222)) else (laws_FnMeetings.j1 kj5 l0 false)) = some r := by rw [if_pos rfl] at H; exact H
                clear H
                have H := H1
                clear H1
                by_cases c33 : t220 > 0
                · rw [if_pos c33] at H
                  have c33b0 : decide (0 < t220) = true := decide_eq_true c33
                  clear c33
                  replace H := Option.bind_eq_some_iff.mp H
                  obtain ⟨t222, A340, H⟩ := H
                  replace H : (laws_FnMeetings.j1 kj5 l0 t222) = some r := H
                  have A34 := Aside0.mk A340
                  clear A340
                  have H' := Aside0.mk H
                  clear H
                  go_wp2_with (first | (go_at_call 20; (with_reducible refine (impl_Passes.calls kj5 t220 (wrap64 (t218 - t220)) t219 true _ A31.out).mono ?_); rintro e w' ⟨rfl, ⟨nd, rfl⟩⟩) | (go_at_call 20; (with_reducible refine (impl_Passes.calls kj5 (wrap64 (t220 - 1)) (wrap64 ((wrap64 (t218 - t220)) + 1)) t219 t222 _ A34.out).mono ?_); rintro e w' ⟨rfl, ⟨nd, rfl⟩⟩))
                  go_meet
                  case rel => exact ⟨_, (t222), (by first | rfl | (simp; done) | (simp [*]; done)), H', ⟨by have := HJ5.out; first | omega | exact Nat.le_refl _⟩, ⟨by repeat (first | (with_reducible first | exact HB.out | apply below_alloc | apply pw_below_drewN | apply below_drew1) | exact HB.out)⟩⟩
                · rw [if_neg c33] at H
                  have c33b0 : decide (0 < t220) = false := decide_eq_false c33
                  clear c33
                  have H' := Aside0.mk H
                  clear H
                  go_wp2_with (first | (go_at_call 20; (with_reducible refine (impl_Passes.calls kj5 t220 (wrap64 (t218 - t220)) t219 true _ A31.out).mono ?_); rintro e w' ⟨rfl, ⟨nd, rfl⟩⟩))
                  go_meet
                  case rel => exact ⟨_, (false), (by first | rfl | (simp; done) | (simp [*]; done)), H', ⟨by have := HJ5.out; first | omega | exact Nat.le_refl _⟩, ⟨by repeat (first | (with_reducible first | exact HB.out | apply below_alloc | apply pw_below_drewN | apply below_drew1) | exact HB.out)⟩⟩
              · replace c32 := Bool.eq_false_iff.mpr c32
                subst c32
                have H1 : (laws_FnMeetings.j1 kj5 l0 true) = some r := by rw [if_neg (show ¬ (false = true) by decide)] at H; exact H
                clear H
                have H := H1
                clear H1
                have H' := Aside0.mk H
                clear H
                go_wp2_with (first | (go_at_call 20; (with_reducible refine (impl_Passes.calls kj5 t220 (wrap64 (t218 - t220)) t219 false _ A31.out).mono ?_); rintro e w' ⟨rfl, ⟨nd, rfl⟩⟩))
                go_meet
                case rel => exact ⟨_, (true), (by first | rfl | (simp; done) | (simp [*]; done)), H', ⟨by have := HJ5.out; first | omega | exact Nat.le_refl _⟩, ⟨by repeat (first | (with_reducible first | exact HB.out | apply below_alloc | apply pw_below_drewN | apply below_drew1) | exact HB.out)⟩⟩
            · rw [if_neg c30] at H
              have c30b0 : decide (0 ≤ t220) = false := decide_eq_false c30
              clear c30
              (first | rw [c30b0] | (simp only [i64_w, i32_w]; rw [c30b0]) | skip)
              have H' := Aside0.mk H
              clear H
              go_wp2
              go_meet
              case rel => exact ⟨_, (false), (by first | rfl | (simp; done) | (simp [*]; done)), H', ⟨by have := HJ5.out; first | omega | exact Nat.le_refl _⟩, ⟨by repeat (first | (with_reducible first | exact HB.out | apply below_alloc | apply pw_below_drewN | apply below_drew1) | exact HB.out)⟩⟩
          case rest =>
            clear HC28
            try clear c1
            try clear c2
            try clear p2
            try clear c3
            try clear p6
            try clear c8
            try clear c8b0
            try clear c8b1
            try clear c10
            try clear c12
            try clear c13
            try clear c13b0
            try clear c13b1
            try clear c15
            try clear c16
            try clear c16b0
            try clear c18
            try clear c18b0
            try clear c20
            try clear c20b0
            try clear c20b1
            try clear c22
            try clear c23
            try clear c23b0
            try clear c24
            try clear c24b0
            try clear c25
            try clear c30
            try clear c30b0
            try clear c32
            try clear c33
            try clear c33b0
            try clear p2
            try clear p6
            obtain ⟨kq, x108_27, rfl, HA, HJ27, HB⟩ := hcut
            cases kq with
            | zero => exact absurd HA.out (by simp [laws_FnMeetings.j1])
            | succ kj27 =>
              have H := HA.out
              clear HA
              simp only [laws_FnMeetings.j1] at H
              by_cases c35 : x108_27 = true
              · subst c35
                have H1 : (some false) = some r := by rw [if_pos rfl] at H; exact H
                clear H
                have H := H1
                clear H1
                obtain rfl := Option.some.inj H
                go_wp2
                go_ret
                exact ⟨by first | rfl | (simp [errW_none, errW_some] <;> rfl) | (simp [*, errW_none, errW_some] <;> rfl), by repeat (first | (with_reducible first | exact HB.out | apply below_alloc | apply pw_below_drewN | apply below_drew1) | exact HB.out)⟩
              · replace c35 := Bool.eq_false_iff.mpr c35
                subst c35
                have H1 : ((spec_DrawCastingVote.f kj27 l0).bind fun bt223 => ((impl_CastingVote.f bt223.1 bt223.2.1 bt223.2.2).bind fun t226 => ((impl_CastingVote.f bt223.2.1 bt223.1 (!bt223.2.2)).bind fun t227 => (if (t226 != t227) = true then ((impl_Passes.f kj27 bt223.1 bt223.2.1 false).bind fun t228 => (if t228 = true then ((impl_CastingVote.f bt223.1 bt223.2.1 false).bind fun t229 => (some t229)) else (some true))) else (some false))))) = some r := by rw [if_neg (show ¬ (false = true) by decide)] at H; exact H
                clear H
                have H := H1
                clear H1
                replace H := Option.bind_eq_some_iff.mp H
                obtain ⟨⟨t223, t224, t225⟩, A360, H⟩ := H
                replace H : ((impl_CastingVote.f t223 t224 t225).bind fun t226 => ((impl_CastingVote.f t224 t223 (!t225)).bind fun t227 => (if (t226 != t227) = true then ((impl_Passes.f kj27 t223 t224 false).bind fun t228 => (if t228 = true then ((impl_CastingVote.f t223 t224 false).bind fun t229 => (some t229)) else (some true))) else (some false)))) = some r := H
                have A36 := Aside0.mk A360
                clear A360
                replace H := Option.bind_eq_some_iff.mp H
                obtain ⟨t226, A370, H⟩ := H
                replace H : ((impl_CastingVote.f t224 t223 (!t225)).bind fun t227 => (if (t226 != t227) = true then ((impl_Passes.f kj27 t223 t224 false).bind fun t228 => (if t228 = true then ((impl_CastingVote.f t223 t224 false).bind fun t229 => (some t229)) else (some true))) else (some false))) = some r := H
                have A37 := Aside0.mk A370
                clear A370
                replace H := Option.bind_eq_some_iff.mp H
                obtain ⟨t227, A380, H⟩ := H
                replace H : (if (t226 != t227) = true then ((impl_Passes.f kj27 t223 t224 false).bind fun t228 => (if t228 = true then ((impl_CastingVote.f t223 t224 false).bind fun t229 => (some t229)) else (some true))) else (some false)) = some r := H
                have A38 := Aside0.mk A380
                clear A380
                by_cases c39 : (t226 != t227) = true
                · rw [if_pos c39] at H
                  have c39b0 : (t226 != t227) = true := c39
                  (try (have c39b1 : decide (t226 = t227) = false := by simpa using c39))
                  (try (have c39b2 : (t226 == t227) = false := by simpa using c39))
                  (try (have c39b3 : ¬ (t226 = t227) := by simpa using c39))
                  clear c39
                  replace H := Option.bind_eq_some_iff.mp H
                  obtain ⟨t228, A400, H⟩ := H
                  replace H : (if t228 = true then ((impl_CastingVote.f t223 t224 false).bind fun t229 => (some t229)) else (some true)) = some r := H
                  have A40 := Aside0.mk A400
                  clear A400
                  by_cases c41 : t228 = true
                  · subst c41
                    have H1 : ((impl_CastingVote.f t223 t224 false).bind fun t229 => (some t229)) = some r := by rw [if_pos rfl] at H; exact H
                    clear H
                    have H := H1
                    clear H1
                    replace H := Option.bind_eq_some_iff.mp H
                    obtain ⟨t229, A420, H⟩ := H
                    replace H : (some t229) = some r := H
                    have A42 := Aside0.mk A420
                    clear A420
                    obtain rfl := Option.some.inj H
                    go_wp2_with (first | ((with_reducible refine gate_callee (f := 38) rfl ?_); refine goesL_ (some 111) rfl rfl Try.func38 (by kernel_rfl) rfl #[.slice A0 l0.length c0] rfl (by (try simp only [List.map_toArray, List.map_cons, List.map_nil]); first | done | rfl | (simp only [List.length_drop, List.length_take]; rfl)) ?_; (with_reducible refine (spec_DrawCastingVote.calls kj27 _ _ l0 t223 t224 t225 _ ?side1 ?side2 A36.out).mono ?_); (case side1 => repeat (first | exact (Kd.C_below HR0.out HB.out) | (with_reducible refine Kd.C_alloc ?_ _) | (with_reducible refine Kd.C_drewN ?_ _) | (with_reducible refine Kd.C_drew ?_))); (case side2 => exact HC0.out); rintro e w43 ⟨rfl, hb⟩; refine ⟨_, rfl, ?_⟩; have n0_ := Aside0.mk (below_step (by repeat (first | (with_reducible first | exact HB.out | apply below_alloc | apply pw_below_drewN | apply below_drew1) | exact HB.out)) hb); clear HB; have HB := n0_; clear n0_; (try clear hb); (try clear hb2); (try clear hk); (try clear hi)) | ((with_reducible refine gate_callee (f := 16) rfl ?_); refine goesL_ (some 118) rfl rfl Try.func16 (by kernel_rfl) rfl #[.int .i64 t223, .int .i64 t224, .bool t225] rfl (by (try simp only [List.map_toArray, List.map_cons, List.map_nil]); first | done | rfl | (simp only [List.length_drop, List.length_take]; rfl)) ?_; (with_reducible refine (impl_CastingVote.calls t223 t224 t225 t226 _ A37.out).mono ?_); rintro e w' ⟨rfl, ⟨nd, rfl⟩⟩; refine ⟨_, rfl, ?_⟩) | ((with_reducible refine gate_callee (f := 16) rfl ?_); refine goesL_ (some 123) rfl rfl Try.func16 (by kernel_rfl) rfl #[.int .i64 t224, .int .i64 t223, .bool (!t225)] rfl (by (try simp only [List.map_toArray, List.map_cons, List.map_nil]); first | done | rfl | (simp only [List.length_drop, List.length_take]; rfl)) ?_; (with_reducible refine (impl_CastingVote.calls t224 t223 (!t225) t227 _ A38.out).mono ?_); rintro e w' ⟨rfl, ⟨nd, rfl⟩⟩; refine ⟨_, rfl, ?_⟩) | (go_at_call 20; (with_reducible refine (impl_Passes.calls kj27 t223 t224 false true _ A40.out).mono ?_); rintro e w' ⟨rfl, ⟨nd, rfl⟩⟩) | (go_at_call 16; (with_reducible refine (impl_CastingVote.calls t223 t224 false t229 _ A42.out).mono ?_); rintro e w' ⟨rfl, ⟨nd, rfl⟩⟩))
                    go_ret
                    exact ⟨by first | rfl | (simp [errW_none, errW_some] <;> rfl) | (simp [*, errW_none, errW_some] <;> rfl), by repeat (first | (with_reducible first | exact HB.out | apply below_alloc | apply pw_below_drewN | apply below_drew1) | exact HB.out)⟩
                  · replace c41 := Bool.eq_false_iff.mpr c41
                    subst c41
                    have H1 : (some true) = some r := by rw [if_neg (show ¬ (false = true) by decide)] at H; exact H
                    clear H
                    have H := H1
                    clear H1
                    obtain rfl := Option.some.inj H
                    go_wp2_with (first | ((with_reducible refine gate_callee (f := 38) rfl ?_); refine goesL_ (some 111) rfl rfl Try.func38 (by kernel_rfl) rfl #[.slice A0 l0.length c0] rfl (by (try simp only [List.map_toArray, List.map_cons, List.map_nil]); first | done | rfl | (simp only [List.length_drop, List.length_take]; rfl)) ?_; (with_reducible refine (spec_DrawCastingVote.calls kj27 _ _ l0 t223 t224 t225 _ ?side1 ?side2 A36.out).mono ?_); (case side1 => repeat (first | exact (Kd.C_below HR0.out HB.out) | (with_reducible refine Kd.C_alloc ?_ _) | (with_reducible refine Kd.C_drewN ?_ _) | (with_reducible refine Kd.C_drew ?_))); (case side2 => exact HC0.out); rintro e w44 ⟨rfl, hb⟩; refine ⟨_, rfl, ?_⟩; have n0_ := Aside0.mk (below_step (by repeat (first | (with_reducible first | exact HB.out | apply below_alloc | apply pw_below_drewN | apply below_drew1) | exact HB.out)) hb); clear HB; have HB := n0_; clear n0_; (try clear hb); (try clear hb2); (try clear hk); (try clear hi)) | ((with_reducible refine gate_callee (f := 16) rfl ?_); refine goesL_ (some 118) rfl rfl Try.func16 (by kernel_rfl) rfl #[.int .i64 t223, .int .i64 t224, .bool t225] rfl (by (try simp only [List.map_toArray, List.map_cons, List.map_nil]); first | done | rfl | (simp only [List.length_drop, List.length_take]; rfl)) ?_; (with_reducible refine (impl_CastingVote.calls t223 t224 t225 t226 _ A37.out).mono ?_); rintro e w' ⟨rfl, ⟨nd, rfl⟩⟩; refine ⟨_, rfl, ?_⟩) | ((with_reducible refine gate_callee (f := 16) rfl ?_); refine goesL_ (some 123) rfl rfl Try.func16 (by kernel_rfl) rfl #[.int .i64 t224, .int .i64 t223, .bool (!t225)] rfl (by (try simp only [List.map_toArray, List.map_cons, List.map_nil]); first | done | rfl | (simp only [List.length_drop, List.length_take]; rfl)) ?_; (with_reducible refine (impl_CastingVote.calls t224 t223 (!t225) t227 _ A38.out).mono ?_); rintro e w' ⟨rfl, ⟨nd, rfl⟩⟩; refine ⟨_, rfl, ?_⟩) | (go_at_call 20; (with_reducible refine (impl_Passes.calls kj27 t223 t224 false false _ A40.out).mono ?_); rintro e w' ⟨rfl, ⟨nd, rfl⟩⟩))
                    go_ret
                    exact ⟨by first | rfl | (simp [errW_none, errW_some] <;> rfl) | (simp [*, errW_none, errW_some] <;> rfl), by repeat (first | (with_reducible first | exact HB.out | apply below_alloc | apply pw_below_drewN | apply below_drew1) | exact HB.out)⟩
                · rw [if_neg c39] at H
                  have c39b0 : (t226 != t227) = false := by simpa using c39
                  (try (have c39b1 : decide (t226 = t227) = true := by simpa using c39))
                  (try (have c39b2 : (t226 == t227) = true := by simpa using c39))
                  clear c39
                  obtain rfl := Option.some.inj H
                  go_wp2_with (first | ((with_reducible refine gate_callee (f := 38) rfl ?_); refine goesL_ (some 111) rfl rfl Try.func38 (by kernel_rfl) rfl #[.slice A0 l0.length c0] rfl (by (try simp only [List.map_toArray, List.map_cons, List.map_nil]); first | done | rfl | (simp only [List.length_drop, List.length_take]; rfl)) ?_; (with_reducible refine (spec_DrawCastingVote.calls kj27 _ _ l0 t223 t224 t225 _ ?side1 ?side2 A36.out).mono ?_); (case side1 => repeat (first | exact (Kd.C_below HR0.out HB.out) | (with_reducible refine Kd.C_alloc ?_ _) | (with_reducible refine Kd.C_drewN ?_ _) | (with_reducible refine Kd.C_drew ?_))); (case side2 => exact HC0.out); rintro e w45 ⟨rfl, hb⟩; refine ⟨_, rfl, ?_⟩; have n0_ := Aside0.mk (below_step (by repeat (first | (with_reducible first | exact HB.out | apply below_alloc | apply pw_below_drewN | apply below_drew1) | exact HB.out)) hb); clear HB; have HB := n0_; clear n0_; (try clear hb); (try clear hb2); (try clear hk); (try clear hi)) | ((with_reducible refine gate_callee (f := 16) rfl ?_); refine goesL_ (some 118) rfl rfl Try.func16 (by kernel_rfl) rfl #[.int .i64 t223, .int .i64 t224, .bool t225] rfl (by (try simp only [List.map_toArray, List.map_cons, List.map_nil]); first | done | rfl | (simp only [List.length_drop, List.length_take]; rfl)) ?_; (with_reducible refine (impl_CastingVote.calls t223 t224 t225 t226 _ A37.out).mono ?_); rintro e w' ⟨rfl, ⟨nd, rfl⟩⟩; refine ⟨_, rfl, ?_⟩) | ((with_reducible refine gate_callee (f := 16) rfl ?_); refine goesL_ (some 123) rfl rfl Try.func16 (by kernel_rfl) rfl #[.int .i64 t224, .int .i64 t223, .bool (!t225)] rfl (by (try simp only [List.map_toArray, List.map_cons, List.map_nil]); first | done | rfl | (simp only [List.length_drop, List.length_take]; rfl)) ?_; (with_reducible refine (impl_CastingVote.calls t224 t223 (!t225) t227 _ A38.out).mono ?_); rintro e w' ⟨rfl, ⟨nd, rfl⟩⟩; refine ⟨_, rfl, ?_⟩))
                  go_ret
                  exact ⟨by first | rfl | (simp [errW_none, errW_some] <;> rfl) | (simp [*, errW_none, errW_some] <;> rfl), by repeat (first | (with_reducible first | exact HB.out | apply below_alloc | apply pw_below_drewN | apply below_drew1) | exact HB.out)⟩

/-- THE ONE PURE STATEMENT of laws_FnMeetings: yours. -/
def laws_FnMeetings.Pure : Prop := ∀ (l0 : List Int), l0.length ≤ maxLen → l0.length * 1 ≤ 140737488351232 → (∀ x ∈ l0, (Lit.int .u8 x).wf = true) → ∃ k, laws_FnMeetings.f k l0 = some true
theorem laws_FnMeetings.walk (P : laws_FnMeetings.Pure) (a0 : Option Addr) (len0 cap0 : Nat) (z0 : List Int) (w : World) (w0 : (a0 = none ∧ len0 = 0 ∧ cap0 = 0 ∧ z0 = []) ∨ ∃ x, a0 = some x ∧ len0 ≤ cap0 ∧ cap0 ≤ maxLen ∧ z0.length = cap0 ∧ (∀ i, i < z0.length → w.cell? (x.add i) = some (.int .u8 (z0.getD i 0))) ∧ ∀ n ∈ z0, (Lit.int .u8 n).wf = true) (y0 : len0 * 1 ≤ 140737488351232) :
    Calls Try.prog 12 #[.slice a0 len0 cap0] w fun e w' => e = .returned (.bool true) ∧ Below w.heap.size w w' := by
  obtain ⟨l0, rfl, hr0, hm0, hw0, hc0⟩ := ReadsInt.ofRowC w0
  obtain ⟨k, h⟩ := P l0 hm0 y0 hw0
  refine (laws_FnMeetings.calls k _ _ l0 true w (Kd.C_of_reads (d := (0 : Int)) (h1 := fun _ => rfl) hr0) hc0 h).mono ?_
  rintro e w' ⟨rfl, hd⟩
  exact ⟨rfl, hd⟩

end Go.Proofs.Ytefcdlkmifieeaa.QFnMeetings
