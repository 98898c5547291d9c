-- Laid by this session's own program (wip/myprint.py), the kit's printer its engine; turned by hand where that fell. Lean checks it.
import Derived.Test.YtfcidjlnokhkjaaQFnExactAddSourcex0
import Derived.Test.YtfcidjlnokhkjaaQFnExactAddSourcex1
import Derived.Test.YtfcidjlnokhkjaaQFnExactAddSourcex3
import Derived.Test.YtfcidjlnokhkjaaQFnExactAddSourcex5
namespace Go.Proofs.Ytfcidjlnokhkjaa.QFnExactAddSource
open Go.RowKit Go.Proofs.YtfcidjlnokhkjaaW.PrintWords Go.Proofs.YtfcidjlnokhkjaaW.PrintLast Go.Proofs.YtfcidjlnokhkjaaW.PrintMore
attribute [local go_sem] max2_int min2_int max_two min_two max_three min_three max_four min_four   -- for this text's walks alone
set_option linter.unusedVariables false
set_option linter.unusedSimpArgs false

/-! ### laws_FnExactAddSource: function 7 -/
mutual
def laws_FnExactAddSource.j0 : Nat → List (S34) → List (S37) → Bool → List (S37) → List (S37) → Bool → Bool → Int → Int → Int → Bool → Option (Bool)
 | 0, _, _, _, _, _, _, _, _, _, _, _ => none
 | k + 1, x0, x6, x7, x8, x9, x10, x46, x205000, x205001, x205002, x205003 => if x46 = true then (some false) else ((laws_toSourceS.f k x0).bind fun t229 => ((laws_eqSourceS.f k x8 t229).bind fun t232 => (if t232 = true then ((laws_markSourceS.f k x8 1).bind fun bt233 => (if bt233.1 < 0 then (laws_FnExactAddSource.j1 k x0 x6 x7 x9 true x205000 x205001 x205002 x205003) else ((laws_eqSourceS.f k x9 x6).bind fun t235 => (if t235 = true then (laws_FnExactAddSource.j1 k x0 x6 x7 x9 (x10 != x7) x205000 x205001 x205002 x205003) else (laws_FnExactAddSource.j1 k x0 x6 x7 x9 true x205000 x205001 x205002 x205003))))) else (some false))))
def laws_FnExactAddSource.j1 : Nat → List (S34) → List (S37) → Bool → List (S37) → Bool → Int → Int → Int → Bool → Option (Bool)
 | 0, _, _, _, _, _, _, _, _, _ => none
 | k + 1, x0, x6, x7, x9, x67, x205000, x205001, x205002, x205003 => if x67 = true then (some false) else ((laws_markSourceS.f k x9 1).bind fun bt236 => ((laws_heldSourceS.f k bt236.2 1).bind fun t238 => (if t238 < 0 then (some false) else (if t238 = bt236.1 then ((laws_toSourceS.f k x0).bind fun t239 => ((laws_toSource.f x205000 x205001 x205002 x205003).bind fun bt242 => ((impl_AddSource.f k t239 bt242.1 bt242.2.1 bt242.2.2.1 bt242.2.2.2).bind fun bt246 => ((laws_eqSourceS.f k bt246.1 x6).bind fun t250 => (if t250 = true then (laws_FnExactAddSource.j2 k bt236.2 bt236.1 (bt246.2 != x7)) else (laws_FnExactAddSource.j2 k bt236.2 bt236.1 true)))))) else (some false)))))
def laws_FnExactAddSource.j2 : Nat → List (S37) → Int → Bool → Option (Bool)
 | 0, _, _, _ => none
 | k + 1, x9, x12, x95 => if x95 = true then (some false) else ((laws_heldSourceS.f k x9 1).bind fun t251 => (if t251 < 0 then (some false) else (if t251 = x12 then (some true) else (some false))))
end
def laws_FnExactAddSource.f (k : Nat) (l0 : List (S34)) (a1_0 : Int) (a1_1 : Int) (a1_2 : Int) (a1_3 : Bool) : Option (Bool) := (laws_szSourceS.f l0 1048576).bind fun t205 => (if t205 < 0 then (some true) else ((laws_toSourceS.f k l0).bind fun t206 => ((laws_toSource.f a1_0 a1_1 a1_2 a1_3).bind fun bt209 => ((spec_AddSource.f k t206 bt209.1 bt209.2.1 bt209.2.2.1 bt209.2.2.2).bind fun bt213 => ((laws_toSourceS.f k l0).bind fun t217 => ((laws_toSource.f a1_0 a1_1 a1_2 a1_3).bind fun bt220 => ((impl_AddSource.f k t217 bt220.1 bt220.2.1 bt220.2.2.1 bt220.2.2.2).bind fun bt224 => ((laws_eqSourceS.f k bt224.1 bt213.1).bind fun t228 => (if t228 = true then (laws_FnExactAddSource.j0 k l0 bt213.1 bt213.2 t217 bt224.1 bt224.2 (bt224.2 != bt213.2) a1_0 a1_1 a1_2 a1_3) else (laws_FnExactAddSource.j0 k l0 bt213.1 bt213.2 t217 bt224.1 bt224.2 true a1_0 a1_1 a1_2 a1_3))))))))))
theorem laws_FnExactAddSource.mono_l : ∀ k, (∀ y0 y1 y2 y3 y4 y5 y6 y7 y8 y9 y10, LeO (laws_FnExactAddSource.j0 k y0 y1 y2 y3 y4 y5 y6 y7 y8 y9 y10) (laws_FnExactAddSource.j0 (k + 1) y0 y1 y2 y3 y4 y5 y6 y7 y8 y9 y10)) ∧ (∀ y0 y1 y2 y3 y4 y5 y6 y7 y8, LeO (laws_FnExactAddSource.j1 k y0 y1 y2 y3 y4 y5 y6 y7 y8) (laws_FnExactAddSource.j1 (k + 1) y0 y1 y2 y3 y4 y5 y6 y7 y8)) ∧ (∀ y0 y1 y2, LeO (laws_FnExactAddSource.j2 k y0 y1 y2) (laws_FnExactAddSource.j2 (k + 1) y0 y1 y2))
 | 0 => ⟨fun _ _ _ _ _ _ _ _ _ _ _ r h => by simp [laws_FnExactAddSource.j0] at h, fun _ _ _ _ _ _ _ _ _ r h => by simp [laws_FnExactAddSource.j1] at h, fun _ _ _ r h => by simp [laws_FnExactAddSource.j2] at h⟩
 | k + 1 => by
  obtain ⟨ih0, ih1, ih2⟩ := laws_FnExactAddSource.mono_l k
  refine ⟨?_, ?_, ?_⟩
  ·
   intro y0 y1 y2 y3 y4 y5 y6 y7 y8 y9 y10
   unfold laws_FnExactAddSource.j0
   repeat' first
   | (with_reducible exact ih0 _ _ _ _ _ _ _ _ _ _ _)
   | (with_reducible exact ih1 _ _ _ _ _ _ _ _ _)
   | (with_reducible exact ih2 _ _ _)
   | (with_reducible exact impl_AddSource.mono _ _ _ _ _ _)
   | (with_reducible exact laws_eqSourceS.mono _ _ _)
   | (with_reducible exact laws_heldSourceS.mono _ _ _)
   | (with_reducible exact laws_markSourceS.mono _ _ _)
   | (with_reducible exact laws_toSourceS.mono _ _)
   | (with_reducible exact spec_AddSource.mono _ _ _ _ _ _)
   | (with_reducible exact LeO.refl _)
   | (with_reducible exact LeO.none _)
   | (with_reducible refine LeO.ite ?_ ?_)
   | (with_reducible refine LeO.bind ?_ (fun _ => ?_))
   | exact ih0 _ _ _ _ _ _ _ _ _ _ _
   | exact ih1 _ _ _ _ _ _ _ _ _
   | exact ih2 _ _ _
   | exact impl_AddSource.mono _ _ _ _ _ _
   | exact laws_eqSourceS.mono _ _ _
   | exact laws_heldSourceS.mono _ _ _
   | exact laws_markSourceS.mono _ _ _
   | exact laws_toSourceS.mono _ _
   | exact spec_AddSource.mono _ _ _ _ _ _
   | exact LeO.none _
   | refine LeO.ite ?_ ?_
   | refine LeO.bind ?_ (fun _ => ?_)
  ·
   intro y0 y1 y2 y3 y4 y5 y6 y7 y8
   unfold laws_FnExactAddSource.j1
   repeat' first
   | (with_reducible exact ih0 _ _ _ _ _ _ _ _ _ _ _)
   | (with_reducible exact ih1 _ _ _ _ _ _ _ _ _)
   | (with_reducible exact ih2 _ _ _)
   | (with_reducible exact impl_AddSource.mono _ _ _ _ _ _)
   | (with_reducible exact laws_eqSourceS.mono _ _ _)
   | (with_reducible exact laws_heldSourceS.mono _ _ _)
   | (with_reducible exact laws_markSourceS.mono _ _ _)
   | (with_reducible exact laws_toSourceS.mono _ _)
   | (with_reducible exact spec_AddSource.mono _ _ _ _ _ _)
   | (with_reducible exact LeO.refl _)
   | (with_reducible exact LeO.none _)
   | (with_reducible refine LeO.ite ?_ ?_)
   | (with_reducible refine LeO.bind ?_ (fun _ => ?_))
   | exact ih0 _ _ _ _ _ _ _ _ _ _ _
   | exact ih1 _ _ _ _ _ _ _ _ _
   | exact ih2 _ _ _
   | exact impl_AddSource.mono _ _ _ _ _ _
   | exact laws_eqSourceS.mono _ _ _
   | exact laws_heldSourceS.mono _ _ _
   | exact laws_markSourceS.mono _ _ _
   | exact laws_toSourceS.mono _ _
   | exact spec_AddSource.mono _ _ _ _ _ _
   | exact LeO.none _
   | refine LeO.ite ?_ ?_
   | refine LeO.bind ?_ (fun _ => ?_)
  ·
   intro y0 y1 y2
   unfold laws_FnExactAddSource.j2
   repeat' first
   | (with_reducible exact ih0 _ _ _ _ _ _ _ _ _ _ _)
   | (with_reducible exact ih1 _ _ _ _ _ _ _ _ _)
   | (with_reducible exact ih2 _ _ _)
   | (with_reducible exact impl_AddSource.mono _ _ _ _ _ _)
   | (with_reducible exact laws_eqSourceS.mono _ _ _)
   | (with_reducible exact laws_heldSourceS.mono _ _ _)
   | (with_reducible exact laws_markSourceS.mono _ _ _)
   | (with_reducible exact laws_toSourceS.mono _ _)
   | (with_reducible exact spec_AddSource.mono _ _ _ _ _ _)
   | (with_reducible exact LeO.refl _)
   | (with_reducible exact LeO.none _)
   | (with_reducible refine LeO.ite ?_ ?_)
   | (with_reducible refine LeO.bind ?_ (fun _ => ?_))
   | exact ih0 _ _ _ _ _ _ _ _ _ _ _
   | exact ih1 _ _ _ _ _ _ _ _ _
   | exact ih2 _ _ _
   | exact impl_AddSource.mono _ _ _ _ _ _
   | exact laws_eqSourceS.mono _ _ _
   | exact laws_heldSourceS.mono _ _ _
   | exact laws_markSourceS.mono _ _ _
   | exact laws_toSourceS.mono _ _
   | exact spec_AddSource.mono _ _ _ _ _ _
   | exact LeO.none _
   | refine LeO.ite ?_ ?_
   | refine LeO.bind ?_ (fun _ => ?_)
theorem laws_FnExactAddSource.mono : ∀ a0 a1 a2 a3 a4 k, LeO (laws_FnExactAddSource.f k a0 a1 a2 a3 a4) (laws_FnExactAddSource.f (k + 1) a0 a1 a2 a3 a4) := by
 intro a0 a1 a2 a3 a4 k
 obtain ⟨ih0, ih1, ih2⟩ := laws_FnExactAddSource.mono_l k
 unfold laws_FnExactAddSource.f
 repeat' first
   | (with_reducible exact ih0 _ _ _ _ _ _ _ _ _ _ _)
   | (with_reducible exact ih1 _ _ _ _ _ _ _ _ _)
   | (with_reducible exact ih2 _ _ _)
   | (with_reducible exact impl_AddSource.mono _ _ _ _ _ _)
   | (with_reducible exact laws_eqSourceS.mono _ _ _)
   | (with_reducible exact laws_heldSourceS.mono _ _ _)
   | (with_reducible exact laws_markSourceS.mono _ _ _)
   | (with_reducible exact laws_toSourceS.mono _ _)
   | (with_reducible exact spec_AddSource.mono _ _ _ _ _ _)
   | (with_reducible exact LeO.refl _)
   | (with_reducible exact LeO.none _)
   | (with_reducible refine LeO.ite ?_ ?_)
   | (with_reducible refine LeO.bind ?_ (fun _ => ?_))
   | exact ih0 _ _ _ _ _ _ _ _ _ _ _
   | exact ih1 _ _ _ _ _ _ _ _ _
   | exact ih2 _ _ _
   | exact impl_AddSource.mono _ _ _ _ _ _
   | exact laws_eqSourceS.mono _ _ _
   | exact laws_heldSourceS.mono _ _ _
   | exact laws_markSourceS.mono _ _ _
   | exact laws_toSourceS.mono _ _
   | exact spec_AddSource.mono _ _ _ _ _ _
   | exact LeO.none _
   | refine LeO.ite ?_ ?_
   | refine LeO.bind ?_ (fun _ => ?_)
def laws_FnExactAddSource.T5 : Bool × List (List Nat × List Nat) := (true, [([], []), ([0], [0]), ([], []), ([2, 1], [2]), ([1, 3, 3], [1, 3]), ([4], [4]), ([5], [5]), ([5], [5]), ([6, 4, 0, 1, 2, 3, 4, 5, 6], [6]), ([7, 8, 0, 1, 2, 3, 4, 5, 6, 7, 8], [7])])
def laws_FnExactAddSource.B5 : List Nat := [0, 1, 0, 7, 15, 31, 63, 63, 127, 511]
theorem laws_FnExactAddSource.tab5 : rtab .any (opsOf Try.f7 5) = laws_FnExactAddSource.T5 := by kernel_rfl
theorem laws_FnExactAddSource.bits5 : waitsOk laws_FnExactAddSource.T5.2 laws_FnExactAddSource.B5 = true := by kernel_rfl
def laws_FnExactAddSource.T24 : Bool × List (List Nat × List Nat) := (true, [([], []), ([0], [0]), ([], []), ([2, 1], [2]), ([1, 3, 3], [1, 3]), ([4], [4]), ([5], [5]), ([5], [5]), ([6, 4, 0, 1, 2, 3, 4, 5, 6], [6]), ([7, 8, 0, 1, 2, 3, 4, 5, 6, 7, 8], [7])])
def laws_FnExactAddSource.B24 : List Nat := [0, 1, 0, 7, 15, 31, 63, 63, 127, 511]
theorem laws_FnExactAddSource.tab24 : rtab .any (opsOf Try.f7 24) = laws_FnExactAddSource.T24 := by kernel_rfl
theorem laws_FnExactAddSource.bits24 : waitsOk laws_FnExactAddSource.T24.2 laws_FnExactAddSource.B24 = true := by kernel_rfl
theorem laws_FnExactAddSource.j0_no : ∀ k a0 a1 a2 a3 a4 a5 a7 a8 a9 a10, laws_FnExactAddSource.j0 k a0 a1 a2 a3 a4 a5 true a7 a8 a9 a10 = some true → False := by
 intro k a0 a1 a2 a3 a4 a5 a7 a8 a9 a10
 cases k <;> simp [laws_FnExactAddSource.j0]
theorem laws_FnExactAddSource.j1_no : ∀ k a0 a1 a2 a3 a5 a6 a7 a8, laws_FnExactAddSource.j1 k a0 a1 a2 a3 true a5 a6 a7 a8 = some true → False := by
 intro k a0 a1 a2 a3 a5 a6 a7 a8
 cases k <;> simp [laws_FnExactAddSource.j1]
theorem laws_FnExactAddSource.j2_no : ∀ k a0 a1, laws_FnExactAddSource.j2 k a0 a1 true = some true → False := by
 intro k a0 a1
 cases k <;> simp [laws_FnExactAddSource.j2]
set_option linter.defProp false
def θd := @Kd.R_alloc
def θe := @Kd.R_drewN
def θf := @Kd.R_drew
def θg := @below_set
def θh := @pw_below_drewN
def θi := @below_drew1
def θj := @below_alloc
def θk := @blk_cell
def θm := @List.setIfInBounds_toArray
def θn := @List.set_cons_zero
def θo := @List.set_cons_succ
def θp := @Aside0.mk
def θr := @Kd.R_below
abbrev θ0 : Array Bool := #[false, false, false, false, false, false, false, false, false, false]
abbrev θ1 : Array Bool := #[true, false, false, false, false, false, false, false, false, false]
abbrev θ2 : Array Bool := #[true, false, true, false, false, false, false, false, false, false]
abbrev θ3 : Array Bool := #[true, true, true, false, false, false, false, false, false, false]
abbrev θ4 : Array Bool := #[true, true, true, true, false, false, false, false, false, false]
abbrev θ5 : Array Bool := #[true, true, true, true, true, false, false, false, false, false]
abbrev θ6 : Array Bool := #[true, true, true, true, true, true, false, false, false, false]
abbrev θ7 : Array Bool := #[true, true, true, true, true, true, true, false, false, false]
abbrev θ8 : Array Bool := #[true, true, true, true, true, true, true, true, false, false]
abbrev θ9 : Array Bool := #[true, true, true, true, true, true, true, true, true, false]
abbrev θ10 : Array Bool := #[true, true, true, true, true, true, true, true, true, true]
set_option maxHeartbeats 8000000 in
set_option maxRecDepth 100000 in
theorem laws_FnExactAddSource.calls (k : Nat) (A0 : Option Addr) (c0 : Nat) (l0 : List (S34)) (a1_0 : Int) (a1_1 : Int) (a1_2 : Int) (a1_3 : Bool) (r : Bool) (w : World) (hr0 : Kd.C k34 w A0 l0.length l0) (hc0 : l0.length ≤ c0) (hr_ : r = true) (h : laws_FnExactAddSource.f k l0 a1_0 a1_1 a1_2 a1_3 = some r) :
  Calls Try.prog 7 #[.slice A0 l0.length c0, .agg #[.int .i64 a1_0, .int .i64 a1_1, .int .i64 a1_2, .bool a1_3]] w fun e w' => e = .returned (.bool r) ∧ Below w.heap.size w w' := by
 have hu34 := Try.underlying34
 have HR0 := θp hr0
 have HC0 := θp hc0
 clear hr0 hc0
 have HB := θp (Below.refl w.heap.size w)
 have H : ((laws_szSourceS.f l0 1048576).bind fun t205 => (if t205 < 0 then (some true) else ((laws_toSourceS.f k l0).bind fun t206 => ((laws_toSource.f a1_0 a1_1 a1_2 a1_3).bind fun bt209 => ((spec_AddSource.f k t206 bt209.1 bt209.2.1 bt209.2.2.1 bt209.2.2.2).bind fun bt213 => ((laws_toSourceS.f k l0).bind fun t217 => ((laws_toSource.f a1_0 a1_1 a1_2 a1_3).bind fun bt220 => ((impl_AddSource.f k t217 bt220.1 bt220.2.1 bt220.2.2.1 bt220.2.2.2).bind fun bt224 => ((laws_eqSourceS.f k bt224.1 bt213.1).bind fun t228 => (if t228 = true then (laws_FnExactAddSource.j0 k l0 bt213.1 bt213.2 t217 bt224.1 bt224.2 (bt224.2 != bt213.2) a1_0 a1_1 a1_2 a1_3) else (laws_FnExactAddSource.j0 k l0 bt213.1 bt213.2 t217 bt224.1 bt224.2 true a1_0 a1_1 a1_2 a1_3))))))))))) = some r := h
 clear h
 replace H := Option.bind_eq_some_iff.mp H
 obtain ⟨t205, A30, H⟩ := H
 replace H : (if t205 < 0 then (some true) else ((laws_toSourceS.f k l0).bind fun t206 => ((laws_toSource.f a1_0 a1_1 a1_2 a1_3).bind fun bt209 => ((spec_AddSource.f k t206 bt209.1 bt209.2.1 bt209.2.2.1 bt209.2.2.2).bind fun bt213 => ((laws_toSourceS.f k l0).bind fun t217 => ((laws_toSource.f a1_0 a1_1 a1_2 a1_3).bind fun bt220 => ((impl_AddSource.f k t217 bt220.1 bt220.2.1 bt220.2.2.1 bt220.2.2.2).bind fun bt224 => ((laws_eqSourceS.f k bt224.1 bt213.1).bind fun t228 => (if t228 = true then (laws_FnExactAddSource.j0 k l0 bt213.1 bt213.2 t217 bt224.1 bt224.2 (bt224.2 != bt213.2) a1_0 a1_1 a1_2 a1_3) else (laws_FnExactAddSource.j0 k l0 bt213.1 bt213.2 t217 bt224.1 bt224.2 true a1_0 a1_1 a1_2 a1_3)))))))))) = some r := H
 have A3 := θp A30
 clear A30
 by_cases c4 : t205 < 0
 ·
  rw [if_pos c4] at H
  have c4b0 : decide (t205 < 0) = true := decide_eq_true c4
  clear c4
  obtain rfl := Option.some.inj H
  go_enter Try.func7, Try.ntmps7
  go_wp2_with (first | ((with_reducible refine gate_dst (N := 3) rfl ?_); refine box_event ?hg (N := 3) ?hd (cs := #[.int .i64 a1_0, .int .i64 a1_1, .int .i64 a1_2, .bool a1_3]) (t := 34) ?hr ?_; (case hd => rfl); (case hg => rfl); (case hr => first | (go_simp; done) | (go_simp; rfl)); intro gb204 hg w5 hbox hb; have n0_ := θp (below_step (by repeat (first | (with_reducible first | exact HB.out | apply θj | apply θh | apply θi) | exact HB.out)) hb); have n1_ := θp (hbox); have n2_ := θp ((by rw [hg]; exact (below_size (by repeat (first | (with_reducible first | exact HB.out | apply θj | apply θh | apply θi) | exact HB.out))) : w.heap.size ≤ gb204)); have n3_ := θp ((by rw [hg]; exact (below_size (by repeat (first | (with_reducible first | exact HB.out | apply θj | apply θh | apply θi) | exact HB.out))) : w.heap.size ≤ gb204)); clear HB; have HB := n0_; have BK204 := n1_; have GW204 := n2_; have GE204 := n3_; clear n0_ n1_ n2_ n3_; clear hb hbox hg) | ((with_reducible refine gate_callee (f := 15) rfl ?_); refine goesL_ (some 18) rfl rfl Try.func15 (by kernel_rfl) rfl #[.slice A0 l0.length c0, .int .i64 1048576] rfl (by (try simp only [List.map_toArray, List.map_cons, List.map_nil]); first | done | rfl | (simp only [List.length_drop, List.length_take]; rfl)) ?_; (with_reducible refine (laws_szSourceS.calls _ _ l0 1048576 t205 _ ?side1 ?side2 A3.out).mono ?_); (case side1 => repeat (first | exact (Kd.C_below HR0.out HB.out) | (with_reducible refine Kd.C_alloc ?_ _) | (with_reducible refine Kd.C_drewN ?_ _) | (with_reducible refine Kd.C_drew ?_))); (case side2 => exact HC0.out); rintro e w' ⟨rfl, ⟨nd, rfl⟩⟩; refine ⟨_, rfl, ?_⟩))
  go_ret
  exact ⟨by first | rfl | (simp [errW_none, errW_some] <;> rfl) | (simp [*, errW_none, errW_some] <;> rfl), by repeat (first | (with_reducible first | exact HB.out | apply θj | apply θh | apply θi | refine θg ?_ GE204.out) | exact HB.out)⟩
 rw [if_neg c4] at H
 have c4b0 : decide (t205 < 0) = false := decide_eq_false c4
 clear c4
 replace H := Option.bind_eq_some_iff.mp H
 obtain ⟨t206, A60, H⟩ := H
 replace H : ((laws_toSource.f a1_0 a1_1 a1_2 a1_3).bind fun bt209 => ((spec_AddSource.f k t206 bt209.1 bt209.2.1 bt209.2.2.1 bt209.2.2.2).bind fun bt213 => ((laws_toSourceS.f k l0).bind fun t217 => ((laws_toSource.f a1_0 a1_1 a1_2 a1_3).bind fun bt220 => ((impl_AddSource.f k t217 bt220.1 bt220.2.1 bt220.2.2.1 bt220.2.2.2).bind fun bt224 => ((laws_eqSourceS.f k bt224.1 bt213.1).bind fun t228 => (if t228 = true then (laws_FnExactAddSource.j0 k l0 bt213.1 bt213.2 t217 bt224.1 bt224.2 (bt224.2 != bt213.2) a1_0 a1_1 a1_2 a1_3) else (laws_FnExactAddSource.j0 k l0 bt213.1 bt213.2 t217 bt224.1 bt224.2 true a1_0 a1_1 a1_2 a1_3)))))))) = some r := H
 have A6 := θp A60
 clear A60
 replace H := Option.bind_eq_some_iff.mp H
 obtain ⟨⟨t209, t210, t211, t212⟩, A70, H⟩ := H
 replace H : ((spec_AddSource.f k t206 t209 t210 t211 t212).bind fun bt213 => ((laws_toSourceS.f k l0).bind fun t217 => ((laws_toSource.f a1_0 a1_1 a1_2 a1_3).bind fun bt220 => ((impl_AddSource.f k t217 bt220.1 bt220.2.1 bt220.2.2.1 bt220.2.2.2).bind fun bt224 => ((laws_eqSourceS.f k bt224.1 bt213.1).bind fun t228 => (if t228 = true then (laws_FnExactAddSource.j0 k l0 bt213.1 bt213.2 t217 bt224.1 bt224.2 (bt224.2 != bt213.2) a1_0 a1_1 a1_2 a1_3) else (laws_FnExactAddSource.j0 k l0 bt213.1 bt213.2 t217 bt224.1 bt224.2 true a1_0 a1_1 a1_2 a1_3))))))) = some r := H
 have A7 := θp A70
 clear A70
 replace H := Option.bind_eq_some_iff.mp H
 obtain ⟨⟨t213, t216⟩, A80, H⟩ := H
 replace H : ((laws_toSourceS.f k l0).bind fun t217 => ((laws_toSource.f a1_0 a1_1 a1_2 a1_3).bind fun bt220 => ((impl_AddSource.f k t217 bt220.1 bt220.2.1 bt220.2.2.1 bt220.2.2.2).bind fun bt224 => ((laws_eqSourceS.f k bt224.1 t213).bind fun t228 => (if t228 = true then (laws_FnExactAddSource.j0 k l0 t213 t216 t217 bt224.1 bt224.2 (bt224.2 != t216) a1_0 a1_1 a1_2 a1_3) else (laws_FnExactAddSource.j0 k l0 t213 t216 t217 bt224.1 bt224.2 true a1_0 a1_1 a1_2 a1_3)))))) = some r := H
 have A8 := θp A80
 clear A80
 replace H := Option.bind_eq_some_iff.mp H
 obtain ⟨t217, A90, H⟩ := H
 replace H : ((laws_toSource.f a1_0 a1_1 a1_2 a1_3).bind fun bt220 => ((impl_AddSource.f k t217 bt220.1 bt220.2.1 bt220.2.2.1 bt220.2.2.2).bind fun bt224 => ((laws_eqSourceS.f k bt224.1 t213).bind fun t228 => (if t228 = true then (laws_FnExactAddSource.j0 k l0 t213 t216 t217 bt224.1 bt224.2 (bt224.2 != t216) a1_0 a1_1 a1_2 a1_3) else (laws_FnExactAddSource.j0 k l0 t213 t216 t217 bt224.1 bt224.2 true a1_0 a1_1 a1_2 a1_3))))) = some r := H
 have A9 := θp A90
 clear A90
 replace H := Option.bind_eq_some_iff.mp H
 obtain ⟨⟨t220, t221, t222, t223⟩, A100, H⟩ := H
 replace H : ((impl_AddSource.f k t217 t220 t221 t222 t223).bind fun bt224 => ((laws_eqSourceS.f k bt224.1 t213).bind fun t228 => (if t228 = true then (laws_FnExactAddSource.j0 k l0 t213 t216 t217 bt224.1 bt224.2 (bt224.2 != t216) a1_0 a1_1 a1_2 a1_3) else (laws_FnExactAddSource.j0 k l0 t213 t216 t217 bt224.1 bt224.2 true a1_0 a1_1 a1_2 a1_3)))) = some r := H
 have A10 := θp A100
 clear A100
 replace H := Option.bind_eq_some_iff.mp H
 obtain ⟨⟨t224, t227⟩, A110, H⟩ := H
 replace H : ((laws_eqSourceS.f k t224 t213).bind fun t228 => (if t228 = true then (laws_FnExactAddSource.j0 k l0 t213 t216 t217 t224 t227 (t227 != t216) a1_0 a1_1 a1_2 a1_3) else (laws_FnExactAddSource.j0 k l0 t213 t216 t217 t224 t227 true a1_0 a1_1 a1_2 a1_3))) = some r := H
 have A11 := θp A110
 clear A110
 have HC12 := θp H
 clear H
 go_enter Try.func7, Try.ntmps7
 try go_wp2_with (first | ((with_reducible refine gate_dst (N := 3) rfl ?_); refine box_event ?hg (N := 3) ?hd (cs := #[.int .i64 a1_0, .int .i64 a1_1, .int .i64 a1_2, .bool a1_3]) (t := 34) ?hr ?_; (case hd => rfl); (case hg => rfl); (case hr => first | (go_simp; done) | (go_simp; rfl)); intro gb204 hg w13 hbox hb; have n0_ := θp (below_step (by repeat (first | (with_reducible first | exact HB.out | apply θj | apply θh | apply θi) | exact HB.out)) hb); have n1_ := θp (hbox); have n2_ := θp ((by rw [hg]; exact (below_size (by repeat (first | (with_reducible first | exact HB.out | apply θj | apply θh | apply θi) | exact HB.out))) : w.heap.size ≤ gb204)); have n3_ := θp ((by rw [hg]; exact (below_size (by repeat (first | (with_reducible first | exact HB.out | apply θj | apply θh | apply θi) | exact HB.out))) : w.heap.size ≤ gb204)); clear HB; have HB := n0_; have BK204 := n1_; have GW204 := n2_; have GE204 := n3_; clear n0_ n1_ n2_ n3_; clear hb hbox hg) | ((with_reducible refine gate_callee (f := 15) rfl ?_); refine goesL_ (some 18) rfl rfl Try.func15 (by kernel_rfl) rfl #[.slice A0 l0.length c0, .int .i64 1048576] rfl (by (try simp only [List.map_toArray, List.map_cons, List.map_nil]); first | done | rfl | (simp only [List.length_drop, List.length_take]; rfl)) ?_; (with_reducible refine (laws_szSourceS.calls _ _ l0 1048576 t205 _ ?side1 ?side2 A3.out).mono ?_); (case side1 => repeat (first | exact (Kd.C_below HR0.out HB.out) | (with_reducible refine Kd.C_alloc ?_ _) | (with_reducible refine Kd.C_drewN ?_ _) | (with_reducible refine Kd.C_drew ?_))); (case side2 => exact HC0.out); rintro e w' ⟨rfl, ⟨nd, rfl⟩⟩; refine ⟨_, rfl, ?_⟩))
 (try (rw [drewN_self w13]; generalize hq_ : World.drewN w13 _ = w13; have n0_ : Aside0 (w13.heap[gb204]? = some (.cells #[.int .i64 a1_0, .int .i64 a1_1, .int .i64 a1_2, .bool a1_3] 34 (0, 0))) := ⟨by rw [← hq_]; exact (by (with_reducible repeat (first | refine blk_drewN ?_ _ | refine blk_drew ?_ | refine blk_alloc ?_ _)); exact BK204.out)⟩; have n1_ : Aside0 (Below w.heap.size w w13) := ⟨by rw [← hq_]; exact (by repeat (first | (with_reducible first | exact HB.out | apply θj | apply θh | apply θi | refine θg ?_ GE204.out) | exact HB.out))⟩; clear BK204 HB hq_; have BK204 := n0_; have HB := n1_; clear n0_ n1_))
 have n0_ := θp (blk_drew BK204.out)
 have n1_ := θp (θi HB.out)
 clear BK204
 clear HB
 have BK204 := n0_
 have HB := n1_
 clear n0_ n1_
 refine start_ (n := 10) (S := fun w' => w'.cell? ⟨gb204, 0, none⟩ = some (.int .i64 a1_0) ∧ w'.cell? ⟨gb204, 1, none⟩ = some (.int .i64 a1_1) ∧ w'.cell? ⟨gb204, 2, none⟩ = some (.int .i64 a1_2) ∧ w'.cell? ⟨gb204, 3, none⟩ = some (.bool a1_3)) (ds := []) θ0 (by kernel_rfl) rfl rfl ⟨(θk BK204.out 0).trans rfl, (θk BK204.out 1).trans rfl, (θk BK204.out 2).trans rfl, (θk BK204.out 3).trans rfl⟩ (fun hHeld => ?_); refine with_tabW laws_FnExactAddSource.tab5 laws_FnExactAddSource.bits5 (fun HT_ HW_ => ?_)
 generalize w13.drew = w14 at BK204 HB hHeld ⊢
 refine pure_ (i := 0) (N := some 22) (v := ?_) (a' := ?_) θ1 rfl rfl (any_of HT_.out (by kernel_rfl)) (fun _ _ _ h => h) (Or.inl ⟨by rfl, ?_⟩) ?_ ?_
 rotate_left; · (intro w'; go_simp; with_reducible rfl)
 rotate_left; · (simp only [Act.put, θm, θn, θo, i64_w, i32_w]; rfl)
 refine take_ (i := 2) (N := some 24) (v := ?_) (a' := ?_) θ2 rfl rfl (take_ofW HT_.out HW_.out (by kernel_rfl)) (fun _ _ _ h => h) (Or.inl ⟨by rfl, ?_⟩) hHeld ?_ ?_
 rotate_left
 ·
  rintro w' ⟨s0, s1, s2, s3⟩
  go_simp
  with_reducible rfl
 rotate_left
 ·
  simp only [Act.put, θm, θn, θo, i64_w, i32_w]
  rfl
 refine one_ (i := 1) (N := some 23) θ3 rfl rfl (one_of HT_.out (by kernel_rfl)) (by decide) (fun K hK => ?_)
 refine goes_ Try.func17 (by kernel_rfl) rfl #[.slice A0 l0.length c0] (by rfl) rfl rfl (by (try simp only [List.map_toArray, List.map_cons, List.map_nil]); first | done | rfl | (simp only [List.length_drop, List.length_take]; rfl)) ?_
 with_reducible refine (laws_toSourceS.calls k _ _ l0 t206 _ ?side1 ?side2 A6.out).mono ?_
 (case side1 => repeat (first | exact (Kd.C_below HR0.out HB.out) | (with_reducible refine Kd.C_alloc ?_ _) | (with_reducible refine Kd.C_drewN ?_ _) | (with_reducible refine Kd.C_drew ?_)))
 (case side2 => exact HC0.out)
 rintro e w15 ⟨v207, rfl, ho0, hb⟩
 refine ⟨_, rfl, ?_⟩
 have n0_ := θp (Kd.R_lower ho0 (below_size (by repeat (first | (with_reducible first | exact HB.out | apply θj | apply θh | apply θi | refine θg ?_ GE204.out) | exact HB.out))))
 have n1_ := θp (blk_below (g := gb204) (o := .cells #[.int .i64 a1_0, .int .i64 a1_1, .int .i64 a1_2, .bool a1_3] 34 (0, 0)) (by (with_reducible repeat (first | refine blk_drewN ?_ _ | refine blk_drew ?_ | refine blk_alloc ?_ _)); exact BK204.out) hb)
 have n2_ := θp (below_step (by repeat (first | (with_reducible first | exact HB.out | apply θj | apply θh | apply θi | refine θg ?_ GE204.out) | exact HB.out)) hb)
 clear BK204
 clear HB
 have HO208 := n0_
 have BK204 := n1_
 have HB := n2_
 clear n0_ n1_ n2_
 (try clear hb)
 (try clear hb2)
 (try clear hk)
 (try clear hi)
 (try clear ho0)
 refine hK.out _ _ ⟨(θk BK204.out 0).trans rfl, (θk BK204.out 1).trans rfl, (θk BK204.out 2).trans rfl, (θk BK204.out 3).trans rfl⟩ (fun hHeld => ?_)
 clear hK K
 refine norm_ (a' := ?_) ?_ ?_
 rotate_left
 ·
  show Act.put _ (some 23) _ = _
  simp only [Act.put, θm, θn, θo, i64_w, i32_w]
  rfl
 refine one_ (i := 3) (N := some 25) θ4 rfl rfl (one_of HT_.out (by kernel_rfl)) (by decide) (fun K hK => ?_)
 refine goes_ Try.func27 (by kernel_rfl) rfl #[.agg #[.int .i64 a1_0, .int .i64 a1_1, .int .i64 a1_2, .bool a1_3]] (by rfl) rfl rfl (by (try simp only [List.map_toArray, List.map_cons, List.map_nil]); first | done | rfl | (simp only [List.length_drop, List.length_take]; rfl)) ?_
 with_reducible refine (laws_toSource.calls a1_0 a1_1 a1_2 a1_3 t209 t210 t211 t212 _ A7.out).mono ?_
 rintro e w16 ⟨rfl, hb⟩
 refine ⟨_, rfl, ?_⟩
 have n0_ := θp (θr (by (with_reducible repeat (first | apply θd | apply θe | apply θf)); exact HO208.out) hb)
 have n1_ := θp (blk_below (g := gb204) (o := .cells #[.int .i64 a1_0, .int .i64 a1_1, .int .i64 a1_2, .bool a1_3] 34 (0, 0)) (by (with_reducible repeat (first | refine blk_drewN ?_ _ | refine blk_drew ?_ | refine blk_alloc ?_ _)); exact BK204.out) hb)
 have n2_ := θp (below_step (by repeat (first | (with_reducible first | exact HB.out | apply θj | apply θh | apply θi | refine θg ?_ GE204.out) | exact HB.out)) hb)
 clear HO208
 clear BK204
 clear HB
 have HO208 := n0_
 have BK204 := n1_
 have HB := n2_
 clear n0_ n1_ n2_
 (try clear hb)
 (try clear hb2)
 (try clear hk)
 (try clear hi)
 obtain ⟨Ao17, co17, eo17⟩ := Kd.R_slice HO208.out
 (first | subst eo17 | (injection eo17 with f1_ f2_ f3_; have f4_ := f1_.symm; have f5_ := f3_.symm; clear f1_ f2_ f3_; subst f4_; subst f5_))
 refine hK.out _ _ ⟨(θk BK204.out 0).trans rfl, (θk BK204.out 1).trans rfl, (θk BK204.out 2).trans rfl, (θk BK204.out 3).trans rfl⟩ (fun hHeld => ?_)
 clear hK K
 refine norm_ (a' := ?_) ?_ ?_
 rotate_left
 ·
  show Act.put _ (some 25) _ = _
  simp only [Act.put, θm, θn, θo, i64_w, i32_w]
  rfl
 refine one_ (i := 4) (N := some 26) θ5 rfl rfl (one_of HT_.out (by kernel_rfl)) (by decide) (fun K hK => ?_)
 refine goes_ Try.func26 (by kernel_rfl) rfl #[.slice Ao17 t206.length co17, .agg #[.int .i64 t209, .int .i64 t210, .int .i64 t211, .bool t212]] (by rfl) rfl rfl (by (try simp only [List.map_toArray, List.map_cons, List.map_nil]); first | done | rfl | (simp only [List.length_drop, List.length_take]; rfl)) ?_
 with_reducible refine (spec_AddSource.calls k _ _ t206 t209 t210 t211 t212 t213 t216 _ ?side1 ?side2 A8.out).mono ?_
 (case side1 => repeat (first | exact (Kd.R_reads' HO208.out).2.2 | (with_reducible refine Kd.C_alloc ?_ _) | (with_reducible refine Kd.C_drewN ?_ _) | (with_reducible refine Kd.C_drew ?_)))
 (case side2 => exact (Kd.R_reads' HO208.out).2.1)
 rintro e w18 ⟨v214, rfl, ho0, hb⟩
 refine ⟨_, rfl, ?_⟩
 have n0_ := θp (Kd.R_elder' (by (with_reducible repeat (first | apply θd | apply θe | apply θf)); exact HO208.out) (Kd.R_base ho0) hb)
 have n1_ := θp (Kd.R_lower (Kd.R_new' ho0 (Kd.R_lt (by (with_reducible repeat (first | apply θd | apply θe | apply θf)); exact HO208.out))) (below_size (by repeat (first | (with_reducible first | exact HB.out | apply θj | apply θh | apply θi | refine θg ?_ GE204.out) | exact HB.out))))
 have n2_ := θp (blk_below (g := gb204) (o := .cells #[.int .i64 a1_0, .int .i64 a1_1, .int .i64 a1_2, .bool a1_3] 34 (0, 0)) (by (with_reducible repeat (first | refine blk_drewN ?_ _ | refine blk_drew ?_ | refine blk_alloc ?_ _)); exact BK204.out) hb)
 have n3_ := θp (below_step (by repeat (first | (with_reducible first | exact HB.out | apply θj | apply θh | apply θi | refine θg ?_ GE204.out) | exact HB.out)) hb)
 clear HO208
 clear BK204
 clear HB
 have HO208 := n0_
 have HO215 := n1_
 have BK204 := n2_
 have HB := n3_
 clear n0_ n1_ n2_ n3_
 (try clear hb)
 (try clear hb2)
 (try clear hk)
 (try clear hi)
 (try clear ho0)
 refine hK.out _ _ ⟨(θk BK204.out 0).trans rfl, (θk BK204.out 1).trans rfl, (θk BK204.out 2).trans rfl, (θk BK204.out 3).trans rfl⟩ (fun hHeld => ?_)
 clear hK K
 refine norm_ (a' := ?_) ?_ ?_
 rotate_left
 ·
  show Act.put _ (some 26) _ = _
  simp only [Act.put, θm, θn, θo, i64_w, i32_w]
  rfl
 refine pure_ (i := 5) (N := some 21) (v := ?_) (a' := ?_) θ6 rfl rfl (any_of HT_.out (by kernel_rfl)) (fun _ _ _ h => h) (Or.inl ⟨by rfl, ?_⟩) ?_ ?_
 rotate_left; · (intro w'; go_simp; with_reducible rfl)
 rotate_left; · (simp only [Act.put, θm, θn, θo, i64_w, i32_w]; rfl)
 refine pure_ (i := 6) (N := some 27) (v := ?_) (a' := ?_) θ7 rfl rfl (any_of HT_.out (by kernel_rfl)) (fun _ _ _ h => h) (Or.inl ⟨by rfl, ?_⟩) ?_ ?_
 rotate_left; · (intro w'; go_simp; with_reducible rfl)
 rotate_left; · (simp only [Act.put, θm, θn, θo, i64_w, i32_w]; rfl)
 refine pure_ (i := 7) (N := some 28) (v := ?_) (a' := ?_) θ8 rfl rfl (any_of HT_.out (by kernel_rfl)) (fun _ _ _ h => h) (Or.inl ⟨by rfl, ?_⟩) ?_ ?_
 rotate_left; · (intro w'; go_simp; with_reducible rfl)
 rotate_left; · (simp only [Act.put, θm, θn, θo, i64_w, i32_w]; rfl)
 refine pure_ (i := 8) (N := some 6) (v := ?_) (a' := ?_) θ9 rfl rfl (any_of HT_.out (by kernel_rfl)) (fun _ _ _ h => h) (Or.inl ⟨by rfl, ?_⟩) ?_ ?_
 rotate_left; · (intro w'; go_simp; with_reducible rfl)
 rotate_left; · (simp only [Act.put, θm, θn, θo, i64_w, i32_w]; rfl)
 refine pure_ (i := 9) (N := some 7) (v := ?_) (a' := ?_) θ10 rfl rfl (any_of HT_.out (by kernel_rfl)) (fun _ _ _ h => h) (Or.inl ⟨by rfl, ?_⟩) ?_ ?_
 rotate_left; · (intro w'; go_simp; with_reducible rfl)
 rotate_left; · (simp only [Act.put, θm, θn, θo, i64_w, i32_w]; rfl)
 refine done_ (done_of HT_.out (by kernel_rfl)) ?_
 go_upto_region 8 with (first | ((with_reducible refine gate_callee (f := 17) rfl ?_); refine goesL_ (some 30) rfl rfl Try.func17 (by kernel_rfl) rfl #[.slice A0 l0.length c0] rfl (by (try simp only [List.map_toArray, List.map_cons, List.map_nil]); first | done | rfl | (simp only [List.length_drop, List.length_take]; rfl)) ?_; (with_reducible refine (laws_toSourceS.calls k _ _ l0 t217 _ ?side1 ?side2 A9.out).mono ?_); (case side1 => repeat (first | exact (Kd.C_below HR0.out HB.out) | (with_reducible refine Kd.C_alloc ?_ _) | (with_reducible refine Kd.C_drewN ?_ _) | (with_reducible refine Kd.C_drew ?_))); (case side2 => exact HC0.out); rintro e w19 ⟨v218, rfl, ho0, hb⟩; refine ⟨_, rfl, ?_⟩; have n0_ := θp (Kd.R_elder' (by (with_reducible repeat (first | apply θd | apply θe | apply θf)); exact HO208.out) (Kd.R_base ho0) hb); have n1_ := θp (Kd.R_elder' (by (with_reducible repeat (first | apply θd | apply θe | apply θf)); exact HO215.out) (Kd.R_base ho0) hb); have n2_ := θp (Kd.R_lower (Kd.R_new' (Kd.R_new' ho0 (Kd.R_lt (by (with_reducible repeat (first | apply θd | apply θe | apply θf)); exact HO208.out))) (Kd.R_lt (by (with_reducible repeat (first | apply θd | apply θe | apply θf)); exact HO215.out))) (below_size (by repeat (first | (with_reducible first | exact HB.out | apply θj | apply θh | apply θi | refine θg ?_ GE204.out) | exact HB.out)))); have n3_ := θp (blk_below (g := gb204) (o := .cells #[.int .i64 a1_0, .int .i64 a1_1, .int .i64 a1_2, .bool a1_3] 34 (0, 0)) (by (with_reducible repeat (first | refine blk_drewN ?_ _ | refine blk_drew ?_ | refine blk_alloc ?_ _)); exact BK204.out) hb); have n4_ := θp (below_step (by repeat (first | (with_reducible first | exact HB.out | apply θj | apply θh | apply θi | refine θg ?_ GE204.out) | exact HB.out)) hb); clear HO208; clear HO215; clear BK204; clear HB; have HO208 := n0_; have HO215 := n1_; have HO219 := n2_; have BK204 := n3_; have HB := n4_; clear n0_ n1_ n2_ n3_ n4_; (try clear hb); (try clear hb2); (try clear hk); (try clear hi); (try clear ho0); have hcz20_0 : w19.cell? ⟨gb204, 0, none⟩ = some (.int .i64 a1_0) := (θk BK204.out 0).trans rfl; have hcz20_1 : w19.cell? ⟨gb204, 1, none⟩ = some (.int .i64 a1_1) := (θk BK204.out 1).trans rfl; have hcz20_2 : w19.cell? ⟨gb204, 2, none⟩ = some (.int .i64 a1_2) := (θk BK204.out 2).trans rfl; have hcz20_3 : w19.cell? ⟨gb204, 3, none⟩ = some (.bool a1_3) := (θk BK204.out 3).trans rfl; have hfz20_0 := blk_frozen BK204.out 0; have hfz20_1 := blk_frozen BK204.out 1; have hfz20_2 := blk_frozen BK204.out 2; have hfz20_3 := blk_frozen BK204.out 3) | ((with_reducible refine gate_callee (f := 27) rfl ?_); refine goesL_ (some 34) rfl rfl Try.func27 (by kernel_rfl) rfl #[.agg #[.int .i64 a1_0, .int .i64 a1_1, .int .i64 a1_2, .bool a1_3]] rfl (by (try simp only [List.map_toArray, List.map_cons, List.map_nil]); first | done | rfl | (simp only [List.length_drop, List.length_take]; rfl)) ?_; (with_reducible refine (laws_toSource.calls a1_0 a1_1 a1_2 a1_3 t220 t221 t222 t223 _ A10.out).mono ?_); rintro e w21 ⟨rfl, hb⟩; refine ⟨_, rfl, ?_⟩; have n0_ := θp (θr (by (with_reducible repeat (first | apply θd | apply θe | apply θf)); exact HO208.out) hb); have n1_ := θp (θr (by (with_reducible repeat (first | apply θd | apply θe | apply θf)); exact HO215.out) hb); have n2_ := θp (θr (by (with_reducible repeat (first | apply θd | apply θe | apply θf)); exact HO219.out) hb); have n3_ := θp (blk_below (g := gb204) (o := .cells #[.int .i64 a1_0, .int .i64 a1_1, .int .i64 a1_2, .bool a1_3] 34 (0, 0)) (by (with_reducible repeat (first | refine blk_drewN ?_ _ | refine blk_drew ?_ | refine blk_alloc ?_ _)); exact BK204.out) hb); have n4_ := θp (below_step (by repeat (first | (with_reducible first | exact HB.out | apply θj | apply θh | apply θi | refine θg ?_ GE204.out) | exact HB.out)) hb); clear HO208; clear HO215; clear HO219; clear BK204; clear HB; have HO208 := n0_; have HO215 := n1_; have HO219 := n2_; have BK204 := n3_; have HB := n4_; clear n0_ n1_ n2_ n3_ n4_; (try clear hb); (try clear hb2); (try clear hk); (try clear hi); obtain ⟨Ao22, co22, eo22⟩ := Kd.R_slice HO219.out; subst eo22) | ((with_reducible refine gate_callee (f := 28) rfl ?_); refine goesL_ (some 35) rfl rfl Try.func28 (by kernel_rfl) rfl #[.slice Ao22 t217.length co22, .agg #[.int .i64 t220, .int .i64 t221, .int .i64 t222, .bool t223]] rfl (by (try simp only [List.map_toArray, List.map_cons, List.map_nil]); first | done | rfl | (simp only [List.length_drop, List.length_take]; rfl)) ?_; (with_reducible refine (impl_AddSource.calls k _ _ t217 t220 t221 t222 t223 t224 t227 _ ?side1 ?side2 A11.out).mono ?_); (case side1 => repeat (first | exact (Kd.R_reads' HO219.out).2.2 | (with_reducible refine Kd.C_alloc ?_ _) | (with_reducible refine Kd.C_drewN ?_ _) | (with_reducible refine Kd.C_drew ?_))); (case side2 => exact (Kd.R_reads' HO219.out).2.1); rintro e w23 ⟨v225, rfl, ho0, hb⟩; refine ⟨_, rfl, ?_⟩; have n0_ := θp (Kd.R_elder' (by (with_reducible repeat (first | apply θd | apply θe | apply θf)); exact HO208.out) (Kd.R_base ho0) hb); have n1_ := θp (Kd.R_elder' (by (with_reducible repeat (first | apply θd | apply θe | apply θf)); exact HO215.out) (Kd.R_base ho0) hb); have n2_ := θp (Kd.R_elder' (by (with_reducible repeat (first | apply θd | apply θe | apply θf)); exact HO219.out) (Kd.R_base ho0) hb); have n3_ := θp (Kd.R_lower (Kd.R_new' (Kd.R_new' (Kd.R_new' ho0 (Kd.R_lt (by (with_reducible repeat (first | apply θd | apply θe | apply θf)); exact HO208.out))) (Kd.R_lt (by (with_reducible repeat (first | apply θd | apply θe | apply θf)); exact HO215.out))) (Kd.R_lt (by (with_reducible repeat (first | apply θd | apply θe | apply θf)); exact HO219.out))) (below_size (by repeat (first | (with_reducible first | exact HB.out | apply θj | apply θh | apply θi | refine θg ?_ GE204.out) | exact HB.out)))); have n4_ := θp (blk_below (g := gb204) (o := .cells #[.int .i64 a1_0, .int .i64 a1_1, .int .i64 a1_2, .bool a1_3] 34 (0, 0)) (by (with_reducible repeat (first | refine blk_drewN ?_ _ | refine blk_drew ?_ | refine blk_alloc ?_ _)); exact BK204.out) hb); have n5_ := θp (below_step (by repeat (first | (with_reducible first | exact HB.out | apply θj | apply θh | apply θi | refine θg ?_ GE204.out) | exact HB.out)) hb); clear HO208; clear HO215; clear HO219; clear BK204; clear HB; have HO208 := n0_; have HO215 := n1_; have HO219 := n2_; have HO226 := n3_; have BK204 := n4_; have HB := n5_; clear n0_ n1_ n2_ n3_ n4_ n5_; (try clear hb); (try clear hb2); (try clear hk); (try clear hi); (try clear ho0)))
 (try simp only [Act.put, θm, θn, θo])
 go_cut [46] (fun v46 wc => ∃ (kq : Nat) (x46_11 : Bool), v46 = .bool x46_11 ∧ Aside0 (laws_FnExactAddSource.j0 kq l0 t213 t216 t217 t224 t227 x46_11 a1_0 a1_1 a1_2 a1_3 = some r) ∧ Aside0 (kq ≤ k) ∧ Aside0 (Kd.R k37 37 wc w.heap.size (fun k_ => some k_ ≠ ((.slice Ao22 t217.length co22) : Value).ownBlock ∧ some k_ ≠ (v225 : Value).ownBlock) v214 t213) ∧ Aside0 (Kd.R k37 37 wc w.heap.size (fun k_ => some k_ ≠ (v214 : Value).ownBlock ∧ some k_ ≠ (v225 : Value).ownBlock) (.slice Ao22 t217.length co22) t217) ∧ Aside0 (Kd.R k37 37 wc w.heap.size (fun k_ => some k_ ≠ (v214 : Value).ownBlock ∧ some k_ ≠ ((.slice Ao22 t217.length co22) : Value).ownBlock) v225 t224) ∧ Aside0 (wc.heap[gb204]? = some (.cells #[.int .i64 a1_0, .int .i64 a1_1, .int .i64 a1_2, .bool a1_3] 34 (0, 0))) ∧ Aside0 (Below w.heap.size w wc))
 case first =>
  have H := HC12.out
  clear HC12
  replace H := Option.bind_eq_some_iff.mp H
  obtain ⟨t228, A240, H⟩ := H
  replace H : (if t228 = true then (laws_FnExactAddSource.j0 k l0 t213 t216 t217 t224 t227 (t227 != t216) a1_0 a1_1 a1_2 a1_3) else (laws_FnExactAddSource.j0 k l0 t213 t216 t217 t224 t227 true a1_0 a1_1 a1_2 a1_3)) = some r := H
  have A24 := θp A240
  clear A240
  by_cases c25 : t228 = true
  ·
   subst c25
   have H1 : (laws_FnExactAddSource.j0 k l0 t213 t216 t217 t224 t227 (t227 != t216) a1_0 a1_1 a1_2 a1_3) = some r := by rw [if_pos rfl] at H; exact H
   clear H
   have H := H1
   clear H1
   have H' := θp H
   clear H
   obtain ⟨Ao26, co26, eo26⟩ := Kd.R_slice HO226.out
   subst eo26
   obtain ⟨Ao27, co27, eo27⟩ := Kd.R_slice HO215.out
   subst eo27
   go_wp2_with (first | ((with_reducible refine gate_callee (f := 19) rfl ?_); refine goesL_ (some 40) rfl rfl Try.func19 (by kernel_rfl) rfl #[.slice Ao26 t224.length co26, .slice Ao27 t213.length co27] rfl (by (try simp only [List.map_toArray, List.map_cons, List.map_nil]); first | done | rfl | (simp only [List.length_drop, List.length_take]; rfl)) ?_; (with_reducible refine (laws_eqSourceS.calls k _ _ t224 _ _ t213 true _ ?side1 ?side2 ?side3 ?side4 A24.out).mono ?_); (case side1 => repeat (first | exact (Kd.R_reads' HO226.out).2.2 | (with_reducible refine Kd.C_alloc ?_ _) | (with_reducible refine Kd.C_drewN ?_ _) | (with_reducible refine Kd.C_drew ?_))); (case side2 => exact (Kd.R_reads' HO226.out).2.1); (case side3 => repeat (first | exact (Kd.R_reads' HO215.out).2.2 | (with_reducible refine Kd.C_alloc ?_ _) | (with_reducible refine Kd.C_drewN ?_ _) | (with_reducible refine Kd.C_drew ?_))); (case side4 => exact (Kd.R_reads' HO215.out).2.1); rintro e w28 ⟨rfl, hb⟩; refine ⟨_, rfl, ?_⟩; have n0_ := θp (θr (by (with_reducible repeat (first | apply θd | apply θe | apply θf)); exact HO208.out) hb); have n1_ := θp (θr (by (with_reducible repeat (first | apply θd | apply θe | apply θf)); exact HO215.out) hb); have n2_ := θp (θr (by (with_reducible repeat (first | apply θd | apply θe | apply θf)); exact HO219.out) hb); have n3_ := θp (θr (by (with_reducible repeat (first | apply θd | apply θe | apply θf)); exact HO226.out) hb); have n4_ := θp (blk_below (g := gb204) (o := .cells #[.int .i64 a1_0, .int .i64 a1_1, .int .i64 a1_2, .bool a1_3] 34 (0, 0)) (by (with_reducible repeat (first | refine blk_drewN ?_ _ | refine blk_drew ?_ | refine blk_alloc ?_ _)); exact BK204.out) hb); have n5_ := θp (below_step (by repeat (first | (with_reducible first | exact HB.out | apply θj | apply θh | apply θi | refine θg ?_ GE204.out) | exact HB.out)) hb); clear HO208; clear HO215; clear HO219; clear HO226; clear BK204; clear HB; have HO208 := n0_; have HO215 := n1_; have HO219 := n2_; have HO226 := n3_; have BK204 := n4_; have HB := n5_; clear n0_ n1_ n2_ n3_ n4_ n5_; (try clear hb); (try clear hb2); (try clear hk); (try clear hi)))
   go_meet
   case rel => exact ⟨_, ((t227 != t216)), (by first | rfl | (simp; done) | (simp [*]; done)), H', ⟨by first | omega | exact Nat.le_refl _⟩, ⟨by (with_reducible repeat (first | apply θd | apply θe | apply θf)); exact Kd.R_mono HO215.out (fun _ hk => ⟨hk.1.2, hk.2⟩)⟩, ⟨by (with_reducible repeat (first | apply θd | apply θe | apply θf)); exact Kd.R_mono HO219.out (fun _ hk => ⟨hk.1.2, hk.2⟩)⟩, ⟨by (with_reducible repeat (first | apply θd | apply θe | apply θf)); exact Kd.R_mono HO226.out (fun _ hk => ⟨hk.1.2, hk.2⟩)⟩, ⟨by (with_reducible repeat (first | refine blk_drewN ?_ _ | refine blk_drew ?_ | refine blk_alloc ?_ _)); exact BK204.out⟩, ⟨by repeat (first | (with_reducible first | exact HB.out | apply θj | apply θh | apply θi | refine θg ?_ GE204.out) | exact HB.out)⟩⟩
  replace c25 := Bool.eq_false_iff.mpr c25
  subst c25
  have H1 : (laws_FnExactAddSource.j0 k l0 t213 t216 t217 t224 t227 true a1_0 a1_1 a1_2 a1_3) = some r := by rw [if_neg (show ¬ (false = true) by decide)] at H; exact H
  clear H
  have H := H1
  clear H1
  exact absurd (H.trans (congrArg some hr_)) (fun h_ => laws_FnExactAddSource.j0_no _ _ _ _ _ _ _ _ _ _ _ h_)
 case rest =>
  clear HC12
  try clear c1
  try clear c2
  try clear p2
  try clear c4
  try clear c4b0
  try clear c7
  try clear c15
  try clear c17
  try clear c19
  try clear c25
  try clear c26
  try clear c27
  try clear c28
  try clear hcz20_0
  try clear hcz20_1
  try clear hcz20_2
  try clear hcz20_3
  try clear hfz20_0
  try clear hfz20_1
  try clear hfz20_2
  try clear hfz20_3
  obtain ⟨kq, x46_11, rfl, HA, HJ11, HO_6, HO_8, HO_9, BK204, HB⟩ := hcut
  cases kq with
  | zero => exact absurd HA.out (by simp [laws_FnExactAddSource.j0])
  | succ kj11 =>
   have H := HA.out
   clear HA
   simp only [laws_FnExactAddSource.j0] at H
   by_cases c32 : x46_11 = true
   ·
    subst c32
    have H1 : (some false) = some r := by rw [if_pos rfl] at H; exact H
    clear H
    have H := H1
    clear H1
    exact absurd ((Option.some.inj H).trans hr_) (by decide)
   replace c32 := Bool.eq_false_iff.mpr c32
   subst c32
   have H1 : ((laws_toSourceS.f kj11 l0).bind fun t229 => ((laws_eqSourceS.f kj11 t217 t229).bind fun t232 => (if t232 = true then ((laws_markSourceS.f kj11 t217 1).bind fun bt233 => (if bt233.1 < 0 then (laws_FnExactAddSource.j1 kj11 l0 t213 t216 t224 true a1_0 a1_1 a1_2 a1_3) else ((laws_eqSourceS.f kj11 t224 t213).bind fun t235 => (if t235 = true then (laws_FnExactAddSource.j1 kj11 l0 t213 t216 t224 (t227 != t216) a1_0 a1_1 a1_2 a1_3) else (laws_FnExactAddSource.j1 kj11 l0 t213 t216 t224 true a1_0 a1_1 a1_2 a1_3))))) else (some false)))) = some r := by rw [if_neg (show ¬ (false = true) by decide)] at H; exact H
   clear H
   have H := H1
   clear H1
   replace H := Option.bind_eq_some_iff.mp H
   obtain ⟨t229, A330, H⟩ := H
   replace H : ((laws_eqSourceS.f kj11 t217 t229).bind fun t232 => (if t232 = true then ((laws_markSourceS.f kj11 t217 1).bind fun bt233 => (if bt233.1 < 0 then (laws_FnExactAddSource.j1 kj11 l0 t213 t216 t224 true a1_0 a1_1 a1_2 a1_3) else ((laws_eqSourceS.f kj11 t224 t213).bind fun t235 => (if t235 = true then (laws_FnExactAddSource.j1 kj11 l0 t213 t216 t224 (t227 != t216) a1_0 a1_1 a1_2 a1_3) else (laws_FnExactAddSource.j1 kj11 l0 t213 t216 t224 true a1_0 a1_1 a1_2 a1_3))))) else (some false))) = some r := H
   have A33 := θp A330
   clear A330
   replace H := Option.bind_eq_some_iff.mp H
   obtain ⟨t232, A340, H⟩ := H
   replace H : (if t232 = true then ((laws_markSourceS.f kj11 t217 1).bind fun bt233 => (if bt233.1 < 0 then (laws_FnExactAddSource.j1 kj11 l0 t213 t216 t224 true a1_0 a1_1 a1_2 a1_3) else ((laws_eqSourceS.f kj11 t224 t213).bind fun t235 => (if t235 = true then (laws_FnExactAddSource.j1 kj11 l0 t213 t216 t224 (t227 != t216) a1_0 a1_1 a1_2 a1_3) else (laws_FnExactAddSource.j1 kj11 l0 t213 t216 t224 true a1_0 a1_1 a1_2 a1_3))))) else (some false)) = some r := H
   have A34 := θp A340
   clear A340
   by_cases c35 : t232 = true
   ·
    subst c35
    have H1 : ((laws_markSourceS.f kj11 t217 1).bind fun bt233 => (if bt233.1 < 0 then (laws_FnExactAddSource.j1 kj11 l0 t213 t216 t224 true a1_0 a1_1 a1_2 a1_3) else ((laws_eqSourceS.f kj11 t224 t213).bind fun t235 => (if t235 = true then (laws_FnExactAddSource.j1 kj11 l0 t213 t216 t224 (t227 != t216) a1_0 a1_1 a1_2 a1_3) else (laws_FnExactAddSource.j1 kj11 l0 t213 t216 t224 true a1_0 a1_1 a1_2 a1_3))))) = some r := by rw [if_pos rfl] at H; exact H
    clear H
    have H := H1
    clear H1
    replace H := Option.bind_eq_some_iff.mp H
    obtain ⟨⟨t233, t234⟩, A360, H⟩ := H
    replace H : (if t233 < 0 then (laws_FnExactAddSource.j1 kj11 l0 t213 t216 t224 true a1_0 a1_1 a1_2 a1_3) else ((laws_eqSourceS.f kj11 t224 t213).bind fun t235 => (if t235 = true then (laws_FnExactAddSource.j1 kj11 l0 t213 t216 t224 (t227 != t216) a1_0 a1_1 a1_2 a1_3) else (laws_FnExactAddSource.j1 kj11 l0 t213 t216 t224 true a1_0 a1_1 a1_2 a1_3)))) = some r := H
    have A36 := θp A360
    clear A360
    have HC37 := θp H
    clear H
    go_upto_region 14 with (first | ((with_reducible refine gate_callee (f := 17) rfl ?_); refine goesL_ (some 49) rfl rfl Try.func17 (by kernel_rfl) rfl #[.slice A0 l0.length c0] rfl (by (try simp only [List.map_toArray, List.map_cons, List.map_nil]); first | done | rfl | (simp only [List.length_drop, List.length_take]; rfl)) ?_; (with_reducible refine (laws_toSourceS.calls kj11 _ _ l0 t229 _ ?side1 ?side2 A33.out).mono ?_); (case side1 => repeat (first | exact (Kd.C_below HR0.out HB.out) | (with_reducible refine Kd.C_alloc ?_ _) | (with_reducible refine Kd.C_drewN ?_ _) | (with_reducible refine Kd.C_drew ?_))); (case side2 => exact HC0.out); rintro e w38 ⟨v230, rfl, ho0, hb⟩; refine ⟨_, rfl, ?_⟩; have n0_ := θp (Kd.R_elder' (by (with_reducible repeat (first | apply θd | apply θe | apply θf)); exact HO_6.out) (Kd.R_base ho0) hb); have n1_ := θp (Kd.R_elder' (by (with_reducible repeat (first | apply θd | apply θe | apply θf)); exact HO_8.out) (Kd.R_base ho0) hb); have n2_ := θp (Kd.R_elder' (by (with_reducible repeat (first | apply θd | apply θe | apply θf)); exact HO_9.out) (Kd.R_base ho0) hb); have n3_ := θp (Kd.R_lower (Kd.R_new' (Kd.R_new' (Kd.R_new' ho0 (Kd.R_lt (by (with_reducible repeat (first | apply θd | apply θe | apply θf)); exact HO_6.out))) (Kd.R_lt (by (with_reducible repeat (first | apply θd | apply θe | apply θf)); exact HO_8.out))) (Kd.R_lt (by (with_reducible repeat (first | apply θd | apply θe | apply θf)); exact HO_9.out))) (below_size (by repeat (first | (with_reducible first | exact HB.out | apply θj | apply θh | apply θi | refine θg ?_ GE204.out) | exact HB.out)))); have n4_ := θp (blk_below (g := gb204) (o := .cells #[.int .i64 a1_0, .int .i64 a1_1, .int .i64 a1_2, .bool a1_3] 34 (0, 0)) (by (with_reducible repeat (first | refine blk_drewN ?_ _ | refine blk_drew ?_ | refine blk_alloc ?_ _)); exact BK204.out) hb); have n5_ := θp (below_step (by repeat (first | (with_reducible first | exact HB.out | apply θj | apply θh | apply θi | refine θg ?_ GE204.out) | exact HB.out)) hb); clear HO_6; clear HO_8; clear HO_9; clear BK204; clear HB; have HO_6 := n0_; have HO_8 := n1_; have HO_9 := n2_; have HO231 := n3_; have BK204 := n4_; have HB := n5_; clear n0_ n1_ n2_ n3_ n4_ n5_; (try clear hb); (try clear hb2); (try clear hk); (try clear hi); (try clear ho0); obtain ⟨Ao39, co39, eo39⟩ := Kd.R_slice HO231.out; subst eo39) | ((with_reducible refine gate_callee (f := 19) rfl ?_); refine goesL_ (some 50) rfl rfl Try.func19 (by kernel_rfl) rfl #[.slice Ao22 t217.length co22, .slice Ao39 t229.length co39] rfl (by (try simp only [List.map_toArray, List.map_cons, List.map_nil]); first | done | rfl | (simp only [List.length_drop, List.length_take]; rfl)) ?_; (with_reducible refine (laws_eqSourceS.calls kj11 _ _ t217 _ _ t229 true _ ?side1 ?side2 ?side3 ?side4 A34.out).mono ?_); (case side1 => repeat (first | exact (Kd.R_reads' HO_8.out).2.2 | (with_reducible refine Kd.C_alloc ?_ _) | (with_reducible refine Kd.C_drewN ?_ _) | (with_reducible refine Kd.C_drew ?_))); (case side2 => exact (Kd.R_reads' HO_8.out).2.1); (case side3 => repeat (first | exact (Kd.R_reads' HO231.out).2.2 | (with_reducible refine Kd.C_alloc ?_ _) | (with_reducible refine Kd.C_drewN ?_ _) | (with_reducible refine Kd.C_drew ?_))); (case side4 => exact (Kd.R_reads' HO231.out).2.1); rintro e w40 ⟨rfl, hb⟩; refine ⟨_, rfl, ?_⟩; have n0_ := θp (θr (by (with_reducible repeat (first | apply θd | apply θe | apply θf)); exact HO_6.out) hb); have n1_ := θp (θr (by (with_reducible repeat (first | apply θd | apply θe | apply θf)); exact HO_8.out) hb); have n2_ := θp (θr (by (with_reducible repeat (first | apply θd | apply θe | apply θf)); exact HO_9.out) hb); have n3_ := θp (θr (by (with_reducible repeat (first | apply θd | apply θe | apply θf)); exact HO231.out) hb); have n4_ := θp (blk_below (g := gb204) (o := .cells #[.int .i64 a1_0, .int .i64 a1_1, .int .i64 a1_2, .bool a1_3] 34 (0, 0)) (by (with_reducible repeat (first | refine blk_drewN ?_ _ | refine blk_drew ?_ | refine blk_alloc ?_ _)); exact BK204.out) hb); have n5_ := θp (below_step (by repeat (first | (with_reducible first | exact HB.out | apply θj | apply θh | apply θi | refine θg ?_ GE204.out) | exact HB.out)) hb); clear HO_6; clear HO_8; clear HO_9; clear HO231; clear BK204; clear HB; have HO_6 := n0_; have HO_8 := n1_; have HO_9 := n2_; have HO231 := n3_; have BK204 := n4_; have HB := n5_; clear n0_ n1_ n2_ n3_ n4_ n5_; (try clear hb); (try clear hb2); (try clear hk); (try clear hi)) | ((with_reducible refine gate_callee (f := 29) rfl ?_); refine goesL_ (some 54) rfl rfl Try.func29 (by kernel_rfl) rfl #[.slice Ao22 t217.length co22, .int .i64 1] rfl (by (try simp only [List.map_toArray, List.map_cons, List.map_nil]); first | done | rfl | (simp only [List.length_drop, List.length_take]; rfl)) ?_; (with_reducible refine (laws_markSourceS.calls kj11 (fun k_ => some k_ = (.slice Ao22 t217.length co22 : Value).ownBlock) (.slice Ao22 t217.length co22) t217 1 t233 t234 w _ ?side1 ?side2 A36.out).mono ?_); (case side1 => repeat (first | (with_reducible first | exact HB.out | apply θj | apply θh | apply θi | refine θg ?_ GE204.out) | exact HB.out)); (case side2 => exact Kd.R_tight rfl HO_8.out); rintro e w41 ⟨rfl, hy0, hb, hkp⟩; refine ⟨_, rfl, ?_⟩; have n0_ := θp (Kd.R_mono (ok' := fun k_ => some k_ ≠ (.slice Ao22 t217.length co22 : Value).ownBlock ∧ some k_ ≠ (v225 : Value).ownBlock ∧ some k_ ≠ (.slice Ao39 t229.length co39 : Value).ownBlock) (Kd.R_keptB (HO_6.out) hkp (fun k_ hk_ hs_ => (hk_.1.1) hs_)) (fun k_ hk_ => ⟨hk_.1.1.1, hk_.1.1.2, hk_.1.2⟩)); have n1_ := θp (Kd.R_reok rfl hy0 (fun k_ e_ => HO_8.out.1 k_ e_)); have n2_ := θp (Kd.R_mono (ok' := fun k_ => some k_ ≠ (v214 : Value).ownBlock ∧ some k_ ≠ (.slice Ao22 t217.length co22 : Value).ownBlock ∧ some k_ ≠ (.slice Ao39 t229.length co39 : Value).ownBlock) (Kd.R_keptB (HO_9.out) hkp (fun k_ hk_ hs_ => (hk_.1.2) hs_)) (fun k_ hk_ => ⟨hk_.1.1.1, hk_.1.1.2, hk_.1.2⟩)); have n3_ := θp (blk_kept (by (with_reducible repeat (first | refine blk_drewN ?_ _ | refine blk_drew ?_ | refine blk_alloc ?_ _)); exact BK204.out) hkp (fun hs_ => (fun e_ => (Kd.R_ne HO_8.out BK204.out (by decide)) e_) hs_)); have n4_ := θp (Kd.R_mono (ok' := fun k_ => some k_ ≠ (v214 : Value).ownBlock ∧ some k_ ≠ (.slice Ao22 t217.length co22 : Value).ownBlock ∧ some k_ ≠ (v225 : Value).ownBlock) (Kd.R_keptB (HO231.out) hkp (fun k_ hk_ hs_ => (hk_.1.2) hs_)) (fun k_ hk_ => ⟨hk_.1.1.1.2, hk_.1.1.2, hk_.1.2⟩)); have n5_ := θp (hb); clear HO_6; clear HO_8; clear HO_9; clear BK204; clear HO231; clear HB; have HO_6 := n0_; have HO_8 := n1_; have HO_9 := n2_; have BK204 := n3_; have HO231 := n4_; have HB := n5_; clear n0_ n1_ n2_ n3_ n4_ n5_; (try clear hb); (try clear hkp); (try clear hy0)))
    (try simp only [Act.put, θm, θn, θo])
    go_cut [67] (fun v67 wc => ∃ (kq : Nat) (x67_36 : Bool), v67 = .bool x67_36 ∧ Aside0 (laws_FnExactAddSource.j1 kq l0 t213 t216 t224 x67_36 a1_0 a1_1 a1_2 a1_3 = some r) ∧ Aside0 (kq ≤ kj11) ∧ Aside0 (Kd.R k37 37 wc w.heap.size (fun k_ => some k_ ≠ (v225 : Value).ownBlock) v214 t213) ∧ Aside0 (Kd.R k37 37 wc w.heap.size (fun k_ => some k_ ≠ (v214 : Value).ownBlock) v225 t224) ∧ Aside0 (wc.heap[gb204]? = some (.cells #[.int .i64 a1_0, .int .i64 a1_1, .int .i64 a1_2, .bool a1_3] 34 (0, 0))) ∧ Aside0 (Below w.heap.size w wc))
    case first =>
     have H := HC37.out
     clear HC37
     by_cases c42 : t233 < 0
     ·
      rw [if_pos c42] at H
      have c42b0 : decide (t233 < 0) = true := decide_eq_true c42
      clear c42
      (first | rw [c42b0] | (simp only [i64_w, i32_w]; rw [c42b0]) | skip)
      exact absurd (H.trans (congrArg some hr_)) (fun h_ => laws_FnExactAddSource.j1_no _ _ _ _ _ _ _ _ _ h_)
     rw [if_neg c42] at H
     have c42b0 : decide (t233 < 0) = false := decide_eq_false c42
     clear c42
     (first | rw [c42b0] | (simp only [i64_w, i32_w]; rw [c42b0]) | skip)
     replace H := Option.bind_eq_some_iff.mp H
     obtain ⟨t235, A430, H⟩ := H
     replace H : (if t235 = true then (laws_FnExactAddSource.j1 kj11 l0 t213 t216 t224 (t227 != t216) a1_0 a1_1 a1_2 a1_3) else (laws_FnExactAddSource.j1 kj11 l0 t213 t216 t224 true a1_0 a1_1 a1_2 a1_3)) = some r := H
     have A43 := θp A430
     clear A430
     by_cases c44 : t235 = true
     ·
      subst c44
      have H1 : (laws_FnExactAddSource.j1 kj11 l0 t213 t216 t224 (t227 != t216) a1_0 a1_1 a1_2 a1_3) = some r := by rw [if_pos rfl] at H; exact H
      clear H
      have H := H1
      clear H1
      have H' := θp H
      clear H
      obtain ⟨Ao45, co45, eo45⟩ := Kd.R_slice HO_9.out
      subst eo45
      obtain ⟨Ao46, co46, eo46⟩ := Kd.R_slice HO_6.out
      subst eo46
      go_wp2_with (first | (go_at_call 19; (with_reducible refine (laws_eqSourceS.calls kj11 _ _ t224 _ _ t213 true _ ?side1 ?side2 ?side3 ?side4 A43.out).mono ?_); (case side1 => repeat (first | exact (Kd.R_reads' HO_9.out).2.2 | (with_reducible refine Kd.C_alloc ?_ _) | (with_reducible refine Kd.C_drewN ?_ _) | (with_reducible refine Kd.C_drew ?_))); (case side2 => exact (Kd.R_reads' HO_9.out).2.1); (case side3 => repeat (first | exact (Kd.R_reads' HO_6.out).2.2 | (with_reducible refine Kd.C_alloc ?_ _) | (with_reducible refine Kd.C_drewN ?_ _) | (with_reducible refine Kd.C_drew ?_))); (case side4 => exact (Kd.R_reads' HO_6.out).2.1); rintro e w47 ⟨rfl, hb⟩; have n0_ := θp (θr (by (with_reducible repeat (first | apply θd | apply θe | apply θf)); exact HO_6.out) hb); have n1_ := θp (θr (by (with_reducible repeat (first | apply θd | apply θe | apply θf)); exact HO_8.out) hb); have n2_ := θp (θr (by (with_reducible repeat (first | apply θd | apply θe | apply θf)); exact HO_9.out) hb); have n3_ := θp (θr (by (with_reducible repeat (first | apply θd | apply θe | apply θf)); exact HO231.out) hb); have n4_ := θp (blk_below (g := gb204) (o := .cells #[.int .i64 a1_0, .int .i64 a1_1, .int .i64 a1_2, .bool a1_3] 34 (0, 0)) (by (with_reducible repeat (first | refine blk_drewN ?_ _ | refine blk_drew ?_ | refine blk_alloc ?_ _)); exact BK204.out) hb); have n5_ := θp (below_step (by repeat (first | (with_reducible first | exact HB.out | apply θj | apply θh | apply θi | refine θg ?_ GE204.out) | exact HB.out)) hb); clear HO_6; clear HO_8; clear HO_9; clear HO231; clear BK204; clear HB; have HO_6 := n0_; have HO_8 := n1_; have HO_9 := n2_; have HO231 := n3_; have BK204 := n4_; have HB := n5_; clear n0_ n1_ n2_ n3_ n4_ n5_; (try clear hb); (try clear hb2); (try clear hk); (try clear hi)))
      go_meet
      case rel => exact ⟨_, ((t227 != t216)), (by first | rfl | (simp; done) | (simp [*]; done)), H', ⟨by have := HJ11.out; first | omega | exact Nat.le_refl _⟩, ⟨by (with_reducible repeat (first | apply θd | apply θe | apply θf)); exact Kd.R_mono HO_6.out (fun _ hk => hk.2.1)⟩, ⟨by (with_reducible repeat (first | apply θd | apply θe | apply θf)); exact Kd.R_mono HO_9.out (fun _ hk => hk.1)⟩, ⟨by (with_reducible repeat (first | refine blk_drewN ?_ _ | refine blk_drew ?_ | refine blk_alloc ?_ _)); exact BK204.out⟩, ⟨by repeat (first | (with_reducible first | exact HB.out | apply θj | apply θh | apply θi | refine θg ?_ GE204.out) | exact HB.out)⟩⟩
     replace c44 := Bool.eq_false_iff.mpr c44
     subst c44
     have H1 : (laws_FnExactAddSource.j1 kj11 l0 t213 t216 t224 true a1_0 a1_1 a1_2 a1_3) = some r := by rw [if_neg (show ¬ (false = true) by decide)] at H; exact H
     clear H
     have H := H1
     clear H1
     exact absurd (H.trans (congrArg some hr_)) (fun h_ => laws_FnExactAddSource.j1_no _ _ _ _ _ _ _ _ _ h_)
    case rest =>
     clear HC37
     try clear c1
     try clear c2
     try clear p2
     try clear c3
     try clear c4
     try clear c4b0
     try clear c7
     try clear c15
     try clear c17
     try clear c19
     try clear c25
     try clear c26
     try clear c27
     try clear c28
     try clear c29
     try clear c32
     try clear c35
     try clear c42
     try clear c42b0
     try clear c44
     try clear hcz20_0
     try clear hcz20_1
     try clear hcz20_2
     try clear hcz20_3
     try clear hfz20_0
     try clear hfz20_1
     try clear hfz20_2
     try clear hfz20_3
     try clear p2
     obtain ⟨kq, x67_36, rfl, HA, HJ36, HO_6, HO_9, BK204, HB⟩ := hcut
     cases kq with
     | zero => exact absurd HA.out (by simp [laws_FnExactAddSource.j1])
     | succ kj36 =>
      have H := HA.out
      clear HA
      simp only [laws_FnExactAddSource.j1] at H
      by_cases c51 : x67_36 = true
      ·
       subst c51
       have H1 : (some false) = some r := by rw [if_pos rfl] at H; exact H
       clear H
       have H := H1
       clear H1
       exact absurd ((Option.some.inj H).trans hr_) (by decide)
      replace c51 := Bool.eq_false_iff.mpr c51
      subst c51
      have H1 : ((laws_markSourceS.f kj36 t224 1).bind fun bt236 => ((laws_heldSourceS.f kj36 bt236.2 1).bind fun t238 => (if t238 < 0 then (some false) else (if t238 = bt236.1 then ((laws_toSourceS.f kj36 l0).bind fun t239 => ((laws_toSource.f a1_0 a1_1 a1_2 a1_3).bind fun bt242 => ((impl_AddSource.f kj36 t239 bt242.1 bt242.2.1 bt242.2.2.1 bt242.2.2.2).bind fun bt246 => ((laws_eqSourceS.f kj36 bt246.1 t213).bind fun t250 => (if t250 = true then (laws_FnExactAddSource.j2 kj36 bt236.2 bt236.1 (bt246.2 != t216)) else (laws_FnExactAddSource.j2 kj36 bt236.2 bt236.1 true)))))) else (some false))))) = some r := by rw [if_neg (show ¬ (false = true) by decide)] at H; exact H
      clear H
      have H := H1
      clear H1
      replace H := Option.bind_eq_some_iff.mp H
      obtain ⟨⟨t236, t237⟩, A520, H⟩ := H
      replace H : ((laws_heldSourceS.f kj36 t237 1).bind fun t238 => (if t238 < 0 then (some false) else (if t238 = t236 then ((laws_toSourceS.f kj36 l0).bind fun t239 => ((laws_toSource.f a1_0 a1_1 a1_2 a1_3).bind fun bt242 => ((impl_AddSource.f kj36 t239 bt242.1 bt242.2.1 bt242.2.2.1 bt242.2.2.2).bind fun bt246 => ((laws_eqSourceS.f kj36 bt246.1 t213).bind fun t250 => (if t250 = true then (laws_FnExactAddSource.j2 kj36 t237 t236 (bt246.2 != t216)) else (laws_FnExactAddSource.j2 kj36 t237 t236 true)))))) else (some false)))) = some r := H
      have A52 := θp A520
      clear A520
      replace H := Option.bind_eq_some_iff.mp H
      obtain ⟨t238, A530, H⟩ := H
      replace H : (if t238 < 0 then (some false) else (if t238 = t236 then ((laws_toSourceS.f kj36 l0).bind fun t239 => ((laws_toSource.f a1_0 a1_1 a1_2 a1_3).bind fun bt242 => ((impl_AddSource.f kj36 t239 bt242.1 bt242.2.1 bt242.2.2.1 bt242.2.2.2).bind fun bt246 => ((laws_eqSourceS.f kj36 bt246.1 t213).bind fun t250 => (if t250 = true then (laws_FnExactAddSource.j2 kj36 t237 t236 (bt246.2 != t216)) else (laws_FnExactAddSource.j2 kj36 t237 t236 true)))))) else (some false))) = some r := H
      have A53 := θp A530
      clear A530
      by_cases c54 : t238 < 0
      ·
       rw [if_pos c54] at H
       have c54b0 : decide (t238 < 0) = true := decide_eq_true c54
       clear c54
       exact absurd ((Option.some.inj H).trans hr_) (by decide)
      rw [if_neg c54] at H
      have c54b0 : decide (t238 < 0) = false := decide_eq_false c54
      clear c54
      by_cases c57 : t238 = t236
      ·
       rw [if_pos c57] at H
       have c57b0 : (t238 == t236) = true := beq_iff_eq.mpr c57
       have c57b1 : (t238 != t236) = false := bne_eq_false_iff_eq.mpr c57
       clear c57
       replace H := Option.bind_eq_some_iff.mp H
       obtain ⟨t239, A580, H⟩ := H
       replace H : ((laws_toSource.f a1_0 a1_1 a1_2 a1_3).bind fun bt242 => ((impl_AddSource.f kj36 t239 bt242.1 bt242.2.1 bt242.2.2.1 bt242.2.2.2).bind fun bt246 => ((laws_eqSourceS.f kj36 bt246.1 t213).bind fun t250 => (if t250 = true then (laws_FnExactAddSource.j2 kj36 t237 t236 (bt246.2 != t216)) else (laws_FnExactAddSource.j2 kj36 t237 t236 true))))) = some r := H
       have A58 := θp A580
       clear A580
       replace H := Option.bind_eq_some_iff.mp H
       obtain ⟨⟨t242, t243, t244, t245⟩, A590, H⟩ := H
       replace H : ((impl_AddSource.f kj36 t239 t242 t243 t244 t245).bind fun bt246 => ((laws_eqSourceS.f kj36 bt246.1 t213).bind fun t250 => (if t250 = true then (laws_FnExactAddSource.j2 kj36 t237 t236 (bt246.2 != t216)) else (laws_FnExactAddSource.j2 kj36 t237 t236 true)))) = some r := H
       have A59 := θp A590
       clear A590
       replace H := Option.bind_eq_some_iff.mp H
       obtain ⟨⟨t246, t249⟩, A600, H⟩ := H
       replace H : ((laws_eqSourceS.f kj36 t246 t213).bind fun t250 => (if t250 = true then (laws_FnExactAddSource.j2 kj36 t237 t236 (t249 != t216)) else (laws_FnExactAddSource.j2 kj36 t237 t236 true))) = some r := H
       have A60 := θp A600
       clear A600
       have HC61 := θp H
       clear H
       obtain ⟨Ao62, co62, eo62⟩ := Kd.R_slice HO_9.out
       subst eo62
       try go_wp2_with (first | ((with_reducible refine gate_callee (f := 29) rfl ?_); refine goesL_ (some 70) rfl rfl Try.func29 (by kernel_rfl) rfl #[.slice Ao62 t224.length co62, .int .i64 1] rfl (by (try simp only [List.map_toArray, List.map_cons, List.map_nil]); first | done | rfl | (simp only [List.length_drop, List.length_take]; rfl)) ?_; (with_reducible refine (laws_markSourceS.calls kj36 (fun k_ => some k_ = (.slice Ao62 t224.length co62 : Value).ownBlock) (.slice Ao62 t224.length co62) t224 1 t236 t237 w _ ?side1 ?side2 A52.out).mono ?_); (case side1 => repeat (first | (with_reducible first | exact HB.out | apply θj | apply θh | apply θi | refine θg ?_ GE204.out) | exact HB.out)); (case side2 => exact Kd.R_tight rfl HO_9.out); rintro e w63 ⟨rfl, hy0, hb, hkp⟩; refine ⟨_, rfl, ?_⟩; have n0_ := θp (Kd.R_mono (ok' := fun k_ => some k_ ≠ (.slice Ao62 t224.length co62 : Value).ownBlock) (Kd.R_keptB (HO_6.out) hkp (fun k_ hk_ hs_ => (hk_) hs_)) (fun k_ hk_ => hk_.1)); have n1_ := θp (Kd.R_reok rfl hy0 (fun k_ e_ => HO_9.out.1 k_ e_)); have n2_ := θp (blk_kept (by (with_reducible repeat (first | refine blk_drewN ?_ _ | refine blk_drew ?_ | refine blk_alloc ?_ _)); exact BK204.out) hkp (fun hs_ => (fun e_ => (Kd.R_ne HO_9.out BK204.out (by decide)) e_) hs_)); have n3_ := θp (hb); clear HO_6; clear HO_9; clear BK204; clear HB; have HO_6 := n0_; have HO_9 := n1_; have BK204 := n2_; have HB := n3_; clear n0_ n1_ n2_ n3_; (try clear hb); (try clear hkp); (try clear hy0)) | ((with_reducible refine gate_callee (f := 30) rfl ?_); refine goesL_ (some 73) rfl rfl Try.func30 (by kernel_rfl) rfl #[.slice Ao62 t237.length co62, .int .i64 1] rfl (by (try simp only [List.map_toArray, List.map_cons, List.map_nil]); first | done | (rw [show t237.length = t224.length from (Kd.R_reads' HO_9.out).1.symm] <;> rfl) | rfl | (simp only [List.length_drop, List.length_take]; rfl)) ?_; (with_reducible refine (laws_heldSourceS.calls kj36 _ _ t237 1 t238 _ ?side1 ?side2 A53.out).mono ?_); (case side1 => repeat (first | exact (Kd.R_reads' HO_9.out).2.2 | (with_reducible refine Kd.C_alloc ?_ _) | (with_reducible refine Kd.C_drewN ?_ _) | (with_reducible refine Kd.C_drew ?_))); (case side2 => rw [show t237.length = t224.length from (Kd.R_reads' HO_9.out).1.symm]; exact (Kd.R_reads' HO_9.out).2.1); rintro e w' ⟨rfl, ⟨nd, rfl⟩⟩; refine ⟨_, rfl, ?_⟩))
       (try (rw [drewN_self w63]; generalize hq_ : World.drewN w63 _ = w63; have n0_ : Aside0 (Kd.R k37 37 w63 w.heap.size (fun k_ => some k_ ≠ (.slice Ao62 t224.length co62 : Value).ownBlock) v214 t213) := ⟨by rw [← hq_]; exact (by (with_reducible repeat (first | apply θd | apply θe | apply θf)); exact HO_6.out)⟩; have n1_ : Aside0 (Kd.R k37 37 w63 w.heap.size (fun k_ => some k_ ≠ (v214 : Value).ownBlock) (.slice Ao62 t224.length co62) t237) := ⟨by rw [← hq_]; exact (by (with_reducible repeat (first | apply θd | apply θe | apply θf)); exact HO_9.out)⟩; have n2_ : Aside0 (w63.heap[gb204]? = some (.cells #[.int .i64 a1_0, .int .i64 a1_1, .int .i64 a1_2, .bool a1_3] 34 (0, 0))) := ⟨by rw [← hq_]; exact (by (with_reducible repeat (first | refine blk_drewN ?_ _ | refine blk_drew ?_ | refine blk_alloc ?_ _)); exact BK204.out)⟩; have n3_ : Aside0 (Below w.heap.size w w63) := ⟨by rw [← hq_]; exact (by repeat (first | (with_reducible first | exact HB.out | apply θj | apply θh | apply θi | refine θg ?_ GE204.out) | exact HB.out))⟩; clear HO_6 HO_9 BK204 HB hq_; have HO_6 := n0_; have HO_9 := n1_; have BK204 := n2_; have HB := n3_; clear n0_ n1_ n2_ n3_))
       have n0_ := θp (θf HO_6.out)
       have n1_ := θp (θf HO_9.out)
       have n2_ := θp (blk_drew BK204.out)
       have n3_ := θp (θi HB.out)
       clear HO_6
       clear HO_9
       clear BK204
       clear HB
       have HO_6 := n0_
       have HO_9 := n1_
       have BK204 := n2_
       have HB := n3_
       clear n0_ n1_ n2_ n3_
       refine start_ (n := 10) (S := fun w' => w'.cell? ⟨gb204, 0, none⟩ = some (.int .i64 a1_0) ∧ w'.cell? ⟨gb204, 1, none⟩ = some (.int .i64 a1_1) ∧ w'.cell? ⟨gb204, 2, none⟩ = some (.int .i64 a1_2) ∧ w'.cell? ⟨gb204, 3, none⟩ = some (.bool a1_3)) (ds := []) θ0 (by kernel_rfl) rfl rfl ⟨(θk BK204.out 0).trans rfl, (θk BK204.out 1).trans rfl, (θk BK204.out 2).trans rfl, (θk BK204.out 3).trans rfl⟩ (fun hHeld => ?_); refine with_tabW laws_FnExactAddSource.tab24 laws_FnExactAddSource.bits24 (fun HT_ HW_ => ?_)
       generalize w63.drew = w64 at HO_6 HO_9 BK204 HB hHeld ⊢
       refine pure_ (i := 0) (N := some 80) (v := ?_) (a' := ?_) θ1 rfl rfl (any_of HT_.out (by kernel_rfl)) (fun _ _ _ h => h) (Or.inl ⟨by rfl, ?_⟩) ?_ ?_
       rotate_left; · (intro w'; go_simp; with_reducible rfl)
       rotate_left; · (simp only [Act.put, θm, θn, θo, i64_w, i32_w]; rfl)
       refine take_ (i := 2) (N := some 82) (v := ?_) (a' := ?_) θ2 rfl rfl (take_ofW HT_.out HW_.out (by kernel_rfl)) (fun _ _ _ h => h) (Or.inl ⟨by rfl, ?_⟩) hHeld ?_ ?_
       rotate_left
       ·
        rintro w' ⟨s0, s1, s2, s3⟩
        go_simp
        with_reducible rfl
       rotate_left
       ·
        simp only [Act.put, θm, θn, θo, i64_w, i32_w]
        rfl
       refine one_ (i := 1) (N := some 81) θ3 rfl rfl (one_of HT_.out (by kernel_rfl)) (by decide) (fun K hK => ?_)
       refine goes_ Try.func17 (by kernel_rfl) rfl #[.slice A0 l0.length c0] (by rfl) rfl rfl (by (try simp only [List.map_toArray, List.map_cons, List.map_nil]); first | done | rfl | (simp only [List.length_drop, List.length_take]; rfl)) ?_
       with_reducible refine (laws_toSourceS.calls kj36 _ _ l0 t239 _ ?side1 ?side2 A58.out).mono ?_
       (case side1 => repeat (first | exact (Kd.C_below HR0.out HB.out) | (with_reducible refine Kd.C_alloc ?_ _) | (with_reducible refine Kd.C_drewN ?_ _) | (with_reducible refine Kd.C_drew ?_)))
       (case side2 => exact HC0.out)
       rintro e w65 ⟨v240, rfl, ho0, hb⟩
       refine ⟨_, rfl, ?_⟩
       have n0_ := θp (Kd.R_elder' (by (with_reducible repeat (first | apply θd | apply θe | apply θf)); exact HO_6.out) (Kd.R_base ho0) hb)
       have n1_ := θp (Kd.R_elder' (by (with_reducible repeat (first | apply θd | apply θe | apply θf)); exact HO_9.out) (Kd.R_base ho0) hb)
       have n2_ := θp (Kd.R_lower (Kd.R_new' (Kd.R_new' ho0 (Kd.R_lt (by (with_reducible repeat (first | apply θd | apply θe | apply θf)); exact HO_6.out))) (Kd.R_lt (by (with_reducible repeat (first | apply θd | apply θe | apply θf)); exact HO_9.out))) (below_size (by repeat (first | (with_reducible first | exact HB.out | apply θj | apply θh | apply θi | refine θg ?_ GE204.out) | exact HB.out))))
       have n3_ := θp (blk_below (g := gb204) (o := .cells #[.int .i64 a1_0, .int .i64 a1_1, .int .i64 a1_2, .bool a1_3] 34 (0, 0)) (by (with_reducible repeat (first | refine blk_drewN ?_ _ | refine blk_drew ?_ | refine blk_alloc ?_ _)); exact BK204.out) hb)
       have n4_ := θp (below_step (by repeat (first | (with_reducible first | exact HB.out | apply θj | apply θh | apply θi | refine θg ?_ GE204.out) | exact HB.out)) hb)
       clear HO_6
       clear HO_9
       clear BK204
       clear HB
       have HO_6 := n0_
       have HO_9 := n1_
       have HO241 := n2_
       have BK204 := n3_
       have HB := n4_
       clear n0_ n1_ n2_ n3_ n4_
       (try clear hb)
       (try clear hb2)
       (try clear hk)
       (try clear hi)
       (try clear ho0)
       refine hK.out _ _ ⟨(θk BK204.out 0).trans rfl, (θk BK204.out 1).trans rfl, (θk BK204.out 2).trans rfl, (θk BK204.out 3).trans rfl⟩ (fun hHeld => ?_)
       clear hK K
       refine norm_ (a' := ?_) ?_ ?_
       rotate_left
       ·
        show Act.put _ (some 81) _ = _
        simp only [Act.put, θm, θn, θo, i64_w, i32_w]
        rfl
       refine one_ (i := 3) (N := some 83) θ4 rfl rfl (one_of HT_.out (by kernel_rfl)) (by decide) (fun K hK => ?_)
       refine goes_ Try.func27 (by kernel_rfl) rfl #[.agg #[.int .i64 a1_0, .int .i64 a1_1, .int .i64 a1_2, .bool a1_3]] (by rfl) rfl rfl (by (try simp only [List.map_toArray, List.map_cons, List.map_nil]); first | done | rfl | (simp only [List.length_drop, List.length_take]; rfl)) ?_
       with_reducible refine (laws_toSource.calls a1_0 a1_1 a1_2 a1_3 t242 t243 t244 t245 _ A59.out).mono ?_
       rintro e w66 ⟨rfl, hb⟩
       refine ⟨_, rfl, ?_⟩
       have n0_ := θp (θr (by (with_reducible repeat (first | apply θd | apply θe | apply θf)); exact HO_6.out) hb)
       have n1_ := θp (θr (by (with_reducible repeat (first | apply θd | apply θe | apply θf)); exact HO_9.out) hb)
       have n2_ := θp (θr (by (with_reducible repeat (first | apply θd | apply θe | apply θf)); exact HO241.out) hb)
       have n3_ := θp (blk_below (g := gb204) (o := .cells #[.int .i64 a1_0, .int .i64 a1_1, .int .i64 a1_2, .bool a1_3] 34 (0, 0)) (by (with_reducible repeat (first | refine blk_drewN ?_ _ | refine blk_drew ?_ | refine blk_alloc ?_ _)); exact BK204.out) hb)
       have n4_ := θp (below_step (by repeat (first | (with_reducible first | exact HB.out | apply θj | apply θh | apply θi | refine θg ?_ GE204.out) | exact HB.out)) hb)
       clear HO_6
       clear HO_9
       clear HO241
       clear BK204
       clear HB
       have HO_6 := n0_
       have HO_9 := n1_
       have HO241 := n2_
       have BK204 := n3_
       have HB := n4_
       clear n0_ n1_ n2_ n3_ n4_
       (try clear hb)
       (try clear hb2)
       (try clear hk)
       (try clear hi)
       obtain ⟨Ao67, co67, eo67⟩ := Kd.R_slice HO241.out
       (first | subst eo67 | (injection eo67 with f1_ f2_ f3_; have f4_ := f1_.symm; have f5_ := f3_.symm; clear f1_ f2_ f3_; subst f4_; subst f5_))
       refine hK.out _ _ ⟨(θk BK204.out 0).trans rfl, (θk BK204.out 1).trans rfl, (θk BK204.out 2).trans rfl, (θk BK204.out 3).trans rfl⟩ (fun hHeld => ?_)
       clear hK K
       refine norm_ (a' := ?_) ?_ ?_
       rotate_left
       ·
        show Act.put _ (some 83) _ = _
        simp only [Act.put, θm, θn, θo, i64_w, i32_w]
        rfl
       refine one_ (i := 4) (N := some 84) θ5 rfl rfl (one_of HT_.out (by kernel_rfl)) (by decide) (fun K hK => ?_)
       refine goes_ Try.func28 (by kernel_rfl) rfl #[.slice Ao67 t239.length co67, .agg #[.int .i64 t242, .int .i64 t243, .int .i64 t244, .bool t245]] (by rfl) rfl rfl (by (try simp only [List.map_toArray, List.map_cons, List.map_nil]); first | done | rfl | (simp only [List.length_drop, List.length_take]; rfl)) ?_
       with_reducible refine (impl_AddSource.calls kj36 _ _ t239 t242 t243 t244 t245 t246 t249 _ ?side1 ?side2 A60.out).mono ?_
       (case side1 => repeat (first | exact (Kd.R_reads' HO241.out).2.2 | (with_reducible refine Kd.C_alloc ?_ _) | (with_reducible refine Kd.C_drewN ?_ _) | (with_reducible refine Kd.C_drew ?_)))
       (case side2 => exact (Kd.R_reads' HO241.out).2.1)
       rintro e w68 ⟨v247, rfl, ho0, hb⟩
       refine ⟨_, rfl, ?_⟩
       have n0_ := θp (Kd.R_elder' (by (with_reducible repeat (first | apply θd | apply θe | apply θf)); exact HO_6.out) (Kd.R_base ho0) hb)
       have n1_ := θp (Kd.R_elder' (by (with_reducible repeat (first | apply θd | apply θe | apply θf)); exact HO_9.out) (Kd.R_base ho0) hb)
       have n2_ := θp (Kd.R_elder' (by (with_reducible repeat (first | apply θd | apply θe | apply θf)); exact HO241.out) (Kd.R_base ho0) hb)
       have n3_ := θp (Kd.R_lower (Kd.R_new' (Kd.R_new' (Kd.R_new' ho0 (Kd.R_lt (by (with_reducible repeat (first | apply θd | apply θe | apply θf)); exact HO_6.out))) (Kd.R_lt (by (with_reducible repeat (first | apply θd | apply θe | apply θf)); exact HO_9.out))) (Kd.R_lt (by (with_reducible repeat (first | apply θd | apply θe | apply θf)); exact HO241.out))) (below_size (by repeat (first | (with_reducible first | exact HB.out | apply θj | apply θh | apply θi | refine θg ?_ GE204.out) | exact HB.out))))
       have n4_ := θp (blk_below (g := gb204) (o := .cells #[.int .i64 a1_0, .int .i64 a1_1, .int .i64 a1_2, .bool a1_3] 34 (0, 0)) (by (with_reducible repeat (first | refine blk_drewN ?_ _ | refine blk_drew ?_ | refine blk_alloc ?_ _)); exact BK204.out) hb)
       have n5_ := θp (below_step (by repeat (first | (with_reducible first | exact HB.out | apply θj | apply θh | apply θi | refine θg ?_ GE204.out) | exact HB.out)) hb)
       clear HO_6
       clear HO_9
       clear HO241
       clear BK204
       clear HB
       have HO_6 := n0_
       have HO_9 := n1_
       have HO241 := n2_
       have HO248 := n3_
       have BK204 := n4_
       have HB := n5_
       clear n0_ n1_ n2_ n3_ n4_ n5_
       (try clear hb)
       (try clear hb2)
       (try clear hk)
       (try clear hi)
       (try clear ho0)
       refine hK.out _ _ ⟨(θk BK204.out 0).trans rfl, (θk BK204.out 1).trans rfl, (θk BK204.out 2).trans rfl, (θk BK204.out 3).trans rfl⟩ (fun hHeld => ?_)
       clear hK K
       refine norm_ (a' := ?_) ?_ ?_
       rotate_left
       ·
        show Act.put _ (some 84) _ = _
        simp only [Act.put, θm, θn, θo, i64_w, i32_w]
        rfl
       refine pure_ (i := 5) (N := some 79) (v := ?_) (a' := ?_) θ6 rfl rfl (any_of HT_.out (by kernel_rfl)) (fun _ _ _ h => h) (Or.inl ⟨by rfl, ?_⟩) ?_ ?_
       rotate_left; · (intro w'; go_simp; with_reducible rfl)
       rotate_left; · (simp only [Act.put, θm, θn, θo, i64_w, i32_w]; rfl)
       refine pure_ (i := 6) (N := some 85) (v := ?_) (a' := ?_) θ7 rfl rfl (any_of HT_.out (by kernel_rfl)) (fun _ _ _ h => h) (Or.inl ⟨by rfl, ?_⟩) ?_ ?_
       rotate_left; · (intro w'; go_simp; with_reducible rfl)
       rotate_left; · (simp only [Act.put, θm, θn, θo, i64_w, i32_w]; rfl)
       refine pure_ (i := 7) (N := some 86) (v := ?_) (a' := ?_) θ8 rfl rfl (any_of HT_.out (by kernel_rfl)) (fun _ _ _ h => h) (Or.inl ⟨by rfl, ?_⟩) ?_ ?_
       rotate_left; · (intro w'; go_simp; with_reducible rfl)
       rotate_left; · (simp only [Act.put, θm, θn, θo, i64_w, i32_w]; rfl)
       refine pure_ (i := 8) (N := some 14) (v := ?_) (a' := ?_) θ9 rfl rfl (any_of HT_.out (by kernel_rfl)) (fun _ _ _ h => h) (Or.inl ⟨by rfl, ?_⟩) ?_ ?_
       rotate_left; · (intro w'; go_simp; with_reducible rfl)
       rotate_left; · (simp only [Act.put, θm, θn, θo, i64_w, i32_w]; rfl)
       refine pure_ (i := 9) (N := some 15) (v := ?_) (a' := ?_) θ10 rfl rfl (any_of HT_.out (by kernel_rfl)) (fun _ _ _ h => h) (Or.inl ⟨by rfl, ?_⟩) ?_ ?_
       rotate_left; · (intro w'; go_simp; with_reducible rfl)
       rotate_left; · (simp only [Act.put, θm, θn, θo, i64_w, i32_w]; rfl)
       refine done_ (done_of HT_.out (by kernel_rfl)) ?_
       go_upto_region 25 with (fail)
       go_cut [95] (fun v95 wc => ∃ (kq : Nat) (x95_60 : Bool), v95 = .bool x95_60 ∧ Aside0 (laws_FnExactAddSource.j2 kq t237 t236 x95_60 = some r) ∧ Aside0 (kq ≤ kj36) ∧ Aside0 (Kd.R k37 37 wc w.heap.size (fun _ => True) (.slice Ao62 t224.length co62) t237) ∧ Aside0 (wc.heap[gb204]? = some (.cells #[.int .i64 a1_0, .int .i64 a1_1, .int .i64 a1_2, .bool a1_3] 34 (0, 0))) ∧ Aside0 (Below w.heap.size w wc))
       case first =>
        have H := HC61.out
        clear HC61
        replace H := Option.bind_eq_some_iff.mp H
        obtain ⟨t250, A690, H⟩ := H
        replace H : (if t250 = true then (laws_FnExactAddSource.j2 kj36 t237 t236 (t249 != t216)) else (laws_FnExactAddSource.j2 kj36 t237 t236 true)) = some r := H
        have A69 := θp A690
        clear A690
        by_cases c70 : t250 = true
        ·
         subst c70
         have H1 : (laws_FnExactAddSource.j2 kj36 t237 t236 (t249 != t216)) = some r := by rw [if_pos rfl] at H; exact H
         clear H
         have H := H1
         clear H1
         have H' := θp H
         clear H
         obtain ⟨Ao71, co71, eo71⟩ := Kd.R_slice HO248.out
         subst eo71
         obtain ⟨Ao72, co72, eo72⟩ := Kd.R_slice HO_6.out
         subst eo72
         go_wp2_with (first | ((with_reducible refine gate_callee (f := 19) rfl ?_); refine goesL_ (some 89) rfl rfl Try.func19 (by kernel_rfl) rfl #[.slice Ao71 t246.length co71, .slice Ao72 t213.length co72] rfl (by (try simp only [List.map_toArray, List.map_cons, List.map_nil]); first | done | rfl | (simp only [List.length_drop, List.length_take]; rfl)) ?_; (with_reducible refine (laws_eqSourceS.calls kj36 _ _ t246 _ _ t213 true _ ?side1 ?side2 ?side3 ?side4 A69.out).mono ?_); (case side1 => repeat (first | exact (Kd.R_reads' HO248.out).2.2 | (with_reducible refine Kd.C_alloc ?_ _) | (with_reducible refine Kd.C_drewN ?_ _) | (with_reducible refine Kd.C_drew ?_))); (case side2 => exact (Kd.R_reads' HO248.out).2.1); (case side3 => repeat (first | exact (Kd.R_reads' HO_6.out).2.2 | (with_reducible refine Kd.C_alloc ?_ _) | (with_reducible refine Kd.C_drewN ?_ _) | (with_reducible refine Kd.C_drew ?_))); (case side4 => exact (Kd.R_reads' HO_6.out).2.1); rintro e w73 ⟨rfl, hb⟩; refine ⟨_, rfl, ?_⟩; have n0_ := θp (θr (by (with_reducible repeat (first | apply θd | apply θe | apply θf)); exact HO_6.out) hb); have n1_ := θp (θr (by (with_reducible repeat (first | apply θd | apply θe | apply θf)); exact HO_9.out) hb); have n2_ := θp (θr (by (with_reducible repeat (first | apply θd | apply θe | apply θf)); exact HO241.out) hb); have n3_ := θp (θr (by (with_reducible repeat (first | apply θd | apply θe | apply θf)); exact HO248.out) hb); have n4_ := θp (blk_below (g := gb204) (o := .cells #[.int .i64 a1_0, .int .i64 a1_1, .int .i64 a1_2, .bool a1_3] 34 (0, 0)) (by (with_reducible repeat (first | refine blk_drewN ?_ _ | refine blk_drew ?_ | refine blk_alloc ?_ _)); exact BK204.out) hb); have n5_ := θp (below_step (by repeat (first | (with_reducible first | exact HB.out | apply θj | apply θh | apply θi | refine θg ?_ GE204.out) | exact HB.out)) hb); clear HO_6; clear HO_9; clear HO241; clear HO248; clear BK204; clear HB; have HO_6 := n0_; have HO_9 := n1_; have HO241 := n2_; have HO248 := n3_; have BK204 := n4_; have HB := n5_; clear n0_ n1_ n2_ n3_ n4_ n5_; (try clear hb); (try clear hb2); (try clear hk); (try clear hi)))
         go_meet
         case rel => exact ⟨_, ((t249 != t216)), (by first | rfl | (simp; done) | (simp [*]; done)), H', ⟨by have := HJ11.out; have := HJ36.out; first | omega | exact Nat.le_refl _⟩, ⟨by (with_reducible repeat (first | apply θd | apply θe | apply θf)); exact Kd.R_mono HO_9.out (fun _ hk => trivial)⟩, ⟨by (with_reducible repeat (first | refine blk_drewN ?_ _ | refine blk_drew ?_ | refine blk_alloc ?_ _)); exact BK204.out⟩, ⟨by repeat (first | (with_reducible first | exact HB.out | apply θj | apply θh | apply θi | refine θg ?_ GE204.out) | exact HB.out)⟩⟩
        replace c70 := Bool.eq_false_iff.mpr c70
        subst c70
        have H1 : (laws_FnExactAddSource.j2 kj36 t237 t236 true) = some r := by rw [if_neg (show ¬ (false = true) by decide)] at H; exact H
        clear H
        have H := H1
        clear H1
        exact absurd (H.trans (congrArg some hr_)) (fun h_ => laws_FnExactAddSource.j2_no _ _ _ h_)
       case rest =>
        clear HC61
        try clear c1
        try clear c2
        try clear p2
        try clear c3
        try clear c4
        try clear c4b0
        try clear c5
        try clear c7
        try clear c15
        try clear c17
        try clear c19
        try clear c25
        try clear c26
        try clear c27
        try clear c28
        try clear c29
        try clear c30
        try clear c32
        try clear c35
        try clear c42
        try clear c42b0
        try clear c44
        try clear c51
        try clear c54
        try clear c54b0
        try clear c57
        try clear c57b0
        try clear c57b1
        try clear c70
        try clear hcz20_0
        try clear hcz20_1
        try clear hcz20_2
        try clear hcz20_3
        try clear hfz20_0
        try clear hfz20_1
        try clear hfz20_2
        try clear hfz20_3
        try clear p2
        obtain ⟨kq, x95_60, rfl, HA, HJ60, HO_9, BK204, HB⟩ := hcut
        have hl9_60 := (Kd.R_reads' HO_9.out).1
        rw [hl9_60] at HO_9
        (try simp only [hl9_60])
        (try simp only [hl9_60] at BK204)
        cases kq with
        | zero => exact absurd HA.out (by simp [laws_FnExactAddSource.j2])
        | succ kj60 =>
         have H := HA.out
         clear HA
         simp only [laws_FnExactAddSource.j2] at H
         by_cases c77 : x95_60 = true
         ·
          subst c77
          have H1 : (some false) = some r := by rw [if_pos rfl] at H; exact H
          clear H
          have H := H1
          clear H1
          exact absurd ((Option.some.inj H).trans hr_) (by decide)
         replace c77 := Bool.eq_false_iff.mpr c77
         subst c77
         have H1 : ((laws_heldSourceS.f kj60 t237 1).bind fun t251 => (if t251 < 0 then (some false) else (if t251 = t236 then (some true) else (some false)))) = some r := by rw [if_neg (show ¬ (false = true) by decide)] at H; exact H
         clear H
         have H := H1
         clear H1
         replace H := Option.bind_eq_some_iff.mp H
         obtain ⟨t251, A780, H⟩ := H
         replace H : (if t251 < 0 then (some false) else (if t251 = t236 then (some true) else (some false))) = some r := H
         have A78 := θp A780
         clear A780
         by_cases c79 : t251 < 0
         ·
          rw [if_pos c79] at H
          have c79b0 : decide (t251 < 0) = true := decide_eq_true c79
          clear c79
          exact absurd ((Option.some.inj H).trans hr_) (by decide)
         rw [if_neg c79] at H
         have c79b0 : decide (t251 < 0) = false := decide_eq_false c79
         clear c79
         by_cases c80 : t251 = t236
         ·
          rw [if_pos c80] at H
          have c80b0 : (t251 == t236) = true := beq_iff_eq.mpr c80
          have c80b1 : (t251 != t236) = false := bne_eq_false_iff_eq.mpr c80
          clear c80
          obtain rfl := Option.some.inj H
          go_wp2_with (first | ((with_reducible refine gate_callee (f := 30) rfl ?_); refine goesL_ (some 98) rfl rfl Try.func30 (by kernel_rfl) rfl #[.slice Ao62 t237.length co62, .int .i64 1] rfl (by (try simp only [List.map_toArray, List.map_cons, List.map_nil]); first | done | rfl | (simp only [List.length_drop, List.length_take]; rfl)) ?_; (with_reducible refine (laws_heldSourceS.calls kj60 _ _ t237 1 t251 _ ?side1 ?side2 A78.out).mono ?_); (case side1 => repeat (first | exact (Kd.R_reads' HO_9.out).2.2 | (with_reducible refine Kd.C_alloc ?_ _) | (with_reducible refine Kd.C_drewN ?_ _) | (with_reducible refine Kd.C_drew ?_))); (case side2 => exact (Kd.R_reads' HO_9.out).2.1); rintro e w' ⟨rfl, ⟨nd, rfl⟩⟩; refine ⟨_, rfl, ?_⟩))
          go_ret
          exact ⟨by first | rfl | (simp [errW_none, errW_some] <;> rfl) | (simp [*, errW_none, errW_some] <;> rfl), by repeat (first | (with_reducible first | exact HB.out | apply θj | apply θh | apply θi | refine θg ?_ GE204.out) | exact HB.out)⟩
         rw [if_neg c80] at H
         have c80b0 : (t251 == t236) = false := beq_eq_false_iff_ne.mpr c80
         have c80b1 : (t251 != t236) = true := bne_iff_ne.mpr c80
         exact absurd ((Option.some.inj H).trans hr_) (by decide)
      rw [if_neg c57] at H
      have c57b0 : (t238 == t236) = false := beq_eq_false_iff_ne.mpr c57
      have c57b1 : (t238 != t236) = true := bne_iff_ne.mpr c57
      exact absurd ((Option.some.inj H).trans hr_) (by decide)
   replace c35 := Bool.eq_false_iff.mpr c35
   subst c35
   have H1 : (some false) = some r := by rw [if_neg (show ¬ (false = true) by decide)] at H; exact H
   clear H
   have H := H1
   clear H1
   exact absurd ((Option.some.inj H).trans hr_) (by decide)

end Go.Proofs.Ytfcidjlnokhkjaa.QFnExactAddSource
