-- Laid by this session's own program (wip/myprint.py), the kit's printer its engine; turned by hand where that fell. Lean checks it.
import Derived.Test.YtfdalcklgfdadaaQFnExactUndox0
import Derived.Test.YtfdalcklgfdadaaQFnExactUndox1
import Derived.Test.YtfdalcklgfdadaaQFnExactUndox2
namespace Go.Proofs.Ytfdalcklgfdadaa.QFnExactUndo
open Go.RowKit Go.Proofs.YtfdalcklgfdadaaW.PrintWords Go.Proofs.YtfdalcklgfdadaaW.PrintLast Go.Proofs.YtfdalcklgfdadaaW.PrintMore
attribute [local go_sem] max2_int min2_int max_two min_two max_three min_three max_four min_four   -- for this text's walks alone
set_option linter.unusedVariables false
set_option linter.unusedSimpArgs false

/-! ### laws_FnExactUndo: function 6 -/
mutual
def laws_FnExactUndo.j0 : Nat → List Int → Bool → List Int → Bool → Bool → Int → Int → List Int → Int → Int → List Int → Int → Int → List Int → Int → Int → List Int → Option (Bool)
 | 0, _, _, _, _, _, _, _, _, _, _, _, _, _, _, _, _, _ => none
 | k + 1, x0, x7, x8, x11, x51, x156000, x156001, x156002, x172000, x172001, x172002, x181000, x181001, x181002, x188000, x188001, x188002 => if x51 = true then (some false) else ((laws_toIntS.f k x0).bind fun t189 => ((laws_eqIntS.f k x8 t189).bind fun t192 => (if t192 = true then ((laws_toAmend.f k x156000 x156001 x156002).bind fun bt193 => ((laws_eqAmend.f k x181000 x181001 x181002 bt193.1 bt193.2.1 bt193.2.2).bind fun t198 => (if t198 = true then ((laws_markIntS.f k x8 1).bind fun bt199 => ((laws_markAmend.f k x181000 x181001 x181002 bt199.1).bind fun bt201 => (if bt201.1 < 0 then (laws_FnExactUndo.j1 k x0 x7 true x156000 x156001 x156002 x172000 x172001 x172002 x188000 x188001 x188002) else ((laws_eqAmend.f k x188000 x188001 x188002 x172000 x172001 x172002).bind fun t203 => (if t203 = true then (laws_FnExactUndo.j1 k x0 x7 (x11 != x7) x156000 x156001 x156002 x172000 x172001 x172002 x188000 x188001 x188002) else (laws_FnExactUndo.j1 k x0 x7 true x156000 x156001 x156002 x172000 x172001 x172002 x188000 x188001 x188002)))))) else (some false)))) else (some false))))
def laws_FnExactUndo.j1 : Nat → List Int → Bool → Bool → Int → Int → List Int → Int → Int → List Int → Int → Int → List Int → Option (Bool)
 | 0, _, _, _, _, _, _, _, _, _, _, _, _ => none
 | k + 1, x0, x7, x80, x156000, x156001, x156002, x172000, x172001, x172002, x188000, x188001, x188002 => if x80 = true then (some false) else ((laws_markAmend.f k x188000 x188001 x188002 1).bind fun bt204 => ((laws_heldAmend.f k x188000 x188001 bt204.2 1).bind fun t206 => (if t206 < 0 then (some false) else (if t206 = bt204.1 then ((laws_toIntS.f k x0).bind fun t207 => ((laws_toAmend.f k x156000 x156001 x156002).bind fun bt210 => ((impl_Undo.f t207 bt210.1 bt210.2.1 bt210.2.2).bind fun bt215 => ((laws_eqAmend.f k bt215.1 bt215.2.1 bt215.2.2.1 x172000 x172001 x172002).bind fun t222 => (if t222 = true then (laws_FnExactUndo.j2 k bt204.1 (bt215.2.2.2 != x7) x188000 x188001 bt204.2) else (laws_FnExactUndo.j2 k bt204.1 true x188000 x188001 bt204.2)))))) else (some false)))))
def laws_FnExactUndo.j2 : Nat → Int → Bool → Int → Int → List Int → Option (Bool)
 | 0, _, _, _, _, _ => none
 | k + 1, x13, x108, x188000, x188001, x188002 => if x108 = true then (some false) else ((laws_heldAmend.f k x188000 x188001 x188002 1).bind fun t223 => (if t223 < 0 then (some false) else (if t223 = x13 then (some true) else (some false))))
end
def laws_FnExactUndo.f (k : Nat) (l0 : List Int) (a1_0 : Int) (a1_1 : Int) (l1_2 : List Int) : Option (Bool) := if (l0.length : Int) > 1048576 then (some true) else ((laws_szAmend.f a1_0 a1_1 l1_2 1048576).bind fun t156 => (if t156 < 0 then (some true) else ((laws_toIntS.f k l0).bind fun t157 => ((laws_toAmend.f k a1_0 a1_1 l1_2).bind fun bt160 => ((spec_Undo.f t157 bt160.1 bt160.2.1 bt160.2.2).bind fun bt165 => ((laws_toIntS.f k l0).bind fun t172 => ((laws_toAmend.f k a1_0 a1_1 l1_2).bind fun bt175 => ((impl_Undo.f t172 bt175.1 bt175.2.1 bt175.2.2).bind fun bt181 => ((laws_eqAmend.f k bt181.1 bt181.2.1 bt181.2.2.1 bt165.1 bt165.2.1 bt165.2.2.1).bind fun t188 => (if t188 = true then (laws_FnExactUndo.j0 k l0 bt165.2.2.2 t172 bt181.2.2.2 (bt181.2.2.2 != bt165.2.2.2) a1_0 a1_1 l1_2 bt165.1 bt165.2.1 bt165.2.2.1 bt175.1 bt175.2.1 bt175.2.2 bt181.1 bt181.2.1 bt181.2.2.1) else (laws_FnExactUndo.j0 k l0 bt165.2.2.2 t172 bt181.2.2.2 true a1_0 a1_1 l1_2 bt165.1 bt165.2.1 bt165.2.2.1 bt175.1 bt175.2.1 bt175.2.2 bt181.1 bt181.2.1 bt181.2.2.1)))))))))))
theorem laws_FnExactUndo.mono_l : ∀ k, (∀ y0 y1 y2 y3 y4 y5 y6 y7 y8 y9 y10 y11 y12 y13 y14 y15 y16, LeO (laws_FnExactUndo.j0 k y0 y1 y2 y3 y4 y5 y6 y7 y8 y9 y10 y11 y12 y13 y14 y15 y16) (laws_FnExactUndo.j0 (k + 1) y0 y1 y2 y3 y4 y5 y6 y7 y8 y9 y10 y11 y12 y13 y14 y15 y16)) ∧ (∀ y0 y1 y2 y3 y4 y5 y6 y7 y8 y9 y10 y11, LeO (laws_FnExactUndo.j1 k y0 y1 y2 y3 y4 y5 y6 y7 y8 y9 y10 y11) (laws_FnExactUndo.j1 (k + 1) y0 y1 y2 y3 y4 y5 y6 y7 y8 y9 y10 y11)) ∧ (∀ y0 y1 y2 y3 y4, LeO (laws_FnExactUndo.j2 k y0 y1 y2 y3 y4) (laws_FnExactUndo.j2 (k + 1) y0 y1 y2 y3 y4))
 | 0 => ⟨fun _ _ _ _ _ _ _ _ _ _ _ _ _ _ _ _ _ r h => by simp [laws_FnExactUndo.j0] at h, fun _ _ _ _ _ _ _ _ _ _ _ _ r h => by simp [laws_FnExactUndo.j1] at h, fun _ _ _ _ _ r h => by simp [laws_FnExactUndo.j2] at h⟩
 | k + 1 => by
  obtain ⟨ih0, ih1, ih2⟩ := laws_FnExactUndo.mono_l k
  refine ⟨?_, ?_, ?_⟩
  ·
   intro y0 y1 y2 y3 y4 y5 y6 y7 y8 y9 y10 y11 y12 y13 y14 y15 y16
   unfold laws_FnExactUndo.j0
   repeat' first
   | (with_reducible exact ih0 _ _ _ _ _ _ _ _ _ _ _ _ _ _ _ _ _)
   | (with_reducible exact ih1 _ _ _ _ _ _ _ _ _ _ _ _)
   | (with_reducible exact ih2 _ _ _ _ _)
   | (with_reducible exact laws_eqAmend.mono _ _ _ _ _ _ _)
   | (with_reducible exact laws_eqIntS.mono _ _ _)
   | (with_reducible exact laws_heldAmend.mono _ _ _ _ _)
   | (with_reducible exact laws_markAmend.mono _ _ _ _ _)
   | (with_reducible exact laws_markIntS.mono _ _ _)
   | (with_reducible exact laws_toAmend.mono _ _ _ _)
   | (with_reducible exact laws_toIntS.mono _ _)
   | (with_reducible exact LeO.refl _)
   | (with_reducible exact LeO.none _)
   | (with_reducible refine LeO.ite ?_ ?_)
   | (with_reducible refine LeO.bind ?_ (fun _ => ?_))
   | exact ih0 _ _ _ _ _ _ _ _ _ _ _ _ _ _ _ _ _
   | exact ih1 _ _ _ _ _ _ _ _ _ _ _ _
   | exact ih2 _ _ _ _ _
   | exact laws_eqAmend.mono _ _ _ _ _ _ _
   | exact laws_eqIntS.mono _ _ _
   | exact laws_heldAmend.mono _ _ _ _ _
   | exact laws_markAmend.mono _ _ _ _ _
   | exact laws_markIntS.mono _ _ _
   | exact laws_toAmend.mono _ _ _ _
   | exact laws_toIntS.mono _ _
   | exact LeO.none _
   | refine LeO.ite ?_ ?_
   | refine LeO.bind ?_ (fun _ => ?_)
  ·
   intro y0 y1 y2 y3 y4 y5 y6 y7 y8 y9 y10 y11
   unfold laws_FnExactUndo.j1
   repeat' first
   | (with_reducible exact ih0 _ _ _ _ _ _ _ _ _ _ _ _ _ _ _ _ _)
   | (with_reducible exact ih1 _ _ _ _ _ _ _ _ _ _ _ _)
   | (with_reducible exact ih2 _ _ _ _ _)
   | (with_reducible exact laws_eqAmend.mono _ _ _ _ _ _ _)
   | (with_reducible exact laws_eqIntS.mono _ _ _)
   | (with_reducible exact laws_heldAmend.mono _ _ _ _ _)
   | (with_reducible exact laws_markAmend.mono _ _ _ _ _)
   | (with_reducible exact laws_markIntS.mono _ _ _)
   | (with_reducible exact laws_toAmend.mono _ _ _ _)
   | (with_reducible exact laws_toIntS.mono _ _)
   | (with_reducible exact LeO.refl _)
   | (with_reducible exact LeO.none _)
   | (with_reducible refine LeO.ite ?_ ?_)
   | (with_reducible refine LeO.bind ?_ (fun _ => ?_))
   | exact ih0 _ _ _ _ _ _ _ _ _ _ _ _ _ _ _ _ _
   | exact ih1 _ _ _ _ _ _ _ _ _ _ _ _
   | exact ih2 _ _ _ _ _
   | exact laws_eqAmend.mono _ _ _ _ _ _ _
   | exact laws_eqIntS.mono _ _ _
   | exact laws_heldAmend.mono _ _ _ _ _
   | exact laws_markAmend.mono _ _ _ _ _
   | exact laws_markIntS.mono _ _ _
   | exact laws_toAmend.mono _ _ _ _
   | exact laws_toIntS.mono _ _
   | exact LeO.none _
   | refine LeO.ite ?_ ?_
   | refine LeO.bind ?_ (fun _ => ?_)
  ·
   intro y0 y1 y2 y3 y4
   unfold laws_FnExactUndo.j2
   repeat' first
   | (with_reducible exact ih0 _ _ _ _ _ _ _ _ _ _ _ _ _ _ _ _ _)
   | (with_reducible exact ih1 _ _ _ _ _ _ _ _ _ _ _ _)
   | (with_reducible exact ih2 _ _ _ _ _)
   | (with_reducible exact laws_eqAmend.mono _ _ _ _ _ _ _)
   | (with_reducible exact laws_eqIntS.mono _ _ _)
   | (with_reducible exact laws_heldAmend.mono _ _ _ _ _)
   | (with_reducible exact laws_markAmend.mono _ _ _ _ _)
   | (with_reducible exact laws_markIntS.mono _ _ _)
   | (with_reducible exact laws_toAmend.mono _ _ _ _)
   | (with_reducible exact laws_toIntS.mono _ _)
   | (with_reducible exact LeO.refl _)
   | (with_reducible exact LeO.none _)
   | (with_reducible refine LeO.ite ?_ ?_)
   | (with_reducible refine LeO.bind ?_ (fun _ => ?_))
   | exact ih0 _ _ _ _ _ _ _ _ _ _ _ _ _ _ _ _ _
   | exact ih1 _ _ _ _ _ _ _ _ _ _ _ _
   | exact ih2 _ _ _ _ _
   | exact laws_eqAmend.mono _ _ _ _ _ _ _
   | exact laws_eqIntS.mono _ _ _
   | exact laws_heldAmend.mono _ _ _ _ _
   | exact laws_markAmend.mono _ _ _ _ _
   | exact laws_markIntS.mono _ _ _
   | exact laws_toAmend.mono _ _ _ _
   | exact laws_toIntS.mono _ _
   | exact LeO.none _
   | refine LeO.ite ?_ ?_
   | refine LeO.bind ?_ (fun _ => ?_)
theorem laws_FnExactUndo.mono : ∀ a0 a1 a2 a3 k, LeO (laws_FnExactUndo.f k a0 a1 a2 a3) (laws_FnExactUndo.f (k + 1) a0 a1 a2 a3) := by
 intro a0 a1 a2 a3 k
 obtain ⟨ih0, ih1, ih2⟩ := laws_FnExactUndo.mono_l k
 unfold laws_FnExactUndo.f
 repeat' first
   | (with_reducible exact ih0 _ _ _ _ _ _ _ _ _ _ _ _ _ _ _ _ _)
   | (with_reducible exact ih1 _ _ _ _ _ _ _ _ _ _ _ _)
   | (with_reducible exact ih2 _ _ _ _ _)
   | (with_reducible exact laws_eqAmend.mono _ _ _ _ _ _ _)
   | (with_reducible exact laws_eqIntS.mono _ _ _)
   | (with_reducible exact laws_heldAmend.mono _ _ _ _ _)
   | (with_reducible exact laws_markAmend.mono _ _ _ _ _)
   | (with_reducible exact laws_markIntS.mono _ _ _)
   | (with_reducible exact laws_toAmend.mono _ _ _ _)
   | (with_reducible exact laws_toIntS.mono _ _)
   | (with_reducible exact LeO.refl _)
   | (with_reducible exact LeO.none _)
   | (with_reducible refine LeO.ite ?_ ?_)
   | (with_reducible refine LeO.bind ?_ (fun _ => ?_))
   | exact ih0 _ _ _ _ _ _ _ _ _ _ _ _ _ _ _ _ _
   | exact ih1 _ _ _ _ _ _ _ _ _ _ _ _
   | exact ih2 _ _ _ _ _
   | exact laws_eqAmend.mono _ _ _ _ _ _ _
   | exact laws_eqIntS.mono _ _ _
   | exact laws_heldAmend.mono _ _ _ _ _
   | exact laws_markAmend.mono _ _ _ _ _
   | exact laws_markIntS.mono _ _ _
   | exact laws_toAmend.mono _ _ _ _
   | exact laws_toIntS.mono _ _
   | exact LeO.none _
   | refine LeO.ite ?_ ?_
   | refine LeO.bind ?_ (fun _ => ?_)
def laws_FnExactUndo.T7 : Bool × List (List Nat × List Nat) := (true, [([], []), ([0], [0]), ([], []), ([2, 1], [2]), ([1, 3, 3], [1, 3]), ([4], [4]), ([5], [5]), ([5], [5]), ([], []), ([8, 6, 4, 0, 1, 2, 3, 4, 5, 6, 8], [6, 8]), ([7, 9, 0, 1, 2, 3, 4, 5, 6, 7, 8, 9], [7])])
def laws_FnExactUndo.B7 : List Nat := [0, 1, 0, 7, 15, 31, 63, 63, 0, 383, 1023]
theorem laws_FnExactUndo.tab7 : rtab .any (opsOf Try.f6 7) = laws_FnExactUndo.T7 := by kernel_rfl
theorem laws_FnExactUndo.bits7 : waitsOk laws_FnExactUndo.T7.2 laws_FnExactUndo.B7 = true := by kernel_rfl
def laws_FnExactUndo.T30 : Bool × List (List Nat × List Nat) := (true, [([], []), ([0], [0]), ([], []), ([2, 1], [2]), ([1, 3, 3], [1, 3]), ([4], [4]), ([5], [5]), ([5], [5]), ([], []), ([8, 6, 4, 0, 1, 2, 3, 4, 5, 6, 8], [6, 8]), ([7, 9, 0, 1, 2, 3, 4, 5, 6, 7, 8, 9], [7])])
def laws_FnExactUndo.B30 : List Nat := [0, 1, 0, 7, 15, 31, 63, 63, 0, 383, 1023]
theorem laws_FnExactUndo.tab30 : rtab .any (opsOf Try.f6 30) = laws_FnExactUndo.T30 := by kernel_rfl
theorem laws_FnExactUndo.bits30 : waitsOk laws_FnExactUndo.T30.2 laws_FnExactUndo.B30 = true := by kernel_rfl
theorem laws_FnExactUndo.j0_no : ∀ k a0 a1 a2 a3 a5 a6 a7 a8 a9 a10 a11 a12 a13 a14 a15 a16, laws_FnExactUndo.j0 k a0 a1 a2 a3 true a5 a6 a7 a8 a9 a10 a11 a12 a13 a14 a15 a16 = some true → False := by
 intro k a0 a1 a2 a3 a5 a6 a7 a8 a9 a10 a11 a12 a13 a14 a15 a16
 cases k <;> simp [laws_FnExactUndo.j0]
theorem laws_FnExactUndo.j1_no : ∀ k a0 a1 a3 a4 a5 a6 a7 a8 a9 a10 a11, laws_FnExactUndo.j1 k a0 a1 true a3 a4 a5 a6 a7 a8 a9 a10 a11 = some true → False := by
 intro k a0 a1 a3 a4 a5 a6 a7 a8 a9 a10 a11
 cases k <;> simp [laws_FnExactUndo.j1]
theorem laws_FnExactUndo.j2_no : ∀ k a0 a2 a3 a4, laws_FnExactUndo.j2 k a0 true a2 a3 a4 = some true → False := by
 intro k a0 a2 a3 a4
 cases k <;> simp [laws_FnExactUndo.j2]
set_option linter.defProp false
def b1 := @blk_drewN
def b2 := @blk_alloc
def b3 := @blk_drew
def b4 := @Kd.R_alloc
def b5 := @Kd.R_drewN
def b6 := @Kd.R_drew
def b7 := @below_set
def b8 := @pw_below_drewN
def b9 := @below_drew1
def c1_ := @below_alloc
def c2_ := @blk_cell
def c3_ := @blk_below
def c4_ := @List.setIfInBounds_toArray
def c5_ := @List.set_cons_zero
def c6_ := @List.set_cons_succ
def c7_ := @Aside0.mk
def c8_ := @Kd.R_elder'
def c9_ := @Kd.R_below
def d2_ := @Kd.R_mono
def d4_ := @Nat.ne_of_lt
def d5_ := @Nat.ne_of_gt
set_option maxHeartbeats 8000000 in
set_option maxRecDepth 100000 in
theorem laws_FnExactUndo.calls (k : Nat) (A0 : Option Addr) (c0 : Nat) (l0 : List Int) (a1_0 : Int) (a1_1 : Int) (A1_2 : Option Addr) (c1_2 : Nat) (l1_2 : List Int) (r : Bool) (w : World) (hr0 : Kd.C (Kd.int .i64) w A0 l0.length l0) (hc0 : l0.length ≤ c0) (hr1_2 : Kd.C (Kd.int .i64) w A1_2 l1_2.length l1_2) (hc1_2 : l1_2.length ≤ c1_2) (hr_ : r = true) (h : laws_FnExactUndo.f k l0 a1_0 a1_1 l1_2 = some r) :
  Calls Try.prog 6 #[.slice A0 l0.length c0, .agg #[.int .i64 a1_0, .int .i64 a1_1, .slice A1_2 l1_2.length c1_2]] w fun e w' => e = .returned (.bool r) ∧ Below w.heap.size w w' := by
 have hu24 := Try.underlying24
 have hu28 := Try.underlying28
 have HR0 := c7_ hr0
 have HC0 := c7_ hc0
 clear hr0 hc0
 have HR1_2 := c7_ hr1_2
 have HC1_2 := c7_ hc1_2
 clear hr1_2 hc1_2
 have HB := c7_ (Below.refl w.heap.size w)
 have H : (if (l0.length : Int) > 1048576 then (some true) else ((laws_szAmend.f a1_0 a1_1 l1_2 1048576).bind fun t156 => (if t156 < 0 then (some true) else ((laws_toIntS.f k l0).bind fun t157 => ((laws_toAmend.f k a1_0 a1_1 l1_2).bind fun bt160 => ((spec_Undo.f t157 bt160.1 bt160.2.1 bt160.2.2).bind fun bt165 => ((laws_toIntS.f k l0).bind fun t172 => ((laws_toAmend.f k a1_0 a1_1 l1_2).bind fun bt175 => ((impl_Undo.f t172 bt175.1 bt175.2.1 bt175.2.2).bind fun bt181 => ((laws_eqAmend.f k bt181.1 bt181.2.1 bt181.2.2.1 bt165.1 bt165.2.1 bt165.2.2.1).bind fun t188 => (if t188 = true then (laws_FnExactUndo.j0 k l0 bt165.2.2.2 t172 bt181.2.2.2 (bt181.2.2.2 != bt165.2.2.2) a1_0 a1_1 l1_2 bt165.1 bt165.2.1 bt165.2.2.1 bt175.1 bt175.2.1 bt175.2.2 bt181.1 bt181.2.1 bt181.2.2.1) else (laws_FnExactUndo.j0 k l0 bt165.2.2.2 t172 bt181.2.2.2 true a1_0 a1_1 l1_2 bt165.1 bt165.2.1 bt165.2.2.1 bt175.1 bt175.2.1 bt175.2.2 bt181.1 bt181.2.1 bt181.2.2.1)))))))))))) = some r := h
 clear h
 by_cases c3 : (l0.length : Int) > 1048576
 ·
  rw [if_pos c3] at H
  have c3b0 : decide (1048576 < (l0.length : Int)) = true := decide_eq_true c3
  have c3b1 : decide (1048576 < l0.length) = true := decide_eq_true (by omega)
  clear c3
  obtain rfl := Option.some.inj H
  go_enter Try.func6, Try.ntmps6
  go_wp2_with (first | ((with_reducible refine gate_dst (N := 3) rfl ?_); refine box_event ?hg (N := 3) ?hd (cs := #[.int .i64 a1_0, .int .i64 a1_1, .slice A1_2 l1_2.length c1_2]) (t := 24) ?hr ?_; (case hd => rfl); (case hg => rfl); (case hr => first | (go_simp; done) | (go_simp; rfl)); intro gb155 hg w4 hbox hb; have n0_ := c7_ (below_step (by repeat (first | (with_reducible first | exact HB.out | apply c1_ | apply b8 | apply b9) | exact HB.out)) hb); have n1_ := c7_ (hbox); have n2_ := c7_ ((by rw [hg]; exact (below_size (by repeat (first | (with_reducible first | exact HB.out | apply c1_ | apply b8 | apply b9) | exact HB.out))) : w.heap.size ≤ gb155)); have n3_ := c7_ ((by rw [hg]; exact (below_size (by repeat (first | (with_reducible first | exact HB.out | apply c1_ | apply b8 | apply b9) | exact HB.out))) : w.heap.size ≤ gb155)); clear HB; have HB := n0_; have BK155 := n1_; have GW155 := n2_; have GE155 := n3_; clear n0_ n1_ n2_ n3_; clear hb hbox hg))
  go_ret
  exact ⟨by first | rfl | (simp [errW_none, errW_some] <;> rfl) | (simp [*, errW_none, errW_some] <;> rfl), by repeat (first | (with_reducible first | exact HB.out | apply c1_ | apply b8 | apply b9 | refine b7 ?_ GE155.out) | exact HB.out)⟩
 rw [if_neg c3] at H
 have c3b0 : decide (1048576 < (l0.length : Int)) = false := decide_eq_false c3
 have c3b1 : decide (1048576 < l0.length) = false := decide_eq_false (by omega)
 clear c3
 replace H := Option.bind_eq_some_iff.mp H
 obtain ⟨t156, A50, H⟩ := H
 try dsimp only at H
 have A5 := c7_ A50
 clear A50
 by_cases c6 : t156 < 0
 ·
  rw [if_pos c6] at H
  have c6b0 : decide (t156 < 0) = true := decide_eq_true c6
  clear c6
  obtain rfl := Option.some.inj H
  go_enter Try.func6, Try.ntmps6
  go_wp2_with (first | ((with_reducible refine gate_dst (N := 3) rfl ?_); refine box_event ?hg (N := 3) ?hd (cs := #[.int .i64 a1_0, .int .i64 a1_1, .slice A1_2 l1_2.length c1_2]) (t := 24) ?hr ?_; (case hd => rfl); (case hg => rfl); (case hr => first | (go_simp; done) | (go_simp; rfl)); intro gb155 hg w7 hbox hb; have n0_ := c7_ (below_step (by repeat (first | (with_reducible first | exact HB.out | apply c1_ | apply b8 | apply b9) | exact HB.out)) hb); have n1_ := c7_ (hbox); have n2_ := c7_ ((by rw [hg]; exact (below_size (by repeat (first | (with_reducible first | exact HB.out | apply c1_ | apply b8 | apply b9) | exact HB.out))) : w.heap.size ≤ gb155)); have n3_ := c7_ ((by rw [hg]; exact (below_size (by repeat (first | (with_reducible first | exact HB.out | apply c1_ | apply b8 | apply b9) | exact HB.out))) : w.heap.size ≤ gb155)); clear HB; have HB := n0_; have BK155 := n1_; have GW155 := n2_; have GE155 := n3_; clear n0_ n1_ n2_ n3_; clear hb hbox hg; have hcz8_0 : w7.cell? ⟨gb155, 0, none⟩ = some (.int .i64 a1_0) := (c2_ BK155.out 0).trans rfl; have hcz8_1 : w7.cell? ⟨gb155, 1, none⟩ = some (.int .i64 a1_1) := (c2_ BK155.out 1).trans rfl; have hcz8_2 : w7.cell? ⟨gb155, 2, none⟩ = some (.slice A1_2 l1_2.length c1_2) := (c2_ BK155.out 2).trans rfl; have hfz8_0 := blk_frozen BK155.out 0; have hfz8_1 := blk_frozen BK155.out 1; have hfz8_2 := blk_frozen BK155.out 2) | ((with_reducible refine gate_callee (f := 14) rfl ?_); refine goesL_ (some 22) rfl rfl Try.func14 (by kernel_rfl) rfl #[.agg #[.int .i64 a1_0, .int .i64 a1_1, .slice A1_2 l1_2.length c1_2], .int .i64 1048576] rfl (by (try simp only [List.map_toArray, List.map_cons, List.map_nil]); first | done | rfl | (simp only [List.length_drop, List.length_take]; rfl)) ?_; (with_reducible refine (laws_szAmend.calls a1_0 a1_1 _ _ l1_2 1048576 t156 _ ?side1 ?side2 A5.out).mono ?_); (case side1 => repeat (first | exact (Kd.C_below HR1_2.out HB.out) | (with_reducible refine Kd.C_alloc ?_ _) | (with_reducible refine Kd.C_drewN ?_ _) | (with_reducible refine Kd.C_drew ?_))); (case side2 => exact HC1_2.out); rintro e w9 ⟨rfl, hb⟩; refine ⟨_, rfl, ?_⟩; have n0_ := c7_ (c3_ (g := gb155) (o := .cells #[.int .i64 a1_0, .int .i64 a1_1, .slice A1_2 l1_2.length c1_2] 24 (0, 0)) (by (with_reducible repeat (first | refine b1 ?_ _ | refine b3 ?_ | refine b2 ?_ _)); exact BK155.out) hb); have n1_ := c7_ (below_step (by repeat (first | (with_reducible first | exact HB.out | apply c1_ | apply b8 | apply b9 | refine b7 ?_ GE155.out) | exact HB.out)) hb); clear BK155; clear HB; have BK155 := n0_; have HB := n1_; clear n0_ n1_; (try clear hb); (try clear hb2); (try clear hk); (try clear hi)))
  go_ret
  exact ⟨by first | rfl | (simp [errW_none, errW_some] <;> rfl) | (simp [*, errW_none, errW_some] <;> rfl), by repeat (first | (with_reducible first | exact HB.out | apply c1_ | apply b8 | apply b9 | refine b7 ?_ GE155.out) | exact HB.out)⟩
 rw [if_neg c6] at H
 have c6b0 : decide (t156 < 0) = false := decide_eq_false c6
 clear c6
 replace H := Option.bind_eq_some_iff.mp H
 obtain ⟨t157, A100, H⟩ := H
 try dsimp only at H
 have A10 := c7_ A100
 clear A100
 replace H := Option.bind_eq_some_iff.mp H
 obtain ⟨⟨t160, t161, t162⟩, A110, H⟩ := H
 try dsimp only at H
 have A11 := c7_ A110
 clear A110
 replace H := Option.bind_eq_some_iff.mp H
 obtain ⟨⟨t165, t166, t167, t170⟩, A120, H⟩ := H
 try dsimp only at H
 have A12 := c7_ A120
 clear A120
 replace H := Option.bind_eq_some_iff.mp H
 obtain ⟨t172, A130, H⟩ := H
 try dsimp only at H
 have A13 := c7_ A130
 clear A130
 replace H := Option.bind_eq_some_iff.mp H
 obtain ⟨⟨t175, t176, t177⟩, A140, H⟩ := H
 try dsimp only at H
 have A14 := c7_ A140
 clear A140
 replace H := Option.bind_eq_some_iff.mp H
 obtain ⟨⟨t181, t182, t183, t186⟩, A150, H⟩ := H
 try dsimp only at H
 have A15 := c7_ A150
 clear A150
 have HC16 := c7_ H
 clear H
 go_enter Try.func6, Try.ntmps6
 try go_wp2_with (first | ((with_reducible refine gate_dst (N := 3) rfl ?_); refine box_event ?hg (N := 3) ?hd (cs := #[.int .i64 a1_0, .int .i64 a1_1, .slice A1_2 l1_2.length c1_2]) (t := 24) ?hr ?_; (case hd => rfl); (case hg => rfl); (case hr => first | (go_simp; done) | (go_simp; rfl)); intro gb155 hg w17 hbox hb; have n0_ := c7_ (below_step (by repeat (first | (with_reducible first | exact HB.out | apply c1_ | apply b8 | apply b9) | exact HB.out)) hb); have n1_ := c7_ (hbox); have n2_ := c7_ ((by rw [hg]; exact (below_size (by repeat (first | (with_reducible first | exact HB.out | apply c1_ | apply b8 | apply b9) | exact HB.out))) : w.heap.size ≤ gb155)); have n3_ := c7_ ((by rw [hg]; exact (below_size (by repeat (first | (with_reducible first | exact HB.out | apply c1_ | apply b8 | apply b9) | exact HB.out))) : w.heap.size ≤ gb155)); clear HB; have HB := n0_; have BK155 := n1_; have GW155 := n2_; have GE155 := n3_; clear n0_ n1_ n2_ n3_; clear hb hbox hg; have hcz18_0 : w17.cell? ⟨gb155, 0, none⟩ = some (.int .i64 a1_0) := (c2_ BK155.out 0).trans rfl; have hcz18_1 : w17.cell? ⟨gb155, 1, none⟩ = some (.int .i64 a1_1) := (c2_ BK155.out 1).trans rfl; have hcz18_2 : w17.cell? ⟨gb155, 2, none⟩ = some (.slice A1_2 l1_2.length c1_2) := (c2_ BK155.out 2).trans rfl; have hfz18_0 := blk_frozen BK155.out 0; have hfz18_1 := blk_frozen BK155.out 1; have hfz18_2 := blk_frozen BK155.out 2) | ((with_reducible refine gate_callee (f := 14) rfl ?_); refine goesL_ (some 22) rfl rfl Try.func14 (by kernel_rfl) rfl #[.agg #[.int .i64 a1_0, .int .i64 a1_1, .slice A1_2 l1_2.length c1_2], .int .i64 1048576] rfl (by (try simp only [List.map_toArray, List.map_cons, List.map_nil]); first | done | rfl | (simp only [List.length_drop, List.length_take]; rfl)) ?_; (with_reducible refine (laws_szAmend.calls a1_0 a1_1 _ _ l1_2 1048576 t156 _ ?side1 ?side2 A5.out).mono ?_); (case side1 => repeat (first | exact (Kd.C_below HR1_2.out HB.out) | (with_reducible refine Kd.C_alloc ?_ _) | (with_reducible refine Kd.C_drewN ?_ _) | (with_reducible refine Kd.C_drew ?_))); (case side2 => exact HC1_2.out); rintro e w19 ⟨rfl, hb⟩; refine ⟨_, rfl, ?_⟩; have n0_ := c7_ (c3_ (g := gb155) (o := .cells #[.int .i64 a1_0, .int .i64 a1_1, .slice A1_2 l1_2.length c1_2] 24 (0, 0)) (by (with_reducible repeat (first | refine b1 ?_ _ | refine b3 ?_ | refine b2 ?_ _)); exact BK155.out) hb); have n1_ := c7_ (below_step (by repeat (first | (with_reducible first | exact HB.out | apply c1_ | apply b8 | apply b9 | refine b7 ?_ GE155.out) | exact HB.out)) hb); clear BK155; clear HB; have BK155 := n0_; have HB := n1_; clear n0_ n1_; (try clear hb); (try clear hb2); (try clear hk); (try clear hi)))
 have n0_ := c7_ (b3 BK155.out)
 have n1_ := c7_ (b9 HB.out)
 clear BK155
 clear HB
 have BK155 := n0_
 have HB := n1_
 clear n0_ n1_
 refine start_ (n := 11) (S := fun w' => w'.cell? ⟨gb155, 0, none⟩ = some (.int .i64 a1_0) ∧ w'.cell? ⟨gb155, 1, none⟩ = some (.int .i64 a1_1) ∧ w'.cell? ⟨gb155, 2, none⟩ = some (.slice A1_2 l1_2.length c1_2)) (ds := []) #[false, false, false, false, false, false, false, false, false, false, false] (by kernel_rfl) rfl rfl ⟨(c2_ BK155.out 0).trans rfl, (c2_ BK155.out 1).trans rfl, (c2_ BK155.out 2).trans rfl⟩ (fun hHeld => ?_); refine with_tabW laws_FnExactUndo.tab7 laws_FnExactUndo.bits7 (fun HT_ HW_ => ?_)
 generalize w19.drew = w20 at BK155 HB hHeld ⊢
 refine pure_ (i := 0) (N := some 26) (v := ?_) (a' := ?_) #[true, false, false, false, false, false, false, false, false, false, false] rfl rfl (any_of HT_.out (by kernel_rfl)) (fun _ _ _ h => h) (Or.inl ⟨by rfl, ?_⟩) ?_ ?_
 rotate_left
 ·
  intro w'
  go_simp
  with_reducible rfl
 rotate_left
 ·
  simp only [Act.put, c4_, c5_, c6_, i64_w, i32_w]
  rfl
 refine take_ (i := 2) (N := some 28) (v := ?_) (a' := ?_) #[true, false, true, false, false, false, false, false, false, false, false] rfl rfl (take_ofW HT_.out HW_.out (by kernel_rfl)) (fun _ _ _ h => h) (Or.inl ⟨by rfl, ?_⟩) hHeld ?_ ?_
 rotate_left
 ·
  rintro w' ⟨s0, s1, s2⟩
  go_simp
  with_reducible rfl
 rotate_left
 ·
  simp only [Act.put, c4_, c5_, c6_, i64_w, i32_w]
  rfl
 refine join_ (σ := Value × Value × Value × Nat) 2 #[true, true, true, true, true, true, true, true, true, false, false] (fun s_ => [(27, s_.1), (29, .agg #[.int .i64 t160, .int .i64 t161, s_.2.1]), (30, .tuple #[.agg #[.int .i64 t165, .int .i64 t166, s_.2.2.1], .bool t170]), (6, .pointer (some ⟨s_.2.2.2, 0, none⟩)), (25, .tuple #[.agg #[.int .i64 t165, .int .i64 t166, s_.2.2.1], .bool t170]), (31, .agg #[.int .i64 t165, .int .i64 t166, s_.2.2.1]), (32, .bool t170)]) (fun s_ w' => (w'.cell? ⟨gb155, 0, none⟩ = some (.int .i64 a1_0) ∧ w'.cell? ⟨gb155, 1, none⟩ = some (.int .i64 a1_1) ∧ w'.cell? ⟨gb155, 2, none⟩ = some (.slice A1_2 l1_2.length c1_2)) ∧ (Kd.R (Kd.int .i64) 3 w' w.heap.size (fun k_ => some k_ ≠ (s_.2.1 : Value).ownBlock ∧ some k_ ≠ (s_.2.2.1 : Value).ownBlock) s_.1 t157) ∧ (Kd.R (Kd.int .i64) 3 w' w.heap.size (fun k_ => some k_ ≠ (s_.1 : Value).ownBlock ∧ some k_ ≠ (s_.2.2.1 : Value).ownBlock) s_.2.1 t162) ∧ (Kd.R (Kd.int .i64) 3 w' w.heap.size (fun k_ => some k_ ≠ (s_.1 : Value).ownBlock ∧ some k_ ≠ (s_.2.1 : Value).ownBlock) s_.2.2.1 t167) ∧ (w'.heap[gb155]? = some (.cells #[.int .i64 a1_0, .int .i64 a1_1, .slice A1_2 l1_2.length c1_2] 24 (0, 0))) ∧ (w'.heap[s_.2.2.2]? = some (.cells #[.int .i64 0, .int .i64 0, .slice none 0 0] 28 (0, 0))) ∧ (w.heap.size ≤ s_.2.2.2) ∧ (w.heap.size ≤ s_.2.2.2) ∧ (gb155 ≠ s_.2.2.2) ∧ (s_.2.2.2 ≠ gb155) ∧ (Below w.heap.size w w')) ?_ ?_
 rotate_left
 ·
  intro hCont
  refine two_ (i := 1) (j := 8) (Ni := some 27) (Nj := some 6) #[true, true, true, false, false, false, false, false, false, false, false] #[true, false, true, false, false, false, false, false, true, false, false] rfl rfl rfl rfl (two_of HT_.out (by kernel_rfl)) (by decide) (by decide) (fun K hK => ?_) (fun K hK => ?_)
  ·
   skip
   refine goes_ Try.func16 (by kernel_rfl) rfl #[.slice A0 l0.length c0] (by rfl) rfl rfl (by (try simp only [List.map_toArray, List.map_cons, List.map_nil]); first | done | rfl | (simp only [List.length_drop, List.length_take]; rfl)) ?_
   with_reducible refine (laws_toIntS.calls k _ _ l0 t157 _ ?side1 ?side2 A10.out).mono ?_
   (case side1 => repeat (first | exact (Kd.C_below HR0.out HB.out) | (with_reducible refine Kd.C_alloc ?_ _) | (with_reducible refine Kd.C_drewN ?_ _) | (with_reducible refine Kd.C_drew ?_)))
   (case side2 => exact HC0.out)
   rintro e w21 ⟨v158, rfl, ho0, hb⟩
   refine ⟨_, rfl, ?_⟩
   have n0_ := c7_ (Kd.R_lower ho0 (below_size (by repeat (first | (with_reducible first | exact HB.out | apply c1_ | apply b8 | apply b9 | refine b7 ?_ GE155.out) | exact HB.out))))
   have n1_ := c7_ (c3_ (g := gb155) (o := .cells #[.int .i64 a1_0, .int .i64 a1_1, .slice A1_2 l1_2.length c1_2] 24 (0, 0)) (by (with_reducible repeat (first | refine b1 ?_ _ | refine b3 ?_ | refine b2 ?_ _)); exact BK155.out) hb)
   have n2_ := c7_ (below_step (by repeat (first | (with_reducible first | exact HB.out | apply c1_ | apply b8 | apply b9 | refine b7 ?_ GE155.out) | exact HB.out)) hb)
   clear BK155
   clear HB
   have HO159 := n0_
   have BK155 := n1_
   have HB := n2_
   clear n0_ n1_ n2_
   (try clear hb)
   (try clear hb2)
   (try clear hk)
   (try clear hi)
   (try clear ho0)
   refine hK.out _ _ ⟨(c2_ BK155.out 0).trans rfl, (c2_ BK155.out 1).trans rfl, (c2_ BK155.out 2).trans rfl⟩ (fun hHeld => ?_)
   clear hK K
   refine norm_ (a' := ?_) ?_ ?_
   rotate_left
   ·
    show Act.put _ (some 27) _ = _
    simp only [Act.put, c4_, c5_, c6_, i64_w, i32_w]
    rfl
   refine two_ (i := 3) (j := 8) (Ni := some 29) (Nj := some 6) #[true, true, true, true, false, false, false, false, false, false, false] #[true, true, true, false, false, false, false, false, true, false, false] rfl rfl rfl rfl (two_of HT_.out (by kernel_rfl)) (by decide) (by decide) (fun K hK => ?_) (fun K hK => ?_)
   ·
    skip
    refine goes_ Try.func17 (by kernel_rfl) rfl #[.agg #[.int .i64 a1_0, .int .i64 a1_1, .slice A1_2 l1_2.length c1_2]] (by rfl) rfl rfl (by (try simp only [List.map_toArray, List.map_cons, List.map_nil]); first | done | rfl | (simp only [List.length_drop, List.length_take]; rfl)) ?_
    with_reducible refine (laws_toAmend.calls k a1_0 a1_1 _ _ l1_2 t160 t161 t162 _ ?side1 ?side2 A11.out).mono ?_
    (case side1 => repeat (first | exact (Kd.C_below HR1_2.out HB.out) | (with_reducible refine Kd.C_alloc ?_ _) | (with_reducible refine Kd.C_drewN ?_ _) | (with_reducible refine Kd.C_drew ?_)))
    (case side2 => exact HC1_2.out)
    rintro e w22 ⟨v163, rfl, ho0, hb⟩
    refine ⟨_, rfl, ?_⟩
    have n0_ := c7_ (c8_ (by (with_reducible repeat (first | apply b4 | apply b5 | apply b6)); exact HO159.out) (Kd.R_base ho0) hb)
    have n1_ := c7_ (Kd.R_lower (Kd.R_new' ho0 (Kd.R_lt (by (with_reducible repeat (first | apply b4 | apply b5 | apply b6)); exact HO159.out))) (below_size (by repeat (first | (with_reducible first | exact HB.out | apply c1_ | apply b8 | apply b9 | refine b7 ?_ GE155.out) | exact HB.out))))
    have n2_ := c7_ (c3_ (g := gb155) (o := .cells #[.int .i64 a1_0, .int .i64 a1_1, .slice A1_2 l1_2.length c1_2] 24 (0, 0)) (by (with_reducible repeat (first | refine b1 ?_ _ | refine b3 ?_ | refine b2 ?_ _)); exact BK155.out) hb)
    have n3_ := c7_ (below_step (by repeat (first | (with_reducible first | exact HB.out | apply c1_ | apply b8 | apply b9 | refine b7 ?_ GE155.out) | exact HB.out)) hb)
    clear HO159
    clear BK155
    clear HB
    have HO159 := n0_
    have HO164 := n1_
    have BK155 := n2_
    have HB := n3_
    clear n0_ n1_ n2_ n3_
    (try clear hb)
    (try clear hb2)
    (try clear hk)
    (try clear hi)
    (try clear ho0)
    obtain ⟨Ao23, co23, eo23⟩ := Kd.R_slice HO159.out
    (first | subst eo23 | (injection eo23 with f1_ f2_ f3_; have f4_ := f1_.symm; have f5_ := f3_.symm; clear f1_ f2_ f3_; subst f4_; subst f5_))
    obtain ⟨Ao24, co24, eo24⟩ := Kd.R_slice HO164.out
    (first | subst eo24 | (injection eo24 with f1_ f2_ f3_; have f4_ := f1_.symm; have f5_ := f3_.symm; clear f1_ f2_ f3_; subst f4_; subst f5_))
    refine hK.out _ _ ⟨(c2_ BK155.out 0).trans rfl, (c2_ BK155.out 1).trans rfl, (c2_ BK155.out 2).trans rfl⟩ (fun hHeld => ?_)
    clear hK K
    refine norm_ (a' := ?_) ?_ ?_
    rotate_left
    ·
     show Act.put _ (some 29) _ = _
     simp only [Act.put, c4_, c5_, c6_, i64_w, i32_w]
     rfl
    refine two_ (i := 4) (j := 8) (Ni := some 30) (Nj := some 6) #[true, true, true, true, true, false, false, false, false, false, false] #[true, true, true, true, false, false, false, false, true, false, false] rfl rfl rfl rfl (two_of HT_.out (by kernel_rfl)) (by decide) (by decide) (fun K hK => ?_) (fun K hK => ?_)
    ·
     skip
     refine goes_ Try.func28 (by kernel_rfl) rfl #[.slice Ao23 t157.length co23, .agg #[.int .i64 t160, .int .i64 t161, .slice Ao24 t162.length co24]] (by rfl) rfl rfl (by (try simp only [List.map_toArray, List.map_cons, List.map_nil]); first | done | rfl | (simp only [List.length_drop, List.length_take]; rfl)) ?_
     with_reducible refine (spec_Undo.calls _ _ t157 t160 t161 _ _ t162 t165 t166 t167 t170 _ ?side1 ?side2 ?side3 ?side4 A12.out).mono ?_
     (case side1 => repeat (first | exact (Kd.R_reads' HO159.out).2.2 | (with_reducible refine Kd.C_alloc ?_ _) | (with_reducible refine Kd.C_drewN ?_ _) | (with_reducible refine Kd.C_drew ?_)))
     (case side2 => exact (Kd.R_reads' HO159.out).2.1)
     (case side3 => repeat (first | exact (Kd.R_reads' HO164.out).2.2 | (with_reducible refine Kd.C_alloc ?_ _) | (with_reducible refine Kd.C_drewN ?_ _) | (with_reducible refine Kd.C_drew ?_)))
     (case side4 => exact (Kd.R_reads' HO164.out).2.1)
     rintro e w25 ⟨v168, rfl, ho0, hb⟩
     refine ⟨_, rfl, ?_⟩
     have n0_ := c7_ (c8_ (by (with_reducible repeat (first | apply b4 | apply b5 | apply b6)); exact HO159.out) (Kd.R_base ho0) hb)
     have n1_ := c7_ (c8_ (by (with_reducible repeat (first | apply b4 | apply b5 | apply b6)); exact HO164.out) (Kd.R_base ho0) hb)
     have n2_ := c7_ (Kd.R_lower (Kd.R_new' (Kd.R_new' ho0 (Kd.R_lt (by (with_reducible repeat (first | apply b4 | apply b5 | apply b6)); exact HO159.out))) (Kd.R_lt (by (with_reducible repeat (first | apply b4 | apply b5 | apply b6)); exact HO164.out))) (below_size (by repeat (first | (with_reducible first | exact HB.out | apply c1_ | apply b8 | apply b9 | refine b7 ?_ GE155.out) | exact HB.out))))
     have n3_ := c7_ (c3_ (g := gb155) (o := .cells #[.int .i64 a1_0, .int .i64 a1_1, .slice A1_2 l1_2.length c1_2] 24 (0, 0)) (by (with_reducible repeat (first | refine b1 ?_ _ | refine b3 ?_ | refine b2 ?_ _)); exact BK155.out) hb)
     have n4_ := c7_ (below_step (by repeat (first | (with_reducible first | exact HB.out | apply c1_ | apply b8 | apply b9 | refine b7 ?_ GE155.out) | exact HB.out)) hb)
     clear HO159
     clear HO164
     clear BK155
     clear HB
     have HO159 := n0_
     have HO164 := n1_
     have HO169 := n2_
     have BK155 := n3_
     have HB := n4_
     clear n0_ n1_ n2_ n3_ n4_
     (try clear hb)
     (try clear hb2)
     (try clear hk)
     (try clear hi)
     (try clear ho0)
     refine hK.out _ _ ⟨(c2_ BK155.out 0).trans rfl, (c2_ BK155.out 1).trans rfl, (c2_ BK155.out 2).trans rfl⟩ (fun hHeld => ?_)
     clear hK K
     refine norm_ (a' := ?_) ?_ ?_
     rotate_left
     ·
      show Act.put _ (some 30) _ = _
      simp only [Act.put, c4_, c5_, c6_, i64_w, i32_w]
      rfl
     refine pure_ (i := 5) (N := some 25) (v := ?_) (a' := ?_) #[true, true, true, true, true, true, false, false, false, false, false] rfl rfl (any_of HT_.out (by kernel_rfl)) (fun _ _ _ h => h) (Or.inl ⟨by rfl, ?_⟩) ?_ ?_
     rotate_left
     ·
      intro w'
      go_simp
      with_reducible rfl
     rotate_left
     ·
      simp only [Act.put, c4_, c5_, c6_, i64_w, i32_w]
      rfl
     refine pure_ (i := 6) (N := some 31) (v := ?_) (a' := ?_) #[true, true, true, true, true, true, true, false, false, false, false] rfl rfl (any_of HT_.out (by kernel_rfl)) (fun _ _ _ h => h) (Or.inl ⟨by rfl, ?_⟩) ?_ ?_
     rotate_left
     ·
      intro w'
      go_simp
      with_reducible rfl
     rotate_left
     ·
      simp only [Act.put, c4_, c5_, c6_, i64_w, i32_w]
      rfl
     refine pure_ (i := 7) (N := some 32) (v := ?_) (a' := ?_) #[true, true, true, true, true, true, true, true, false, false, false] rfl rfl (any_of HT_.out (by kernel_rfl)) (fun _ _ _ h => h) (Or.inl ⟨by rfl, ?_⟩) ?_ ?_
     rotate_left
     ·
      intro w'
      go_simp
      with_reducible rfl
     rotate_left
     ·
      simp only [Act.put, c4_, c5_, c6_, i64_w, i32_w]
      rfl
     refine one_ (i := 8) (N := some 6) #[true, true, true, true, true, true, true, true, true, false, false] rfl rfl (one_of HT_.out (by kernel_rfl)) (by decide) (fun K hK => ?_)
     refine box_step ?hg (N := 6) ?hd (cs := #[.int .i64 0, .int .i64 0, .slice none 0 0]) (t := 28) ?hr ?_; (case hd => rfl); (case hg => rfl); (case hr => first | (go_simp; done) | (go_simp; rfl))
     intro gb171 hg w26 hbox hb
     have n0_ := c7_ (c9_ (by (with_reducible repeat (first | apply b4 | apply b5 | apply b6)); exact HO159.out) hb)
     have n1_ := c7_ (c9_ (by (with_reducible repeat (first | apply b4 | apply b5 | apply b6)); exact HO164.out) hb)
     have n2_ := c7_ (c9_ (by (with_reducible repeat (first | apply b4 | apply b5 | apply b6)); exact HO169.out) hb)
     have n3_ := c7_ (c3_ (g := gb155) (o := .cells #[.int .i64 a1_0, .int .i64 a1_1, .slice A1_2 l1_2.length c1_2] 24 (0, 0)) (by (with_reducible repeat (first | refine b1 ?_ _ | refine b3 ?_ | refine b2 ?_ _)); exact BK155.out) hb)
     have n4_ := c7_ (below_step (by repeat (first | (with_reducible first | exact HB.out | apply c1_ | apply b8 | apply b9 | refine b7 ?_ GE155.out) | exact HB.out)) hb)
     have n5_ := c7_ (hbox)
     have n6_ := c7_ ((by rw [hg]; exact (below_size (by repeat (first | (with_reducible first | exact HB.out | apply c1_ | apply b8 | apply b9 | refine b7 ?_ GE155.out) | exact HB.out))) : w.heap.size ≤ gb171))
     have n7_ := c7_ ((by rw [hg]; exact (below_size (by repeat (first | (with_reducible first | exact HB.out | apply c1_ | apply b8 | apply b9 | refine b7 ?_ GE155.out) | exact HB.out))) : w.heap.size ≤ gb171))
     have n8_ := c7_ ((by rw [hg]; exact d4_ (blk_lt (g := gb155) (o := .cells #[.int .i64 a1_0, .int .i64 a1_1, .slice A1_2 l1_2.length c1_2] 24 (0, 0)) (by (with_reducible repeat (first | refine b1 ?_ _ | refine b3 ?_ | refine b2 ?_ _)); exact BK155.out)) : gb155 ≠ gb171))
     have n9_ := c7_ ((by rw [hg]; exact d5_ (blk_lt (g := gb155) (o := .cells #[.int .i64 a1_0, .int .i64 a1_1, .slice A1_2 l1_2.length c1_2] 24 (0, 0)) (by (with_reducible repeat (first | refine b1 ?_ _ | refine b3 ?_ | refine b2 ?_ _)); exact BK155.out)) : gb171 ≠ gb155))
     clear HO159
     clear HO164
     clear HO169
     clear BK155
     clear HB
     have HO159 := n0_
     have HO164 := n1_
     have HO169 := n2_
     have BK155 := n3_
     have HB := n4_
     have BK171 := n5_
     have GW171 := n6_
     have GE171 := n7_
     have NB155_171 := n8_
     have NB171_155 := n9_
     clear n0_ n1_ n2_ n3_ n4_ n5_ n6_ n7_ n8_ n9_
     clear hb hbox hg
     refine hK.out _ _ ⟨(c2_ BK155.out 0).trans rfl, (c2_ BK155.out 1).trans rfl, (c2_ BK155.out 2).trans rfl⟩ (fun hHeld => ?_)
     clear hK K
     refine norm_ (a' := ?_) ?_ ?_
     rotate_left
     ·
      show Act.put _ (some 6) _ = _
      simp only [Act.put, c4_, c5_, c6_, i64_w, i32_w]
      rfl
     exact norm_ (by simp only [putAll, Act.put, c4_, c5_, c6_]) (hCont (.slice Ao23 t157.length co23, .slice Ao24 t162.length co24, v168, gb171) _ ⟨hHeld, (by (with_reducible repeat (first | apply b4 | apply b5 | apply b6)); exact d2_ HO159.out (fun _ hk => ⟨hk.1.2, hk.2⟩)), (by (with_reducible repeat (first | apply b4 | apply b5 | apply b6)); exact d2_ HO164.out (fun _ hk => ⟨hk.1.2, hk.2⟩)), (by (with_reducible repeat (first | apply b4 | apply b5 | apply b6)); exact d2_ HO169.out (fun _ hk => ⟨hk.1.2, hk.2⟩)), (by (with_reducible repeat (first | refine b1 ?_ _ | refine b3 ?_ | refine b2 ?_ _)); exact BK155.out), (by (with_reducible repeat (first | refine b1 ?_ _ | refine b3 ?_ | refine b2 ?_ _)); exact BK171.out), GW171.out, GE171.out, NB155_171.out, NB171_155.out, (by repeat (first | (with_reducible first | exact HB.out | apply c1_ | apply b8 | apply b9 | refine b7 ?_ GE155.out | refine b7 ?_ GE171.out) | exact HB.out))⟩)
    skip
    refine box_step ?hg (N := 6) ?hd (cs := #[.int .i64 0, .int .i64 0, .slice none 0 0]) (t := 28) ?hr ?_; (case hd => rfl); (case hg => rfl); (case hr => first | (go_simp; done) | (go_simp; rfl))
    intro gb171 hg w23 hbox hb
    have n0_ := c7_ (c9_ (by (with_reducible repeat (first | apply b4 | apply b5 | apply b6)); exact HO159.out) hb)
    have n1_ := c7_ (c9_ (by (with_reducible repeat (first | apply b4 | apply b5 | apply b6)); exact HO164.out) hb)
    have n2_ := c7_ (c3_ (g := gb155) (o := .cells #[.int .i64 a1_0, .int .i64 a1_1, .slice A1_2 l1_2.length c1_2] 24 (0, 0)) (by (with_reducible repeat (first | refine b1 ?_ _ | refine b3 ?_ | refine b2 ?_ _)); exact BK155.out) hb)
    have n3_ := c7_ (below_step (by repeat (first | (with_reducible first | exact HB.out | apply c1_ | apply b8 | apply b9 | refine b7 ?_ GE155.out) | exact HB.out)) hb)
    have n4_ := c7_ (hbox)
    have n5_ := c7_ ((by rw [hg]; exact (below_size (by repeat (first | (with_reducible first | exact HB.out | apply c1_ | apply b8 | apply b9 | refine b7 ?_ GE155.out) | exact HB.out))) : w.heap.size ≤ gb171))
    have n6_ := c7_ ((by rw [hg]; exact (below_size (by repeat (first | (with_reducible first | exact HB.out | apply c1_ | apply b8 | apply b9 | refine b7 ?_ GE155.out) | exact HB.out))) : w.heap.size ≤ gb171))
    have n7_ := c7_ ((by rw [hg]; exact d4_ (blk_lt (g := gb155) (o := .cells #[.int .i64 a1_0, .int .i64 a1_1, .slice A1_2 l1_2.length c1_2] 24 (0, 0)) (by (with_reducible repeat (first | refine b1 ?_ _ | refine b3 ?_ | refine b2 ?_ _)); exact BK155.out)) : gb155 ≠ gb171))
    have n8_ := c7_ ((by rw [hg]; exact d5_ (blk_lt (g := gb155) (o := .cells #[.int .i64 a1_0, .int .i64 a1_1, .slice A1_2 l1_2.length c1_2] 24 (0, 0)) (by (with_reducible repeat (first | refine b1 ?_ _ | refine b3 ?_ | refine b2 ?_ _)); exact BK155.out)) : gb171 ≠ gb155))
    clear HO159
    clear HO164
    clear BK155
    clear HB
    have HO159 := n0_
    have HO164 := n1_
    have BK155 := n2_
    have HB := n3_
    have BK171 := n4_
    have GW171 := n5_
    have GE171 := n6_
    have NB155_171 := n7_
    have NB171_155 := n8_
    clear n0_ n1_ n2_ n3_ n4_ n5_ n6_ n7_ n8_
    clear hb hbox hg
    obtain ⟨Ao24, co24, eo24⟩ := Kd.R_slice HO159.out
    (first | subst eo24 | (injection eo24 with f1_ f2_ f3_; have f4_ := f1_.symm; have f5_ := f3_.symm; clear f1_ f2_ f3_; subst f4_; subst f5_))
    obtain ⟨Ao25, co25, eo25⟩ := Kd.R_slice HO164.out
    (first | subst eo25 | (injection eo25 with f1_ f2_ f3_; have f4_ := f1_.symm; have f5_ := f3_.symm; clear f1_ f2_ f3_; subst f4_; subst f5_))
    refine hK.out _ _ ⟨(c2_ BK155.out 0).trans rfl, (c2_ BK155.out 1).trans rfl, (c2_ BK155.out 2).trans rfl⟩ (fun hHeld => ?_)
    clear hK K
    refine norm_ (a' := ?_) ?_ ?_
    rotate_left
    ·
     show Act.put _ (some 6) _ = _
     simp only [Act.put, c4_, c5_, c6_, i64_w, i32_w]
     rfl
    refine one_ (i := 4) (N := some 30) #[true, true, true, true, true, false, false, false, true, false, false] rfl rfl (one_of HT_.out (by kernel_rfl)) (by decide) (fun K hK => ?_)
    refine goes_ Try.func28 (by kernel_rfl) rfl #[.slice Ao24 t157.length co24, .agg #[.int .i64 t160, .int .i64 t161, .slice Ao25 t162.length co25]] (by rfl) rfl rfl (by (try simp only [List.map_toArray, List.map_cons, List.map_nil]); first | done | rfl | (simp only [List.length_drop, List.length_take]; rfl)) ?_
    with_reducible refine (spec_Undo.calls _ _ t157 t160 t161 _ _ t162 t165 t166 t167 t170 _ ?side1 ?side2 ?side3 ?side4 A12.out).mono ?_
    (case side1 => repeat (first | exact (Kd.R_reads' HO159.out).2.2 | (with_reducible refine Kd.C_alloc ?_ _) | (with_reducible refine Kd.C_drewN ?_ _) | (with_reducible refine Kd.C_drew ?_)))
    (case side2 => exact (Kd.R_reads' HO159.out).2.1)
    (case side3 => repeat (first | exact (Kd.R_reads' HO164.out).2.2 | (with_reducible refine Kd.C_alloc ?_ _) | (with_reducible refine Kd.C_drewN ?_ _) | (with_reducible refine Kd.C_drew ?_)))
    (case side4 => exact (Kd.R_reads' HO164.out).2.1)
    rintro e w26 ⟨v168, rfl, ho0, hb⟩
    refine ⟨_, rfl, ?_⟩
    have n0_ := c7_ (c8_ (by (with_reducible repeat (first | apply b4 | apply b5 | apply b6)); exact HO159.out) (Kd.R_base ho0) hb)
    have n1_ := c7_ (c8_ (by (with_reducible repeat (first | apply b4 | apply b5 | apply b6)); exact HO164.out) (Kd.R_base ho0) hb)
    have n2_ := c7_ (Kd.R_lower (Kd.R_new' (Kd.R_new' ho0 (Kd.R_lt (by (with_reducible repeat (first | apply b4 | apply b5 | apply b6)); exact HO159.out))) (Kd.R_lt (by (with_reducible repeat (first | apply b4 | apply b5 | apply b6)); exact HO164.out))) (below_size (by repeat (first | (with_reducible first | exact HB.out | apply c1_ | apply b8 | apply b9 | refine b7 ?_ GE155.out | refine b7 ?_ GE171.out) | exact HB.out))))
    have n3_ := c7_ (c3_ (g := gb155) (o := .cells #[.int .i64 a1_0, .int .i64 a1_1, .slice A1_2 l1_2.length c1_2] 24 (0, 0)) (by (with_reducible repeat (first | refine b1 ?_ _ | refine b3 ?_ | refine b2 ?_ _)); exact BK155.out) hb)
    have n4_ := c7_ (c3_ (g := gb171) (o := .cells #[.int .i64 0, .int .i64 0, .slice none 0 0] 28 (0, 0)) (by (with_reducible repeat (first | refine b1 ?_ _ | refine b3 ?_ | refine b2 ?_ _)); exact BK171.out) hb)
    have n5_ := c7_ (below_step (by repeat (first | (with_reducible first | exact HB.out | apply c1_ | apply b8 | apply b9 | refine b7 ?_ GE155.out | refine b7 ?_ GE171.out) | exact HB.out)) hb)
    clear HO159
    clear HO164
    clear BK155
    clear BK171
    clear HB
    have HO159 := n0_
    have HO164 := n1_
    have HO169 := n2_
    have BK155 := n3_
    have BK171 := n4_
    have HB := n5_
    clear n0_ n1_ n2_ n3_ n4_ n5_
    (try clear hb)
    (try clear hb2)
    (try clear hk)
    (try clear hi)
    (try clear ho0)
    refine hK.out _ _ ⟨(c2_ BK155.out 0).trans rfl, (c2_ BK155.out 1).trans rfl, (c2_ BK155.out 2).trans rfl⟩ (fun hHeld => ?_)
    clear hK K
    refine norm_ (a' := ?_) ?_ ?_
    rotate_left
    ·
     show Act.put _ (some 30) _ = _
     simp only [Act.put, c4_, c5_, c6_, i64_w, i32_w]
     rfl
    refine pure_ (i := 5) (N := some 25) (v := ?_) (a' := ?_) #[true, true, true, true, true, true, false, false, true, false, false] rfl rfl (any_of HT_.out (by kernel_rfl)) (fun _ _ _ h => h) (Or.inl ⟨by rfl, ?_⟩) ?_ ?_
    rotate_left
    ·
     intro w'
     go_simp
     with_reducible rfl
    rotate_left
    ·
     simp only [Act.put, c4_, c5_, c6_, i64_w, i32_w]
     rfl
    refine pure_ (i := 6) (N := some 31) (v := ?_) (a' := ?_) #[true, true, true, true, true, true, true, false, true, false, false] rfl rfl (any_of HT_.out (by kernel_rfl)) (fun _ _ _ h => h) (Or.inl ⟨by rfl, ?_⟩) ?_ ?_
    rotate_left
    ·
     intro w'
     go_simp
     with_reducible rfl
    rotate_left
    ·
     simp only [Act.put, c4_, c5_, c6_, i64_w, i32_w]
     rfl
    refine pure_ (i := 7) (N := some 32) (v := ?_) (a' := ?_) #[true, true, true, true, true, true, true, true, true, false, false] rfl rfl (any_of HT_.out (by kernel_rfl)) (fun _ _ _ h => h) (Or.inl ⟨by rfl, ?_⟩) ?_ ?_
    rotate_left
    ·
     intro w'
     go_simp
     with_reducible rfl
    rotate_left
    ·
     simp only [Act.put, c4_, c5_, c6_, i64_w, i32_w]
     rfl
    exact norm_ (by simp only [putAll, Act.put, c4_, c5_, c6_]) (hCont (.slice Ao24 t157.length co24, .slice Ao25 t162.length co25, v168, gb171) _ ⟨hHeld, (by (with_reducible repeat (first | apply b4 | apply b5 | apply b6)); exact d2_ HO159.out (fun _ hk => ⟨hk.1.2, hk.2⟩)), (by (with_reducible repeat (first | apply b4 | apply b5 | apply b6)); exact d2_ HO164.out (fun _ hk => ⟨hk.1.2, hk.2⟩)), (by (with_reducible repeat (first | apply b4 | apply b5 | apply b6)); exact d2_ HO169.out (fun _ hk => ⟨hk.1.2, hk.2⟩)), (by (with_reducible repeat (first | refine b1 ?_ _ | refine b3 ?_ | refine b2 ?_ _)); exact BK155.out), (by (with_reducible repeat (first | refine b1 ?_ _ | refine b3 ?_ | refine b2 ?_ _)); exact BK171.out), GW171.out, GE171.out, NB155_171.out, NB171_155.out, (by repeat (first | (with_reducible first | exact HB.out | apply c1_ | apply b8 | apply b9 | refine b7 ?_ GE155.out | refine b7 ?_ GE171.out) | exact HB.out))⟩)
   skip
   refine box_step ?hg (N := 6) ?hd (cs := #[.int .i64 0, .int .i64 0, .slice none 0 0]) (t := 28) ?hr ?_; (case hd => rfl); (case hg => rfl); (case hr => first | (go_simp; done) | (go_simp; rfl))
   intro gb171 hg w22 hbox hb
   have n0_ := c7_ (c9_ (by (with_reducible repeat (first | apply b4 | apply b5 | apply b6)); exact HO159.out) hb)
   have n1_ := c7_ (c3_ (g := gb155) (o := .cells #[.int .i64 a1_0, .int .i64 a1_1, .slice A1_2 l1_2.length c1_2] 24 (0, 0)) (by (with_reducible repeat (first | refine b1 ?_ _ | refine b3 ?_ | refine b2 ?_ _)); exact BK155.out) hb)
   have n2_ := c7_ (below_step (by repeat (first | (with_reducible first | exact HB.out | apply c1_ | apply b8 | apply b9 | refine b7 ?_ GE155.out) | exact HB.out)) hb)
   have n3_ := c7_ (hbox)
   have n4_ := c7_ ((by rw [hg]; exact (below_size (by repeat (first | (with_reducible first | exact HB.out | apply c1_ | apply b8 | apply b9 | refine b7 ?_ GE155.out) | exact HB.out))) : w.heap.size ≤ gb171))
   have n5_ := c7_ ((by rw [hg]; exact (below_size (by repeat (first | (with_reducible first | exact HB.out | apply c1_ | apply b8 | apply b9 | refine b7 ?_ GE155.out) | exact HB.out))) : w.heap.size ≤ gb171))
   have n6_ := c7_ ((by rw [hg]; exact d4_ (blk_lt (g := gb155) (o := .cells #[.int .i64 a1_0, .int .i64 a1_1, .slice A1_2 l1_2.length c1_2] 24 (0, 0)) (by (with_reducible repeat (first | refine b1 ?_ _ | refine b3 ?_ | refine b2 ?_ _)); exact BK155.out)) : gb155 ≠ gb171))
   have n7_ := c7_ ((by rw [hg]; exact d5_ (blk_lt (g := gb155) (o := .cells #[.int .i64 a1_0, .int .i64 a1_1, .slice A1_2 l1_2.length c1_2] 24 (0, 0)) (by (with_reducible repeat (first | refine b1 ?_ _ | refine b3 ?_ | refine b2 ?_ _)); exact BK155.out)) : gb171 ≠ gb155))
   clear HO159
   clear BK155
   clear HB
   have HO159 := n0_
   have BK155 := n1_
   have HB := n2_
   have BK171 := n3_
   have GW171 := n4_
   have GE171 := n5_
   have NB155_171 := n6_
   have NB171_155 := n7_
   clear n0_ n1_ n2_ n3_ n4_ n5_ n6_ n7_
   clear hb hbox hg
   refine hK.out _ _ ⟨(c2_ BK155.out 0).trans rfl, (c2_ BK155.out 1).trans rfl, (c2_ BK155.out 2).trans rfl⟩ (fun hHeld => ?_)
   clear hK K
   refine norm_ (a' := ?_) ?_ ?_
   rotate_left
   ·
    show Act.put _ (some 6) _ = _
    simp only [Act.put, c4_, c5_, c6_, i64_w, i32_w]
    rfl
   refine one_ (i := 3) (N := some 29) #[true, true, true, true, false, false, false, false, true, false, false] rfl rfl (one_of HT_.out (by kernel_rfl)) (by decide) (fun K hK => ?_)
   refine goes_ Try.func17 (by kernel_rfl) rfl #[.agg #[.int .i64 a1_0, .int .i64 a1_1, .slice A1_2 l1_2.length c1_2]] (by rfl) rfl rfl (by (try simp only [List.map_toArray, List.map_cons, List.map_nil]); first | done | rfl | (simp only [List.length_drop, List.length_take]; rfl)) ?_
   with_reducible refine (laws_toAmend.calls k a1_0 a1_1 _ _ l1_2 t160 t161 t162 _ ?side1 ?side2 A11.out).mono ?_
   (case side1 => repeat (first | exact (Kd.C_below HR1_2.out HB.out) | (with_reducible refine Kd.C_alloc ?_ _) | (with_reducible refine Kd.C_drewN ?_ _) | (with_reducible refine Kd.C_drew ?_)))
   (case side2 => exact HC1_2.out)
   rintro e w23 ⟨v163, rfl, ho0, hb⟩
   refine ⟨_, rfl, ?_⟩
   have n0_ := c7_ (c8_ (by (with_reducible repeat (first | apply b4 | apply b5 | apply b6)); exact HO159.out) (Kd.R_base ho0) hb)
   have n1_ := c7_ (Kd.R_lower (Kd.R_new' ho0 (Kd.R_lt (by (with_reducible repeat (first | apply b4 | apply b5 | apply b6)); exact HO159.out))) (below_size (by repeat (first | (with_reducible first | exact HB.out | apply c1_ | apply b8 | apply b9 | refine b7 ?_ GE155.out | refine b7 ?_ GE171.out) | exact HB.out))))
   have n2_ := c7_ (c3_ (g := gb155) (o := .cells #[.int .i64 a1_0, .int .i64 a1_1, .slice A1_2 l1_2.length c1_2] 24 (0, 0)) (by (with_reducible repeat (first | refine b1 ?_ _ | refine b3 ?_ | refine b2 ?_ _)); exact BK155.out) hb)
   have n3_ := c7_ (c3_ (g := gb171) (o := .cells #[.int .i64 0, .int .i64 0, .slice none 0 0] 28 (0, 0)) (by (with_reducible repeat (first | refine b1 ?_ _ | refine b3 ?_ | refine b2 ?_ _)); exact BK171.out) hb)
   have n4_ := c7_ (below_step (by repeat (first | (with_reducible first | exact HB.out | apply c1_ | apply b8 | apply b9 | refine b7 ?_ GE155.out | refine b7 ?_ GE171.out) | exact HB.out)) hb)
   clear HO159
   clear BK155
   clear BK171
   clear HB
   have HO159 := n0_
   have HO164 := n1_
   have BK155 := n2_
   have BK171 := n3_
   have HB := n4_
   clear n0_ n1_ n2_ n3_ n4_
   (try clear hb)
   (try clear hb2)
   (try clear hk)
   (try clear hi)
   (try clear ho0)
   obtain ⟨Ao24, co24, eo24⟩ := Kd.R_slice HO159.out
   (first | subst eo24 | (injection eo24 with f1_ f2_ f3_; have f4_ := f1_.symm; have f5_ := f3_.symm; clear f1_ f2_ f3_; subst f4_; subst f5_))
   obtain ⟨Ao25, co25, eo25⟩ := Kd.R_slice HO164.out
   (first | subst eo25 | (injection eo25 with f1_ f2_ f3_; have f4_ := f1_.symm; have f5_ := f3_.symm; clear f1_ f2_ f3_; subst f4_; subst f5_))
   refine hK.out _ _ ⟨(c2_ BK155.out 0).trans rfl, (c2_ BK155.out 1).trans rfl, (c2_ BK155.out 2).trans rfl⟩ (fun hHeld => ?_)
   clear hK K
   refine norm_ (a' := ?_) ?_ ?_
   rotate_left
   ·
    show Act.put _ (some 29) _ = _
    simp only [Act.put, c4_, c5_, c6_, i64_w, i32_w]
    rfl
   refine one_ (i := 4) (N := some 30) #[true, true, true, true, true, false, false, false, true, false, false] rfl rfl (one_of HT_.out (by kernel_rfl)) (by decide) (fun K hK => ?_)
   refine goes_ Try.func28 (by kernel_rfl) rfl #[.slice Ao24 t157.length co24, .agg #[.int .i64 t160, .int .i64 t161, .slice Ao25 t162.length co25]] (by rfl) rfl rfl (by (try simp only [List.map_toArray, List.map_cons, List.map_nil]); first | done | rfl | (simp only [List.length_drop, List.length_take]; rfl)) ?_
   with_reducible refine (spec_Undo.calls _ _ t157 t160 t161 _ _ t162 t165 t166 t167 t170 _ ?side1 ?side2 ?side3 ?side4 A12.out).mono ?_
   (case side1 => repeat (first | exact (Kd.R_reads' HO159.out).2.2 | (with_reducible refine Kd.C_alloc ?_ _) | (with_reducible refine Kd.C_drewN ?_ _) | (with_reducible refine Kd.C_drew ?_)))
   (case side2 => exact (Kd.R_reads' HO159.out).2.1)
   (case side3 => repeat (first | exact (Kd.R_reads' HO164.out).2.2 | (with_reducible refine Kd.C_alloc ?_ _) | (with_reducible refine Kd.C_drewN ?_ _) | (with_reducible refine Kd.C_drew ?_)))
   (case side4 => exact (Kd.R_reads' HO164.out).2.1)
   rintro e w26 ⟨v168, rfl, ho0, hb⟩
   refine ⟨_, rfl, ?_⟩
   have n0_ := c7_ (c8_ (by (with_reducible repeat (first | apply b4 | apply b5 | apply b6)); exact HO159.out) (Kd.R_base ho0) hb)
   have n1_ := c7_ (c8_ (by (with_reducible repeat (first | apply b4 | apply b5 | apply b6)); exact HO164.out) (Kd.R_base ho0) hb)
   have n2_ := c7_ (Kd.R_lower (Kd.R_new' (Kd.R_new' ho0 (Kd.R_lt (by (with_reducible repeat (first | apply b4 | apply b5 | apply b6)); exact HO159.out))) (Kd.R_lt (by (with_reducible repeat (first | apply b4 | apply b5 | apply b6)); exact HO164.out))) (below_size (by repeat (first | (with_reducible first | exact HB.out | apply c1_ | apply b8 | apply b9 | refine b7 ?_ GE155.out | refine b7 ?_ GE171.out) | exact HB.out))))
   have n3_ := c7_ (c3_ (g := gb155) (o := .cells #[.int .i64 a1_0, .int .i64 a1_1, .slice A1_2 l1_2.length c1_2] 24 (0, 0)) (by (with_reducible repeat (first | refine b1 ?_ _ | refine b3 ?_ | refine b2 ?_ _)); exact BK155.out) hb)
   have n4_ := c7_ (c3_ (g := gb171) (o := .cells #[.int .i64 0, .int .i64 0, .slice none 0 0] 28 (0, 0)) (by (with_reducible repeat (first | refine b1 ?_ _ | refine b3 ?_ | refine b2 ?_ _)); exact BK171.out) hb)
   have n5_ := c7_ (below_step (by repeat (first | (with_reducible first | exact HB.out | apply c1_ | apply b8 | apply b9 | refine b7 ?_ GE155.out | refine b7 ?_ GE171.out) | exact HB.out)) hb)
   clear HO159
   clear HO164
   clear BK155
   clear BK171
   clear HB
   have HO159 := n0_
   have HO164 := n1_
   have HO169 := n2_
   have BK155 := n3_
   have BK171 := n4_
   have HB := n5_
   clear n0_ n1_ n2_ n3_ n4_ n5_
   (try clear hb)
   (try clear hb2)
   (try clear hk)
   (try clear hi)
   (try clear ho0)
   refine hK.out _ _ ⟨(c2_ BK155.out 0).trans rfl, (c2_ BK155.out 1).trans rfl, (c2_ BK155.out 2).trans rfl⟩ (fun hHeld => ?_)
   clear hK K
   refine norm_ (a' := ?_) ?_ ?_
   rotate_left
   ·
    show Act.put _ (some 30) _ = _
    simp only [Act.put, c4_, c5_, c6_, i64_w, i32_w]
    rfl
   refine pure_ (i := 5) (N := some 25) (v := ?_) (a' := ?_) #[true, true, true, true, true, true, false, false, true, false, false] rfl rfl (any_of HT_.out (by kernel_rfl)) (fun _ _ _ h => h) (Or.inl ⟨by rfl, ?_⟩) ?_ ?_
   rotate_left
   ·
    intro w'
    go_simp
    with_reducible rfl
   rotate_left
   ·
    simp only [Act.put, c4_, c5_, c6_, i64_w, i32_w]
    rfl
   refine pure_ (i := 6) (N := some 31) (v := ?_) (a' := ?_) #[true, true, true, true, true, true, true, false, true, false, false] rfl rfl (any_of HT_.out (by kernel_rfl)) (fun _ _ _ h => h) (Or.inl ⟨by rfl, ?_⟩) ?_ ?_
   rotate_left
   ·
    intro w'
    go_simp
    with_reducible rfl
   rotate_left
   ·
    simp only [Act.put, c4_, c5_, c6_, i64_w, i32_w]
    rfl
   refine pure_ (i := 7) (N := some 32) (v := ?_) (a' := ?_) #[true, true, true, true, true, true, true, true, true, false, false] rfl rfl (any_of HT_.out (by kernel_rfl)) (fun _ _ _ h => h) (Or.inl ⟨by rfl, ?_⟩) ?_ ?_
   rotate_left
   ·
    intro w'
    go_simp
    with_reducible rfl
   rotate_left
   ·
    simp only [Act.put, c4_, c5_, c6_, i64_w, i32_w]
    rfl
   exact norm_ (by simp only [putAll, Act.put, c4_, c5_, c6_]) (hCont (.slice Ao24 t157.length co24, .slice Ao25 t162.length co25, v168, gb171) _ ⟨hHeld, (by (with_reducible repeat (first | apply b4 | apply b5 | apply b6)); exact d2_ HO159.out (fun _ hk => ⟨hk.1.2, hk.2⟩)), (by (with_reducible repeat (first | apply b4 | apply b5 | apply b6)); exact d2_ HO164.out (fun _ hk => ⟨hk.1.2, hk.2⟩)), (by (with_reducible repeat (first | apply b4 | apply b5 | apply b6)); exact d2_ HO169.out (fun _ hk => ⟨hk.1.2, hk.2⟩)), (by (with_reducible repeat (first | refine b1 ?_ _ | refine b3 ?_ | refine b2 ?_ _)); exact BK155.out), (by (with_reducible repeat (first | refine b1 ?_ _ | refine b3 ?_ | refine b2 ?_ _)); exact BK171.out), GW171.out, GE171.out, NB155_171.out, NB171_155.out, (by repeat (first | (with_reducible first | exact HB.out | apply c1_ | apply b8 | apply b9 | refine b7 ?_ GE155.out | refine b7 ?_ GE171.out) | exact HB.out))⟩)
  skip
  refine box_step ?hg (N := 6) ?hd (cs := #[.int .i64 0, .int .i64 0, .slice none 0 0]) (t := 28) ?hr ?_; (case hd => rfl); (case hg => rfl); (case hr => first | (go_simp; done) | (go_simp; rfl))
  intro gb171 hg w21 hbox hb
  have n0_ := c7_ (c3_ (g := gb155) (o := .cells #[.int .i64 a1_0, .int .i64 a1_1, .slice A1_2 l1_2.length c1_2] 24 (0, 0)) (by (with_reducible repeat (first | refine b1 ?_ _ | refine b3 ?_ | refine b2 ?_ _)); exact BK155.out) hb)
  have n1_ := c7_ (below_step (by repeat (first | (with_reducible first | exact HB.out | apply c1_ | apply b8 | apply b9 | refine b7 ?_ GE155.out) | exact HB.out)) hb)
  have n2_ := c7_ (hbox)
  have n3_ := c7_ ((by rw [hg]; exact (below_size (by repeat (first | (with_reducible first | exact HB.out | apply c1_ | apply b8 | apply b9 | refine b7 ?_ GE155.out) | exact HB.out))) : w.heap.size ≤ gb171))
  have n4_ := c7_ ((by rw [hg]; exact (below_size (by repeat (first | (with_reducible first | exact HB.out | apply c1_ | apply b8 | apply b9 | refine b7 ?_ GE155.out) | exact HB.out))) : w.heap.size ≤ gb171))
  have n5_ := c7_ ((by rw [hg]; exact d4_ (blk_lt (g := gb155) (o := .cells #[.int .i64 a1_0, .int .i64 a1_1, .slice A1_2 l1_2.length c1_2] 24 (0, 0)) (by (with_reducible repeat (first | refine b1 ?_ _ | refine b3 ?_ | refine b2 ?_ _)); exact BK155.out)) : gb155 ≠ gb171))
  have n6_ := c7_ ((by rw [hg]; exact d5_ (blk_lt (g := gb155) (o := .cells #[.int .i64 a1_0, .int .i64 a1_1, .slice A1_2 l1_2.length c1_2] 24 (0, 0)) (by (with_reducible repeat (first | refine b1 ?_ _ | refine b3 ?_ | refine b2 ?_ _)); exact BK155.out)) : gb171 ≠ gb155))
  clear BK155
  clear HB
  have BK155 := n0_
  have HB := n1_
  have BK171 := n2_
  have GW171 := n3_
  have GE171 := n4_
  have NB155_171 := n5_
  have NB171_155 := n6_
  clear n0_ n1_ n2_ n3_ n4_ n5_ n6_
  clear hb hbox hg
  refine hK.out _ _ ⟨(c2_ BK155.out 0).trans rfl, (c2_ BK155.out 1).trans rfl, (c2_ BK155.out 2).trans rfl⟩ (fun hHeld => ?_)
  clear hK K
  refine norm_ (a' := ?_) ?_ ?_
  rotate_left
  ·
   show Act.put _ (some 6) _ = _
   simp only [Act.put, c4_, c5_, c6_, i64_w, i32_w]
   rfl
  refine one_ (i := 1) (N := some 27) #[true, true, true, false, false, false, false, false, true, false, false] rfl rfl (one_of HT_.out (by kernel_rfl)) (by decide) (fun K hK => ?_)
  refine goes_ Try.func16 (by kernel_rfl) rfl #[.slice A0 l0.length c0] (by rfl) rfl rfl (by (try simp only [List.map_toArray, List.map_cons, List.map_nil]); first | done | rfl | (simp only [List.length_drop, List.length_take]; rfl)) ?_
  with_reducible refine (laws_toIntS.calls k _ _ l0 t157 _ ?side1 ?side2 A10.out).mono ?_
  (case side1 => repeat (first | exact (Kd.C_below HR0.out HB.out) | (with_reducible refine Kd.C_alloc ?_ _) | (with_reducible refine Kd.C_drewN ?_ _) | (with_reducible refine Kd.C_drew ?_)))
  (case side2 => exact HC0.out)
  rintro e w22 ⟨v158, rfl, ho0, hb⟩
  refine ⟨_, rfl, ?_⟩
  have n0_ := c7_ (Kd.R_lower ho0 (below_size (by repeat (first | (with_reducible first | exact HB.out | apply c1_ | apply b8 | apply b9 | refine b7 ?_ GE155.out | refine b7 ?_ GE171.out) | exact HB.out))))
  have n1_ := c7_ (c3_ (g := gb155) (o := .cells #[.int .i64 a1_0, .int .i64 a1_1, .slice A1_2 l1_2.length c1_2] 24 (0, 0)) (by (with_reducible repeat (first | refine b1 ?_ _ | refine b3 ?_ | refine b2 ?_ _)); exact BK155.out) hb)
  have n2_ := c7_ (c3_ (g := gb171) (o := .cells #[.int .i64 0, .int .i64 0, .slice none 0 0] 28 (0, 0)) (by (with_reducible repeat (first | refine b1 ?_ _ | refine b3 ?_ | refine b2 ?_ _)); exact BK171.out) hb)
  have n3_ := c7_ (below_step (by repeat (first | (with_reducible first | exact HB.out | apply c1_ | apply b8 | apply b9 | refine b7 ?_ GE155.out | refine b7 ?_ GE171.out) | exact HB.out)) hb)
  clear BK155
  clear BK171
  clear HB
  have HO159 := n0_
  have BK155 := n1_
  have BK171 := n2_
  have HB := n3_
  clear n0_ n1_ n2_ n3_
  (try clear hb)
  (try clear hb2)
  (try clear hk)
  (try clear hi)
  (try clear ho0)
  refine hK.out _ _ ⟨(c2_ BK155.out 0).trans rfl, (c2_ BK155.out 1).trans rfl, (c2_ BK155.out 2).trans rfl⟩ (fun hHeld => ?_)
  clear hK K
  refine norm_ (a' := ?_) ?_ ?_
  rotate_left
  ·
   show Act.put _ (some 27) _ = _
   simp only [Act.put, c4_, c5_, c6_, i64_w, i32_w]
   rfl
  refine one_ (i := 3) (N := some 29) #[true, true, true, true, false, false, false, false, true, false, false] rfl rfl (one_of HT_.out (by kernel_rfl)) (by decide) (fun K hK => ?_)
  refine goes_ Try.func17 (by kernel_rfl) rfl #[.agg #[.int .i64 a1_0, .int .i64 a1_1, .slice A1_2 l1_2.length c1_2]] (by rfl) rfl rfl (by (try simp only [List.map_toArray, List.map_cons, List.map_nil]); first | done | rfl | (simp only [List.length_drop, List.length_take]; rfl)) ?_
  with_reducible refine (laws_toAmend.calls k a1_0 a1_1 _ _ l1_2 t160 t161 t162 _ ?side1 ?side2 A11.out).mono ?_
  (case side1 => repeat (first | exact (Kd.C_below HR1_2.out HB.out) | (with_reducible refine Kd.C_alloc ?_ _) | (with_reducible refine Kd.C_drewN ?_ _) | (with_reducible refine Kd.C_drew ?_)))
  (case side2 => exact HC1_2.out)
  rintro e w23 ⟨v163, rfl, ho0, hb⟩
  refine ⟨_, rfl, ?_⟩
  have n0_ := c7_ (c8_ (by (with_reducible repeat (first | apply b4 | apply b5 | apply b6)); exact HO159.out) (Kd.R_base ho0) hb)
  have n1_ := c7_ (Kd.R_lower (Kd.R_new' ho0 (Kd.R_lt (by (with_reducible repeat (first | apply b4 | apply b5 | apply b6)); exact HO159.out))) (below_size (by repeat (first | (with_reducible first | exact HB.out | apply c1_ | apply b8 | apply b9 | refine b7 ?_ GE155.out | refine b7 ?_ GE171.out) | exact HB.out))))
  have n2_ := c7_ (c3_ (g := gb155) (o := .cells #[.int .i64 a1_0, .int .i64 a1_1, .slice A1_2 l1_2.length c1_2] 24 (0, 0)) (by (with_reducible repeat (first | refine b1 ?_ _ | refine b3 ?_ | refine b2 ?_ _)); exact BK155.out) hb)
  have n3_ := c7_ (c3_ (g := gb171) (o := .cells #[.int .i64 0, .int .i64 0, .slice none 0 0] 28 (0, 0)) (by (with_reducible repeat (first | refine b1 ?_ _ | refine b3 ?_ | refine b2 ?_ _)); exact BK171.out) hb)
  have n4_ := c7_ (below_step (by repeat (first | (with_reducible first | exact HB.out | apply c1_ | apply b8 | apply b9 | refine b7 ?_ GE155.out | refine b7 ?_ GE171.out) | exact HB.out)) hb)
  clear HO159
  clear BK155
  clear BK171
  clear HB
  have HO159 := n0_
  have HO164 := n1_
  have BK155 := n2_
  have BK171 := n3_
  have HB := n4_
  clear n0_ n1_ n2_ n3_ n4_
  (try clear hb)
  (try clear hb2)
  (try clear hk)
  (try clear hi)
  (try clear ho0)
  obtain ⟨Ao24, co24, eo24⟩ := Kd.R_slice HO159.out
  (first | subst eo24 | (injection eo24 with f1_ f2_ f3_; have f4_ := f1_.symm; have f5_ := f3_.symm; clear f1_ f2_ f3_; subst f4_; subst f5_))
  obtain ⟨Ao25, co25, eo25⟩ := Kd.R_slice HO164.out
  (first | subst eo25 | (injection eo25 with f1_ f2_ f3_; have f4_ := f1_.symm; have f5_ := f3_.symm; clear f1_ f2_ f3_; subst f4_; subst f5_))
  refine hK.out _ _ ⟨(c2_ BK155.out 0).trans rfl, (c2_ BK155.out 1).trans rfl, (c2_ BK155.out 2).trans rfl⟩ (fun hHeld => ?_)
  clear hK K
  refine norm_ (a' := ?_) ?_ ?_
  rotate_left
  ·
   show Act.put _ (some 29) _ = _
   simp only [Act.put, c4_, c5_, c6_, i64_w, i32_w]
   rfl
  refine one_ (i := 4) (N := some 30) #[true, true, true, true, true, false, false, false, true, false, false] rfl rfl (one_of HT_.out (by kernel_rfl)) (by decide) (fun K hK => ?_)
  refine goes_ Try.func28 (by kernel_rfl) rfl #[.slice Ao24 t157.length co24, .agg #[.int .i64 t160, .int .i64 t161, .slice Ao25 t162.length co25]] (by rfl) rfl rfl (by (try simp only [List.map_toArray, List.map_cons, List.map_nil]); first | done | rfl | (simp only [List.length_drop, List.length_take]; rfl)) ?_
  with_reducible refine (spec_Undo.calls _ _ t157 t160 t161 _ _ t162 t165 t166 t167 t170 _ ?side1 ?side2 ?side3 ?side4 A12.out).mono ?_
  (case side1 => repeat (first | exact (Kd.R_reads' HO159.out).2.2 | (with_reducible refine Kd.C_alloc ?_ _) | (with_reducible refine Kd.C_drewN ?_ _) | (with_reducible refine Kd.C_drew ?_)))
  (case side2 => exact (Kd.R_reads' HO159.out).2.1)
  (case side3 => repeat (first | exact (Kd.R_reads' HO164.out).2.2 | (with_reducible refine Kd.C_alloc ?_ _) | (with_reducible refine Kd.C_drewN ?_ _) | (with_reducible refine Kd.C_drew ?_)))
  (case side4 => exact (Kd.R_reads' HO164.out).2.1)
  rintro e w26 ⟨v168, rfl, ho0, hb⟩
  refine ⟨_, rfl, ?_⟩
  have n0_ := c7_ (c8_ (by (with_reducible repeat (first | apply b4 | apply b5 | apply b6)); exact HO159.out) (Kd.R_base ho0) hb)
  have n1_ := c7_ (c8_ (by (with_reducible repeat (first | apply b4 | apply b5 | apply b6)); exact HO164.out) (Kd.R_base ho0) hb)
  have n2_ := c7_ (Kd.R_lower (Kd.R_new' (Kd.R_new' ho0 (Kd.R_lt (by (with_reducible repeat (first | apply b4 | apply b5 | apply b6)); exact HO159.out))) (Kd.R_lt (by (with_reducible repeat (first | apply b4 | apply b5 | apply b6)); exact HO164.out))) (below_size (by repeat (first | (with_reducible first | exact HB.out | apply c1_ | apply b8 | apply b9 | refine b7 ?_ GE155.out | refine b7 ?_ GE171.out) | exact HB.out))))
  have n3_ := c7_ (c3_ (g := gb155) (o := .cells #[.int .i64 a1_0, .int .i64 a1_1, .slice A1_2 l1_2.length c1_2] 24 (0, 0)) (by (with_reducible repeat (first | refine b1 ?_ _ | refine b3 ?_ | refine b2 ?_ _)); exact BK155.out) hb)
  have n4_ := c7_ (c3_ (g := gb171) (o := .cells #[.int .i64 0, .int .i64 0, .slice none 0 0] 28 (0, 0)) (by (with_reducible repeat (first | refine b1 ?_ _ | refine b3 ?_ | refine b2 ?_ _)); exact BK171.out) hb)
  have n5_ := c7_ (below_step (by repeat (first | (with_reducible first | exact HB.out | apply c1_ | apply b8 | apply b9 | refine b7 ?_ GE155.out | refine b7 ?_ GE171.out) | exact HB.out)) hb)
  clear HO159
  clear HO164
  clear BK155
  clear BK171
  clear HB
  have HO159 := n0_
  have HO164 := n1_
  have HO169 := n2_
  have BK155 := n3_
  have BK171 := n4_
  have HB := n5_
  clear n0_ n1_ n2_ n3_ n4_ n5_
  (try clear hb)
  (try clear hb2)
  (try clear hk)
  (try clear hi)
  (try clear ho0)
  refine hK.out _ _ ⟨(c2_ BK155.out 0).trans rfl, (c2_ BK155.out 1).trans rfl, (c2_ BK155.out 2).trans rfl⟩ (fun hHeld => ?_)
  clear hK K
  refine norm_ (a' := ?_) ?_ ?_
  rotate_left
  ·
   show Act.put _ (some 30) _ = _
   simp only [Act.put, c4_, c5_, c6_, i64_w, i32_w]
   rfl
  refine pure_ (i := 5) (N := some 25) (v := ?_) (a' := ?_) #[true, true, true, true, true, true, false, false, true, false, false] rfl rfl (any_of HT_.out (by kernel_rfl)) (fun _ _ _ h => h) (Or.inl ⟨by rfl, ?_⟩) ?_ ?_
  rotate_left
  ·
   intro w'
   go_simp
   with_reducible rfl
  rotate_left
  ·
   simp only [Act.put, c4_, c5_, c6_, i64_w, i32_w]
   rfl
  refine pure_ (i := 6) (N := some 31) (v := ?_) (a' := ?_) #[true, true, true, true, true, true, true, false, true, false, false] rfl rfl (any_of HT_.out (by kernel_rfl)) (fun _ _ _ h => h) (Or.inl ⟨by rfl, ?_⟩) ?_ ?_
  rotate_left
  ·
   intro w'
   go_simp
   with_reducible rfl
  rotate_left
  ·
   simp only [Act.put, c4_, c5_, c6_, i64_w, i32_w]
   rfl
  refine pure_ (i := 7) (N := some 32) (v := ?_) (a' := ?_) #[true, true, true, true, true, true, true, true, true, false, false] rfl rfl (any_of HT_.out (by kernel_rfl)) (fun _ _ _ h => h) (Or.inl ⟨by rfl, ?_⟩) ?_ ?_
  rotate_left
  ·
   intro w'
   go_simp
   with_reducible rfl
  rotate_left
  ·
   simp only [Act.put, c4_, c5_, c6_, i64_w, i32_w]
   rfl
  exact norm_ (by simp only [putAll, Act.put, c4_, c5_, c6_]) (hCont (.slice Ao24 t157.length co24, .slice Ao25 t162.length co25, v168, gb171) _ ⟨hHeld, (by (with_reducible repeat (first | apply b4 | apply b5 | apply b6)); exact d2_ HO159.out (fun _ hk => ⟨hk.1.2, hk.2⟩)), (by (with_reducible repeat (first | apply b4 | apply b5 | apply b6)); exact d2_ HO164.out (fun _ hk => ⟨hk.1.2, hk.2⟩)), (by (with_reducible repeat (first | apply b4 | apply b5 | apply b6)); exact d2_ HO169.out (fun _ hk => ⟨hk.1.2, hk.2⟩)), (by (with_reducible repeat (first | refine b1 ?_ _ | refine b3 ?_ | refine b2 ?_ _)); exact BK155.out), (by (with_reducible repeat (first | refine b1 ?_ _ | refine b3 ?_ | refine b2 ?_ _)); exact BK171.out), GW171.out, GE171.out, NB155_171.out, NB171_155.out, (by repeat (first | (with_reducible first | exact HB.out | apply c1_ | apply b8 | apply b9 | refine b7 ?_ GE155.out | refine b7 ?_ GE171.out) | exact HB.out))⟩)
 rintro ⟨v158, v163, v168, gb171⟩ w27 ⟨hS_, h0_, h1_, h2_, h3_, h4_, h5_, h6_, h7_, h8_, h9_⟩
 have n0_ : Aside0 (Kd.R (Kd.int .i64) 3 w27 w.heap.size (fun k_ => some k_ ≠ (v163 : Value).ownBlock ∧ some k_ ≠ (v168 : Value).ownBlock) v158 t157) := ⟨h0_⟩
 have n1_ : Aside0 (Kd.R (Kd.int .i64) 3 w27 w.heap.size (fun k_ => some k_ ≠ (v158 : Value).ownBlock ∧ some k_ ≠ (v168 : Value).ownBlock) v163 t162) := ⟨h1_⟩
 have n2_ : Aside0 (Kd.R (Kd.int .i64) 3 w27 w.heap.size (fun k_ => some k_ ≠ (v158 : Value).ownBlock ∧ some k_ ≠ (v163 : Value).ownBlock) v168 t167) := ⟨h2_⟩
 have n3_ : Aside0 (w27.heap[gb155]? = some (.cells #[.int .i64 a1_0, .int .i64 a1_1, .slice A1_2 l1_2.length c1_2] 24 (0, 0))) := ⟨h3_⟩
 have n4_ : Aside0 (w27.heap[gb171]? = some (.cells #[.int .i64 0, .int .i64 0, .slice none 0 0] 28 (0, 0))) := ⟨h4_⟩
 have n5_ : Aside0 (w.heap.size ≤ gb171) := ⟨h5_⟩
 have n6_ : Aside0 (w.heap.size ≤ gb171) := ⟨h6_⟩
 have n7_ : Aside0 (gb155 ≠ gb171) := ⟨h7_⟩
 have n8_ : Aside0 (gb171 ≠ gb155) := ⟨h8_⟩
 have n9_ : Aside0 (Below w.heap.size w w27) := ⟨h9_⟩
 clear BK155
 clear HB
 clear h0_ h1_ h2_ h3_ h4_ h5_ h6_ h7_ h8_ h9_
 have HO159 := n0_
 have HO164 := n1_
 have HO169 := n2_
 have BK155 := n3_
 have BK171 := n4_
 have GW171 := n5_
 have GE171 := n6_
 have NB155_171 := n7_
 have NB171_155 := n8_
 have HB := n9_
 clear n0_ n1_ n2_ n3_ n4_ n5_ n6_ n7_ n8_ n9_
 have hHeld : w27.cell? ⟨gb155, 0, none⟩ = some (.int .i64 a1_0) ∧ w27.cell? ⟨gb155, 1, none⟩ = some (.int .i64 a1_1) ∧ w27.cell? ⟨gb155, 2, none⟩ = some (.slice A1_2 l1_2.length c1_2) := hS_
 obtain ⟨Ao30, co30, eo30⟩ := Kd.R_slice HO169.out
 (first | subst eo30 | (injection eo30 with f1_ f2_ f3_; have f4_ := f1_.symm; have f5_ := f3_.symm; clear f1_ f2_ f3_; subst f4_; subst f5_))
 refine norm_ (a' := ?_) ?_ ?_
 rotate_left
 ·
  simp only [putAll, Act.put, c4_, c5_, c6_]
  rfl
 refine one_ (i := 9) (N := none) #[true, true, true, true, true, true, true, true, true, true, false] rfl rfl (one_of HT_.out (by kernel_rfl)) (by decide) (fun K hK => ?_)
 have hs28 : w27.cell? ⟨gb171, 0, none⟩ = some (.int .i64 0) := (c2_ BK171.out 0).trans rfl
 have hfs28 := blk_frozen BK171.out 0
 have hns28_0 := NB155_171.out
 have hms28_0 := NB171_155.out
 have hs29 : w27.cell? ⟨gb171, 1, none⟩ = some (.int .i64 0) := (c2_ BK171.out 1).trans rfl
 have hfs29 := blk_frozen BK171.out 1
 have hns29_0 := NB155_171.out
 have hms29_0 := NB171_155.out
 have hs31 : w27.cell? ⟨gb171, 2, none⟩ = some (.slice none 0 0) := (c2_ BK171.out 2).trans rfl
 have hfs31 := blk_frozen BK171.out 2
 have hns31_0 := NB155_171.out
 have hms31_0 := NB171_155.out
 refine skip_ (w1 := ?_) (by rfl) rfl ?_ ?_
 rotate_left
 ·
  go_simp
  rfl
 refine hK.out _ _ ⟨((cell_far (p := ⟨gb171, _, none⟩) NB155_171.out _).trans (((cell_far (p := ⟨gb171, _, none⟩) NB155_171.out _).trans (((cell_far (p := ⟨gb171, _, none⟩) NB155_171.out _).trans (hHeld.1)))))), ((cell_far (p := ⟨gb171, _, none⟩) NB155_171.out _).trans (((cell_far (p := ⟨gb171, _, none⟩) NB155_171.out _).trans (((cell_far (p := ⟨gb171, _, none⟩) NB155_171.out _).trans (hHeld.2.1)))))), ((cell_far (p := ⟨gb171, _, none⟩) NB155_171.out _).trans (((cell_far (p := ⟨gb171, _, none⟩) NB155_171.out _).trans (((cell_far (p := ⟨gb171, _, none⟩) NB155_171.out _).trans (hHeld.2.2))))))⟩ (fun hHeld => ?_)
 clear hK K
 refine pure_ (i := 10) (N := some 7) (v := ?_) (a' := ?_) #[true, true, true, true, true, true, true, true, true, true, true] rfl rfl (any_of HT_.out (by kernel_rfl)) (fun _ _ _ h => h) (Or.inl ⟨by rfl, ?_⟩) ?_ ?_
 rotate_left
 ·
  intro w'
  go_simp
  with_reducible rfl
 rotate_left
 ·
  simp only [Act.put, c4_, c5_, c6_, i64_w, i32_w]
  rfl
 refine done_ (done_of HT_.out (by kernel_rfl)) ?_
 go_upto_region 11 with (first | ((with_reducible refine gate_callee (f := 16) rfl ?_); refine goesL_ (some 34) rfl rfl Try.func16 (by kernel_rfl) rfl #[.slice A0 l0.length c0] rfl (by (try simp only [List.map_toArray, List.map_cons, List.map_nil]); first | done | rfl | (simp only [List.length_drop, List.length_take]; rfl)) ?_; (with_reducible refine (laws_toIntS.calls k _ _ l0 t172 _ ?side1 ?side2 A13.out).mono ?_); (case side1 => exact Kd.C_below HR0.out (by repeat (first | (with_reducible first | exact HB.out | apply c1_ | apply b8 | apply b9 | refine b7 ?_ GE155.out | refine b7 ?_ GE171.out) | exact HB.out))); (case side2 => exact HC0.out); rintro e w32 ⟨v173, rfl, ho0, hb⟩; refine ⟨_, rfl, ?_⟩; have n0_ := c7_ (c8_ (by (with_reducible repeat (first | apply b4 | apply b5 | apply b6)); exact (d2_ (Kd.R_far (p := ⟨gb171, 2, none⟩) (Kd.R_far (p := ⟨gb171, 1, none⟩) (Kd.R_far (p := ⟨gb171, 0, none⟩) (Kd.R_types HO159.out BK171.out (by decide)) (fun _ hk => hk.2) (.int .i64 t165)) (fun _ hk => hk.2) (.int .i64 t166)) (fun _ hk => hk.2) (.slice Ao30 t167.length co30)) (fun _ h_ => h_.1))) (Kd.R_base ho0) hb); have n1_ := c7_ (c8_ (by (with_reducible repeat (first | apply b4 | apply b5 | apply b6)); exact (d2_ (Kd.R_far (p := ⟨gb171, 2, none⟩) (Kd.R_far (p := ⟨gb171, 1, none⟩) (Kd.R_far (p := ⟨gb171, 0, none⟩) (Kd.R_types HO164.out BK171.out (by decide)) (fun _ hk => hk.2) (.int .i64 t165)) (fun _ hk => hk.2) (.int .i64 t166)) (fun _ hk => hk.2) (.slice Ao30 t167.length co30)) (fun _ h_ => h_.1))) (Kd.R_base ho0) hb); have n2_ := c7_ (c8_ (by (with_reducible repeat (first | apply b4 | apply b5 | apply b6)); exact (d2_ (Kd.R_far (p := ⟨gb171, 2, none⟩) (Kd.R_far (p := ⟨gb171, 1, none⟩) (Kd.R_far (p := ⟨gb171, 0, none⟩) (Kd.R_types HO169.out BK171.out (by decide)) (fun _ hk => hk.2) (.int .i64 t165)) (fun _ hk => hk.2) (.int .i64 t166)) (fun _ hk => hk.2) (.slice Ao30 t167.length co30)) (fun _ h_ => h_.1))) (Kd.R_base ho0) hb); have n3_ := c7_ (Kd.R_lower (Kd.R_new' (Kd.R_new' (Kd.R_new' ho0 (Kd.R_lt (by (with_reducible repeat (first | apply b4 | apply b5 | apply b6)); exact (d2_ (Kd.R_far (p := ⟨gb171, 2, none⟩) (Kd.R_far (p := ⟨gb171, 1, none⟩) (Kd.R_far (p := ⟨gb171, 0, none⟩) (Kd.R_types HO159.out BK171.out (by decide)) (fun _ hk => hk.2) (.int .i64 t165)) (fun _ hk => hk.2) (.int .i64 t166)) (fun _ hk => hk.2) (.slice Ao30 t167.length co30)) (fun _ h_ => h_.1))))) (Kd.R_lt (by (with_reducible repeat (first | apply b4 | apply b5 | apply b6)); exact (d2_ (Kd.R_far (p := ⟨gb171, 2, none⟩) (Kd.R_far (p := ⟨gb171, 1, none⟩) (Kd.R_far (p := ⟨gb171, 0, none⟩) (Kd.R_types HO164.out BK171.out (by decide)) (fun _ hk => hk.2) (.int .i64 t165)) (fun _ hk => hk.2) (.int .i64 t166)) (fun _ hk => hk.2) (.slice Ao30 t167.length co30)) (fun _ h_ => h_.1))))) (Kd.R_lt (by (with_reducible repeat (first | apply b4 | apply b5 | apply b6)); exact (d2_ (Kd.R_far (p := ⟨gb171, 2, none⟩) (Kd.R_far (p := ⟨gb171, 1, none⟩) (Kd.R_far (p := ⟨gb171, 0, none⟩) (Kd.R_types HO169.out BK171.out (by decide)) (fun _ hk => hk.2) (.int .i64 t165)) (fun _ hk => hk.2) (.int .i64 t166)) (fun _ hk => hk.2) (.slice Ao30 t167.length co30)) (fun _ h_ => h_.1))))) (below_size (by repeat (first | (with_reducible first | exact HB.out | apply c1_ | apply b8 | apply b9 | refine b7 ?_ GE155.out | refine b7 ?_ GE171.out) | exact HB.out)))); have n4_ := c7_ (c3_ (g := gb155) (o := .cells #[.int .i64 a1_0, .int .i64 a1_1, .slice A1_2 l1_2.length c1_2] 24 (0, 0)) (by (with_reducible repeat (first | refine b1 ?_ _ | refine b3 ?_ | refine b2 ?_ _)); refine blk_far ?_ NB155_171.out _; (with_reducible repeat (first | refine b1 ?_ _ | refine b3 ?_ | refine b2 ?_ _)); refine blk_far ?_ NB155_171.out _; (with_reducible repeat (first | refine b1 ?_ _ | refine b3 ?_ | refine b2 ?_ _)); refine blk_far ?_ NB155_171.out _; (with_reducible repeat (first | refine b1 ?_ _ | refine b3 ?_ | refine b2 ?_ _)); exact BK155.out) hb); have n5_ := c7_ (c3_ (g := gb171) (o := .cells #[.int .i64 t165, .int .i64 t166, .slice Ao30 t167.length co30] 28 (0, 0)) (by (with_reducible repeat (first | refine b1 ?_ _ | refine b3 ?_ | refine b2 ?_ _)); refine blk_put (cs := #[.int .i64 t165, .int .i64 t166, .slice none 0 0]) ?_ 2 _ rfl; (with_reducible repeat (first | refine b1 ?_ _ | refine b3 ?_ | refine b2 ?_ _)); refine blk_put (cs := #[.int .i64 t165, .int .i64 0, .slice none 0 0]) ?_ 1 _ rfl; (with_reducible repeat (first | refine b1 ?_ _ | refine b3 ?_ | refine b2 ?_ _)); refine blk_put (cs := #[.int .i64 0, .int .i64 0, .slice none 0 0]) ?_ 0 _ rfl; (with_reducible repeat (first | refine b1 ?_ _ | refine b3 ?_ | refine b2 ?_ _)); exact BK171.out) hb); have n6_ := c7_ (below_step (by repeat (first | (with_reducible first | exact HB.out | apply c1_ | apply b8 | apply b9 | refine b7 ?_ GE155.out | refine b7 ?_ GE171.out) | exact HB.out)) hb); clear HO159; clear HO164; clear HO169; clear BK155; clear BK171; clear HB; have HO159 := n0_; have HO164 := n1_; have HO169 := n2_; have HO174 := n3_; have BK155 := n4_; have BK171 := n5_; have HB := n6_; clear n0_ n1_ n2_ n3_ n4_ n5_ n6_; (try clear hb); (try clear hb2); (try clear hk); (try clear hi); (try clear ho0); have hnb33 := NB155_171.out; have hnc33 := NB171_155.out; have hcz34_0 : w32.cell? ⟨gb155, 0, none⟩ = some (.int .i64 a1_0) := (c2_ BK155.out 0).trans rfl; have hcz34_1 : w32.cell? ⟨gb155, 1, none⟩ = some (.int .i64 a1_1) := (c2_ BK155.out 1).trans rfl; have hcz34_2 : w32.cell? ⟨gb155, 2, none⟩ = some (.slice A1_2 l1_2.length c1_2) := (c2_ BK155.out 2).trans rfl; have hfz34_0 := blk_frozen BK155.out 0; have hfz34_1 := blk_frozen BK155.out 1; have hfz34_2 := blk_frozen BK155.out 2) | ((with_reducible refine gate_callee (f := 17) rfl ?_); refine goesL_ (some 36) rfl rfl Try.func17 (by kernel_rfl) rfl #[.agg #[.int .i64 a1_0, .int .i64 a1_1, .slice A1_2 l1_2.length c1_2]] rfl (by (try simp only [List.map_toArray, List.map_cons, List.map_nil]); first | done | rfl | (simp only [List.length_drop, List.length_take]; rfl)) ?_; (with_reducible refine (laws_toAmend.calls k a1_0 a1_1 _ _ l1_2 t175 t176 t177 _ ?side1 ?side2 A14.out).mono ?_); (case side1 => repeat (first | exact (Kd.C_below HR1_2.out HB.out) | (with_reducible refine Kd.C_alloc ?_ _) | (with_reducible refine Kd.C_drewN ?_ _) | (with_reducible refine Kd.C_drew ?_))); (case side2 => exact HC1_2.out); rintro e w35 ⟨v178, rfl, ho0, hb⟩; refine ⟨_, rfl, ?_⟩; have n0_ := c7_ (c8_ (by (with_reducible repeat (first | apply b4 | apply b5 | apply b6)); exact HO159.out) (Kd.R_base ho0) hb); have n1_ := c7_ (c8_ (by (with_reducible repeat (first | apply b4 | apply b5 | apply b6)); exact HO164.out) (Kd.R_base ho0) hb); have n2_ := c7_ (c8_ (by (with_reducible repeat (first | apply b4 | apply b5 | apply b6)); exact HO169.out) (Kd.R_base ho0) hb); have n3_ := c7_ (c8_ (by (with_reducible repeat (first | apply b4 | apply b5 | apply b6)); exact HO174.out) (Kd.R_base ho0) hb); have n4_ := c7_ (Kd.R_lower (Kd.R_new' (Kd.R_new' (Kd.R_new' (Kd.R_new' ho0 (Kd.R_lt (by (with_reducible repeat (first | apply b4 | apply b5 | apply b6)); exact HO159.out))) (Kd.R_lt (by (with_reducible repeat (first | apply b4 | apply b5 | apply b6)); exact HO164.out))) (Kd.R_lt (by (with_reducible repeat (first | apply b4 | apply b5 | apply b6)); exact HO169.out))) (Kd.R_lt (by (with_reducible repeat (first | apply b4 | apply b5 | apply b6)); exact HO174.out))) (below_size (by repeat (first | (with_reducible first | exact HB.out | apply c1_ | apply b8 | apply b9 | refine b7 ?_ GE155.out | refine b7 ?_ GE171.out) | exact HB.out)))); have n5_ := c7_ (c3_ (g := gb155) (o := .cells #[.int .i64 a1_0, .int .i64 a1_1, .slice A1_2 l1_2.length c1_2] 24 (0, 0)) (by (with_reducible repeat (first | refine b1 ?_ _ | refine b3 ?_ | refine b2 ?_ _)); exact BK155.out) hb); have n6_ := c7_ (c3_ (g := gb171) (o := .cells #[.int .i64 t165, .int .i64 t166, .slice Ao30 t167.length co30] 28 (0, 0)) (by (with_reducible repeat (first | refine b1 ?_ _ | refine b3 ?_ | refine b2 ?_ _)); exact BK171.out) hb); have n7_ := c7_ (below_step (by repeat (first | (with_reducible first | exact HB.out | apply c1_ | apply b8 | apply b9 | refine b7 ?_ GE155.out | refine b7 ?_ GE171.out) | exact HB.out)) hb); clear HO159; clear HO164; clear HO169; clear HO174; clear BK155; clear BK171; clear HB; have HO159 := n0_; have HO164 := n1_; have HO169 := n2_; have HO174 := n3_; have HO179 := n4_; have BK155 := n5_; have BK171 := n6_; have HB := n7_; clear n0_ n1_ n2_ n3_ n4_ n5_ n6_ n7_; (try clear hb); (try clear hb2); (try clear hk); (try clear hi); (try clear ho0)) | ((with_reducible refine gate_dst (N := 9) rfl ?_); refine box_event ?hg (N := 9) ?hd (cs := #[.int .i64 0, .int .i64 0, .slice none 0 0]) (t := 28) ?hr ?_; (case hd => rfl); (case hg => rfl); (case hr => first | (go_simp; done) | (go_simp; rfl)); intro gb180 hg w36 hbox hb; have n0_ := c7_ (c9_ (by (with_reducible repeat (first | apply b4 | apply b5 | apply b6)); exact HO159.out) hb); have n1_ := c7_ (c9_ (by (with_reducible repeat (first | apply b4 | apply b5 | apply b6)); exact HO164.out) hb); have n2_ := c7_ (c9_ (by (with_reducible repeat (first | apply b4 | apply b5 | apply b6)); exact HO169.out) hb); have n3_ := c7_ (c9_ (by (with_reducible repeat (first | apply b4 | apply b5 | apply b6)); exact HO174.out) hb); have n4_ := c7_ (c9_ (by (with_reducible repeat (first | apply b4 | apply b5 | apply b6)); exact HO179.out) hb); have n5_ := c7_ (c3_ (g := gb155) (o := .cells #[.int .i64 a1_0, .int .i64 a1_1, .slice A1_2 l1_2.length c1_2] 24 (0, 0)) (by (with_reducible repeat (first | refine b1 ?_ _ | refine b3 ?_ | refine b2 ?_ _)); exact BK155.out) hb); have n6_ := c7_ (c3_ (g := gb171) (o := .cells #[.int .i64 t165, .int .i64 t166, .slice Ao30 t167.length co30] 28 (0, 0)) (by (with_reducible repeat (first | refine b1 ?_ _ | refine b3 ?_ | refine b2 ?_ _)); exact BK171.out) hb); have n7_ := c7_ (below_step (by repeat (first | (with_reducible first | exact HB.out | apply c1_ | apply b8 | apply b9 | refine b7 ?_ GE155.out | refine b7 ?_ GE171.out) | exact HB.out)) hb); have n8_ := c7_ (hbox); have n9_ := c7_ ((by rw [hg]; exact (below_size (by repeat (first | (with_reducible first | exact HB.out | apply c1_ | apply b8 | apply b9 | refine b7 ?_ GE155.out | refine b7 ?_ GE171.out) | exact HB.out))) : w.heap.size ≤ gb180)); have n10_ := c7_ ((by rw [hg]; exact (below_size (by repeat (first | (with_reducible first | exact HB.out | apply c1_ | apply b8 | apply b9 | refine b7 ?_ GE155.out | refine b7 ?_ GE171.out) | exact HB.out))) : w.heap.size ≤ gb180)); have n11_ := c7_ ((by rw [hg]; exact d4_ (blk_lt (g := gb155) (o := .cells #[.int .i64 a1_0, .int .i64 a1_1, .slice A1_2 l1_2.length c1_2] 24 (0, 0)) (by (with_reducible repeat (first | refine b1 ?_ _ | refine b3 ?_ | refine b2 ?_ _)); exact BK155.out)) : gb155 ≠ gb180)); have n12_ := c7_ ((by rw [hg]; exact d5_ (blk_lt (g := gb155) (o := .cells #[.int .i64 a1_0, .int .i64 a1_1, .slice A1_2 l1_2.length c1_2] 24 (0, 0)) (by (with_reducible repeat (first | refine b1 ?_ _ | refine b3 ?_ | refine b2 ?_ _)); exact BK155.out)) : gb180 ≠ gb155)); have n13_ := c7_ ((by rw [hg]; exact d4_ (blk_lt (g := gb171) (o := .cells #[.int .i64 t165, .int .i64 t166, .slice Ao30 t167.length co30] 28 (0, 0)) (by (with_reducible repeat (first | refine b1 ?_ _ | refine b3 ?_ | refine b2 ?_ _)); exact BK171.out)) : gb171 ≠ gb180)); have n14_ := c7_ ((by rw [hg]; exact d5_ (blk_lt (g := gb171) (o := .cells #[.int .i64 t165, .int .i64 t166, .slice Ao30 t167.length co30] 28 (0, 0)) (by (with_reducible repeat (first | refine b1 ?_ _ | refine b3 ?_ | refine b2 ?_ _)); exact BK171.out)) : gb180 ≠ gb171)); clear HO159; clear HO164; clear HO169; clear HO174; clear HO179; clear BK155; clear BK171; clear HB; have HO159 := n0_; have HO164 := n1_; have HO169 := n2_; have HO174 := n3_; have HO179 := n4_; have BK155 := n5_; have BK171 := n6_; have HB := n7_; have BK180 := n8_; have GW180 := n9_; have GE180 := n10_; have NB155_180 := n11_; have NB180_155 := n12_; have NB171_180 := n13_; have NB180_171 := n14_; clear n0_ n1_ n2_ n3_ n4_ n5_ n6_ n7_ n8_ n9_ n10_ n11_ n12_ n13_ n14_; clear hb hbox hg; have hnb37 := NB180_155.out; have hnc37 := NB155_180.out; have hnb38 := NB180_171.out; have hnc38 := NB171_180.out; have hcz39_0 : w36.cell? ⟨gb180, 0, none⟩ = some (.int .i64 0) := (c2_ BK180.out 0).trans rfl; have hcz39_1 : w36.cell? ⟨gb180, 1, none⟩ = some (.int .i64 0) := (c2_ BK180.out 1).trans rfl; have hcz39_2 : w36.cell? ⟨gb180, 2, none⟩ = some (.slice none 0 0) := (c2_ BK180.out 2).trans rfl; have hfz39_0 := blk_frozen BK180.out 0; have hfz39_1 := blk_frozen BK180.out 1; have hfz39_2 := blk_frozen BK180.out 2; obtain ⟨Ao40, co40, eo40⟩ := Kd.R_slice HO179.out; subst eo40; obtain ⟨Ao41, co41, eo41⟩ := Kd.R_slice HO174.out; subst eo41) | ((with_reducible refine gate_callee (f := 29) rfl ?_); refine goesL_ (some 40) rfl rfl Try.func29 (by kernel_rfl) rfl #[.slice Ao41 t172.length co41, .agg #[.int .i64 t175, .int .i64 t176, .slice Ao40 t177.length co40]] rfl (by (try simp only [List.map_toArray, List.map_cons, List.map_nil]); first | done | rfl | (simp only [List.length_drop, List.length_take]; rfl)) ?_; (with_reducible refine (impl_Undo.calls _ _ t172 t175 t176 _ _ t177 t181 t182 t183 t186 _ ?side1 ?side2 ?side3 ?side4 A15.out).mono ?_); (case side1 => refine (Kd.R_reads' (e := 3) (base := w.heap.size) (ok := fun k_ => ((((True ∧ some k_ ≠ (v158 : Value).ownBlock) ∧ some k_ ≠ (v163 : Value).ownBlock) ∧ some k_ ≠ (.slice Ao30 t167.length co30 : Value).ownBlock) ∧ some k_ ≠ (.slice Ao40 t177.length co40 : Value).ownBlock)) (n := t172.length) (c := co41) ?_).2.2; exact (by (with_reducible repeat (first | apply b4 | apply b5 | apply b6)); exact (d2_ (Kd.R_far (p := ⟨gb180, 2, none⟩) (Kd.R_far (p := ⟨gb180, 1, none⟩) (Kd.R_far (p := ⟨gb180, 0, none⟩) (Kd.R_types HO174.out BK180.out (by decide)) (fun _ hk => hk.2) (.int .i64 t175)) (fun _ hk => hk.2) (.int .i64 t176)) (fun _ hk => hk.2) (.slice Ao40 t177.length co40)) (fun _ h_ => h_.1)))); (case side2 => exact (Kd.R_reads' HO174.out).2.1); (case side3 => refine (Kd.R_reads' (e := 3) (base := w.heap.size) (ok := fun k_ => ((((True ∧ some k_ ≠ (v158 : Value).ownBlock) ∧ some k_ ≠ (v163 : Value).ownBlock) ∧ some k_ ≠ (.slice Ao30 t167.length co30 : Value).ownBlock) ∧ some k_ ≠ (.slice Ao41 t172.length co41 : Value).ownBlock)) (n := t177.length) (c := co40) ?_).2.2; exact (by (with_reducible repeat (first | apply b4 | apply b5 | apply b6)); exact (d2_ (Kd.R_far (p := ⟨gb180, 2, none⟩) (Kd.R_far (p := ⟨gb180, 1, none⟩) (Kd.R_far (p := ⟨gb180, 0, none⟩) (Kd.R_types HO179.out BK180.out (by decide)) (fun _ hk => hk.2) (.int .i64 t175)) (fun _ hk => hk.2) (.int .i64 t176)) (fun _ hk => hk.2) (.slice Ao40 t177.length co40)) (fun _ h_ => h_.1)))); (case side4 => exact (Kd.R_reads' HO179.out).2.1); rintro e w42 ⟨v184, rfl, ho0, hb⟩; refine ⟨_, rfl, ?_⟩; have n0_ := c7_ (c8_ (by (with_reducible repeat (first | apply b4 | apply b5 | apply b6)); exact (d2_ (Kd.R_far (p := ⟨gb180, 2, none⟩) (Kd.R_far (p := ⟨gb180, 1, none⟩) (Kd.R_far (p := ⟨gb180, 0, none⟩) (Kd.R_types HO159.out BK180.out (by decide)) (fun _ hk => hk.2) (.int .i64 t175)) (fun _ hk => hk.2) (.int .i64 t176)) (fun _ hk => hk.2) (.slice Ao40 t177.length co40)) (fun _ h_ => h_.1))) (Kd.R_base ho0) hb); have n1_ := c7_ (c8_ (by (with_reducible repeat (first | apply b4 | apply b5 | apply b6)); exact (d2_ (Kd.R_far (p := ⟨gb180, 2, none⟩) (Kd.R_far (p := ⟨gb180, 1, none⟩) (Kd.R_far (p := ⟨gb180, 0, none⟩) (Kd.R_types HO164.out BK180.out (by decide)) (fun _ hk => hk.2) (.int .i64 t175)) (fun _ hk => hk.2) (.int .i64 t176)) (fun _ hk => hk.2) (.slice Ao40 t177.length co40)) (fun _ h_ => h_.1))) (Kd.R_base ho0) hb); have n2_ := c7_ (c8_ (by (with_reducible repeat (first | apply b4 | apply b5 | apply b6)); exact (d2_ (Kd.R_far (p := ⟨gb180, 2, none⟩) (Kd.R_far (p := ⟨gb180, 1, none⟩) (Kd.R_far (p := ⟨gb180, 0, none⟩) (Kd.R_types HO169.out BK180.out (by decide)) (fun _ hk => hk.2) (.int .i64 t175)) (fun _ hk => hk.2) (.int .i64 t176)) (fun _ hk => hk.2) (.slice Ao40 t177.length co40)) (fun _ h_ => h_.1))) (Kd.R_base ho0) hb); have n3_ := c7_ (c8_ (by (with_reducible repeat (first | apply b4 | apply b5 | apply b6)); exact (d2_ (Kd.R_far (p := ⟨gb180, 2, none⟩) (Kd.R_far (p := ⟨gb180, 1, none⟩) (Kd.R_far (p := ⟨gb180, 0, none⟩) (Kd.R_types HO174.out BK180.out (by decide)) (fun _ hk => hk.2) (.int .i64 t175)) (fun _ hk => hk.2) (.int .i64 t176)) (fun _ hk => hk.2) (.slice Ao40 t177.length co40)) (fun _ h_ => h_.1))) (Kd.R_base ho0) hb); have n4_ := c7_ (c8_ (by (with_reducible repeat (first | apply b4 | apply b5 | apply b6)); exact (d2_ (Kd.R_far (p := ⟨gb180, 2, none⟩) (Kd.R_far (p := ⟨gb180, 1, none⟩) (Kd.R_far (p := ⟨gb180, 0, none⟩) (Kd.R_types HO179.out BK180.out (by decide)) (fun _ hk => hk.2) (.int .i64 t175)) (fun _ hk => hk.2) (.int .i64 t176)) (fun _ hk => hk.2) (.slice Ao40 t177.length co40)) (fun _ h_ => h_.1))) (Kd.R_base ho0) hb); have n5_ := c7_ (Kd.R_lower (Kd.R_new' (Kd.R_new' (Kd.R_new' (Kd.R_new' (Kd.R_new' ho0 (Kd.R_lt (by (with_reducible repeat (first | apply b4 | apply b5 | apply b6)); exact (d2_ (Kd.R_far (p := ⟨gb180, 2, none⟩) (Kd.R_far (p := ⟨gb180, 1, none⟩) (Kd.R_far (p := ⟨gb180, 0, none⟩) (Kd.R_types HO159.out BK180.out (by decide)) (fun _ hk => hk.2) (.int .i64 t175)) (fun _ hk => hk.2) (.int .i64 t176)) (fun _ hk => hk.2) (.slice Ao40 t177.length co40)) (fun _ h_ => h_.1))))) (Kd.R_lt (by (with_reducible repeat (first | apply b4 | apply b5 | apply b6)); exact (d2_ (Kd.R_far (p := ⟨gb180, 2, none⟩) (Kd.R_far (p := ⟨gb180, 1, none⟩) (Kd.R_far (p := ⟨gb180, 0, none⟩) (Kd.R_types HO164.out BK180.out (by decide)) (fun _ hk => hk.2) (.int .i64 t175)) (fun _ hk => hk.2) (.int .i64 t176)) (fun _ hk => hk.2) (.slice Ao40 t177.length co40)) (fun _ h_ => h_.1))))) (Kd.R_lt (by (with_reducible repeat (first | apply b4 | apply b5 | apply b6)); exact (d2_ (Kd.R_far (p := ⟨gb180, 2, none⟩) (Kd.R_far (p := ⟨gb180, 1, none⟩) (Kd.R_far (p := ⟨gb180, 0, none⟩) (Kd.R_types HO169.out BK180.out (by decide)) (fun _ hk => hk.2) (.int .i64 t175)) (fun _ hk => hk.2) (.int .i64 t176)) (fun _ hk => hk.2) (.slice Ao40 t177.length co40)) (fun _ h_ => h_.1))))) (Kd.R_lt (by (with_reducible repeat (first | apply b4 | apply b5 | apply b6)); exact (d2_ (Kd.R_far (p := ⟨gb180, 2, none⟩) (Kd.R_far (p := ⟨gb180, 1, none⟩) (Kd.R_far (p := ⟨gb180, 0, none⟩) (Kd.R_types HO174.out BK180.out (by decide)) (fun _ hk => hk.2) (.int .i64 t175)) (fun _ hk => hk.2) (.int .i64 t176)) (fun _ hk => hk.2) (.slice Ao40 t177.length co40)) (fun _ h_ => h_.1))))) (Kd.R_lt (by (with_reducible repeat (first | apply b4 | apply b5 | apply b6)); exact (d2_ (Kd.R_far (p := ⟨gb180, 2, none⟩) (Kd.R_far (p := ⟨gb180, 1, none⟩) (Kd.R_far (p := ⟨gb180, 0, none⟩) (Kd.R_types HO179.out BK180.out (by decide)) (fun _ hk => hk.2) (.int .i64 t175)) (fun _ hk => hk.2) (.int .i64 t176)) (fun _ hk => hk.2) (.slice Ao40 t177.length co40)) (fun _ h_ => h_.1))))) (below_size (by repeat (first | (with_reducible first | exact HB.out | apply c1_ | apply b8 | apply b9 | refine b7 ?_ GE155.out | refine b7 ?_ GE171.out | refine b7 ?_ GE180.out) | exact HB.out)))); have n6_ := c7_ (c3_ (g := gb155) (o := .cells #[.int .i64 a1_0, .int .i64 a1_1, .slice A1_2 l1_2.length c1_2] 24 (0, 0)) (by (with_reducible repeat (first | refine b1 ?_ _ | refine b3 ?_ | refine b2 ?_ _)); refine blk_far ?_ NB155_180.out _; (with_reducible repeat (first | refine b1 ?_ _ | refine b3 ?_ | refine b2 ?_ _)); refine blk_far ?_ NB155_180.out _; (with_reducible repeat (first | refine b1 ?_ _ | refine b3 ?_ | refine b2 ?_ _)); refine blk_far ?_ NB155_180.out _; (with_reducible repeat (first | refine b1 ?_ _ | refine b3 ?_ | refine b2 ?_ _)); exact BK155.out) hb); have n7_ := c7_ (c3_ (g := gb171) (o := .cells #[.int .i64 t165, .int .i64 t166, .slice Ao30 t167.length co30] 28 (0, 0)) (by (with_reducible repeat (first | refine b1 ?_ _ | refine b3 ?_ | refine b2 ?_ _)); refine blk_far ?_ NB171_180.out _; (with_reducible repeat (first | refine b1 ?_ _ | refine b3 ?_ | refine b2 ?_ _)); refine blk_far ?_ NB171_180.out _; (with_reducible repeat (first | refine b1 ?_ _ | refine b3 ?_ | refine b2 ?_ _)); refine blk_far ?_ NB171_180.out _; (with_reducible repeat (first | refine b1 ?_ _ | refine b3 ?_ | refine b2 ?_ _)); exact BK171.out) hb); have n8_ := c7_ (c3_ (g := gb180) (o := .cells #[.int .i64 t175, .int .i64 t176, .slice Ao40 t177.length co40] 28 (0, 0)) (by (with_reducible repeat (first | refine b1 ?_ _ | refine b3 ?_ | refine b2 ?_ _)); refine blk_put (cs := #[.int .i64 t175, .int .i64 t176, .slice none 0 0]) ?_ 2 _ rfl; (with_reducible repeat (first | refine b1 ?_ _ | refine b3 ?_ | refine b2 ?_ _)); refine blk_put (cs := #[.int .i64 t175, .int .i64 0, .slice none 0 0]) ?_ 1 _ rfl; (with_reducible repeat (first | refine b1 ?_ _ | refine b3 ?_ | refine b2 ?_ _)); refine blk_put (cs := #[.int .i64 0, .int .i64 0, .slice none 0 0]) ?_ 0 _ rfl; (with_reducible repeat (first | refine b1 ?_ _ | refine b3 ?_ | refine b2 ?_ _)); exact BK180.out) hb); have n9_ := c7_ (below_step (by repeat (first | (with_reducible first | exact HB.out | apply c1_ | apply b8 | apply b9 | refine b7 ?_ GE155.out | refine b7 ?_ GE171.out | refine b7 ?_ GE180.out) | exact HB.out)) hb); clear HO159; clear HO164; clear HO169; clear HO174; clear HO179; clear BK155; clear BK171; clear BK180; clear HB; have HO159 := n0_; have HO164 := n1_; have HO169 := n2_; have HO174 := n3_; have HO179 := n4_; have HO185 := n5_; have BK155 := n6_; have BK171 := n7_; have BK180 := n8_; have HB := n9_; clear n0_ n1_ n2_ n3_ n4_ n5_ n6_ n7_ n8_ n9_; (try clear hb); (try clear hb2); (try clear hk); (try clear hi); (try clear ho0)) | ((with_reducible refine gate_dst (N := 10) rfl ?_); refine box_event ?hg (N := 10) ?hd (cs := #[.int .i64 0, .int .i64 0, .slice none 0 0]) (t := 28) ?hr ?_; (case hd => rfl); (case hg => rfl); (case hr => first | (go_simp; done) | (go_simp; rfl)); intro gb187 hg w43 hbox hb; have n0_ := c7_ (c9_ (by (with_reducible repeat (first | apply b4 | apply b5 | apply b6)); exact HO159.out) hb); have n1_ := c7_ (c9_ (by (with_reducible repeat (first | apply b4 | apply b5 | apply b6)); exact HO164.out) hb); have n2_ := c7_ (c9_ (by (with_reducible repeat (first | apply b4 | apply b5 | apply b6)); exact HO169.out) hb); have n3_ := c7_ (c9_ (by (with_reducible repeat (first | apply b4 | apply b5 | apply b6)); exact HO174.out) hb); have n4_ := c7_ (c9_ (by (with_reducible repeat (first | apply b4 | apply b5 | apply b6)); exact HO179.out) hb); have n5_ := c7_ (c9_ (by (with_reducible repeat (first | apply b4 | apply b5 | apply b6)); exact HO185.out) hb); have n6_ := c7_ (c3_ (g := gb155) (o := .cells #[.int .i64 a1_0, .int .i64 a1_1, .slice A1_2 l1_2.length c1_2] 24 (0, 0)) (by (with_reducible repeat (first | refine b1 ?_ _ | refine b3 ?_ | refine b2 ?_ _)); exact BK155.out) hb); have n7_ := c7_ (c3_ (g := gb171) (o := .cells #[.int .i64 t165, .int .i64 t166, .slice Ao30 t167.length co30] 28 (0, 0)) (by (with_reducible repeat (first | refine b1 ?_ _ | refine b3 ?_ | refine b2 ?_ _)); exact BK171.out) hb); have n8_ := c7_ (c3_ (g := gb180) (o := .cells #[.int .i64 t175, .int .i64 t176, .slice Ao40 t177.length co40] 28 (0, 0)) (by (with_reducible repeat (first | refine b1 ?_ _ | refine b3 ?_ | refine b2 ?_ _)); exact BK180.out) hb); have n9_ := c7_ (below_step (by repeat (first | (with_reducible first | exact HB.out | apply c1_ | apply b8 | apply b9 | refine b7 ?_ GE155.out | refine b7 ?_ GE171.out | refine b7 ?_ GE180.out) | exact HB.out)) hb); have n10_ := c7_ (hbox); have n11_ := c7_ ((by rw [hg]; exact (below_size (by repeat (first | (with_reducible first | exact HB.out | apply c1_ | apply b8 | apply b9 | refine b7 ?_ GE155.out | refine b7 ?_ GE171.out | refine b7 ?_ GE180.out) | exact HB.out))) : w.heap.size ≤ gb187)); have n12_ := c7_ ((by rw [hg]; exact (below_size (by repeat (first | (with_reducible first | exact HB.out | apply c1_ | apply b8 | apply b9 | refine b7 ?_ GE155.out | refine b7 ?_ GE171.out | refine b7 ?_ GE180.out) | exact HB.out))) : w.heap.size ≤ gb187)); have n13_ := c7_ ((by rw [hg]; exact d4_ (blk_lt (g := gb155) (o := .cells #[.int .i64 a1_0, .int .i64 a1_1, .slice A1_2 l1_2.length c1_2] 24 (0, 0)) (by (with_reducible repeat (first | refine b1 ?_ _ | refine b3 ?_ | refine b2 ?_ _)); exact BK155.out)) : gb155 ≠ gb187)); have n14_ := c7_ ((by rw [hg]; exact d5_ (blk_lt (g := gb155) (o := .cells #[.int .i64 a1_0, .int .i64 a1_1, .slice A1_2 l1_2.length c1_2] 24 (0, 0)) (by (with_reducible repeat (first | refine b1 ?_ _ | refine b3 ?_ | refine b2 ?_ _)); exact BK155.out)) : gb187 ≠ gb155)); have n15_ := c7_ ((by rw [hg]; exact d4_ (blk_lt (g := gb171) (o := .cells #[.int .i64 t165, .int .i64 t166, .slice Ao30 t167.length co30] 28 (0, 0)) (by (with_reducible repeat (first | refine b1 ?_ _ | refine b3 ?_ | refine b2 ?_ _)); exact BK171.out)) : gb171 ≠ gb187)); have n16_ := c7_ ((by rw [hg]; exact d5_ (blk_lt (g := gb171) (o := .cells #[.int .i64 t165, .int .i64 t166, .slice Ao30 t167.length co30] 28 (0, 0)) (by (with_reducible repeat (first | refine b1 ?_ _ | refine b3 ?_ | refine b2 ?_ _)); exact BK171.out)) : gb187 ≠ gb171)); have n17_ := c7_ ((by rw [hg]; exact d4_ (blk_lt (g := gb180) (o := .cells #[.int .i64 t175, .int .i64 t176, .slice Ao40 t177.length co40] 28 (0, 0)) (by (with_reducible repeat (first | refine b1 ?_ _ | refine b3 ?_ | refine b2 ?_ _)); exact BK180.out)) : gb180 ≠ gb187)); have n18_ := c7_ ((by rw [hg]; exact d5_ (blk_lt (g := gb180) (o := .cells #[.int .i64 t175, .int .i64 t176, .slice Ao40 t177.length co40] 28 (0, 0)) (by (with_reducible repeat (first | refine b1 ?_ _ | refine b3 ?_ | refine b2 ?_ _)); exact BK180.out)) : gb187 ≠ gb180)); clear HO159; clear HO164; clear HO169; clear HO174; clear HO179; clear HO185; clear BK155; clear BK171; clear BK180; clear HB; have HO159 := n0_; have HO164 := n1_; have HO169 := n2_; have HO174 := n3_; have HO179 := n4_; have HO185 := n5_; have BK155 := n6_; have BK171 := n7_; have BK180 := n8_; have HB := n9_; have BK187 := n10_; have GW187 := n11_; have GE187 := n12_; have NB155_187 := n13_; have NB187_155 := n14_; have NB171_187 := n15_; have NB187_171 := n16_; have NB180_187 := n17_; have NB187_180 := n18_; clear n0_ n1_ n2_ n3_ n4_ n5_ n6_ n7_ n8_ n9_ n10_ n11_ n12_ n13_ n14_ n15_ n16_ n17_ n18_; clear hb hbox hg; have hnb44 := NB187_155.out; have hnc44 := NB155_187.out; have hnb45 := NB187_171.out; have hnc45 := NB171_187.out; have hnb46 := NB187_180.out; have hnc46 := NB180_187.out; have hcz47_0 : w43.cell? ⟨gb187, 0, none⟩ = some (.int .i64 0) := (c2_ BK187.out 0).trans rfl; have hcz47_1 : w43.cell? ⟨gb187, 1, none⟩ = some (.int .i64 0) := (c2_ BK187.out 1).trans rfl; have hcz47_2 : w43.cell? ⟨gb187, 2, none⟩ = some (.slice none 0 0) := (c2_ BK187.out 2).trans rfl; have hfz47_0 := blk_frozen BK187.out 0; have hfz47_1 := blk_frozen BK187.out 1; have hfz47_2 := blk_frozen BK187.out 2; obtain ⟨Ao48, co48, eo48⟩ := Kd.R_slice HO185.out; subst eo48))
 (try simp only [Act.put, c4_, c5_, c6_])
 go_cut [51] (fun v51 wc => ∃ (kq : Nat) (x51_15 : Bool), v51 = .bool x51_15 ∧ Aside0 (laws_FnExactUndo.j0 kq l0 t170 t172 t186 x51_15 a1_0 a1_1 l1_2 t165 t166 t167 t175 t176 t177 t181 t182 t183 = some r) ∧ Aside0 (kq ≤ k) ∧ Aside0 (Kd.R (Kd.int .i64) 3 wc w.heap.size (fun k_ => some k_ ≠ ((.slice Ao30 t167.length co30) : Value).ownBlock ∧ some k_ ≠ ((.slice Ao40 t177.length co40) : Value).ownBlock ∧ some k_ ≠ ((.slice Ao48 t183.length co48) : Value).ownBlock) (.slice Ao41 t172.length co41) t172) ∧ Aside0 (Kd.R (Kd.int .i64) 3 wc w.heap.size (fun k_ => some k_ ≠ ((.slice Ao41 t172.length co41) : Value).ownBlock ∧ some k_ ≠ ((.slice Ao40 t177.length co40) : Value).ownBlock ∧ some k_ ≠ ((.slice Ao48 t183.length co48) : Value).ownBlock) (.slice Ao30 t167.length co30) t167) ∧ Aside0 (Kd.R (Kd.int .i64) 3 wc w.heap.size (fun k_ => some k_ ≠ ((.slice Ao41 t172.length co41) : Value).ownBlock ∧ some k_ ≠ ((.slice Ao30 t167.length co30) : Value).ownBlock ∧ some k_ ≠ ((.slice Ao48 t183.length co48) : Value).ownBlock) (.slice Ao40 t177.length co40) t177) ∧ Aside0 (Kd.R (Kd.int .i64) 3 wc w.heap.size (fun k_ => some k_ ≠ ((.slice Ao41 t172.length co41) : Value).ownBlock ∧ some k_ ≠ ((.slice Ao30 t167.length co30) : Value).ownBlock ∧ some k_ ≠ ((.slice Ao40 t177.length co40) : Value).ownBlock) (.slice Ao48 t183.length co48) t183) ∧ Aside0 (wc.heap[gb155]? = some (.cells #[.int .i64 a1_0, .int .i64 a1_1, (.slice A1_2 l1_2.length c1_2)] 24 (0, 0))) ∧ Aside0 (wc.heap[gb171]? = some (.cells #[.int .i64 t165, .int .i64 t166, (.slice Ao30 t167.length co30)] 28 (0, 0))) ∧ Aside0 (wc.heap[gb180]? = some (.cells #[.int .i64 t175, .int .i64 t176, (.slice Ao40 t177.length co40)] 28 (0, 0))) ∧ Aside0 (wc.heap[gb187]? = some (.cells #[.int .i64 t181, .int .i64 t182, (.slice Ao48 t183.length co48)] 28 (0, 0))) ∧ Aside0 (Below w.heap.size w wc))
 case first =>
  have H := HC16.out
  clear HC16
  replace H := Option.bind_eq_some_iff.mp H
  obtain ⟨t188, A490, H⟩ := H
  try dsimp only at H
  have A49 := c7_ A490
  clear A490
  by_cases c50 : t188 = true
  ·
   subst c50
   rw [if_pos rfl] at H
   have H' := c7_ H
   clear H
   have hnb51 := NB187_155.out
   have hnc51 := NB155_187.out
   have hnb52 := NB187_171.out
   have hnc52 := NB171_187.out
   have hnb53 := NB187_180.out
   have hnc53 := NB180_187.out
   have hcz54_0 : w43.cell? ⟨gb187, 0, none⟩ = some (.int .i64 0) := (c2_ BK187.out 0).trans rfl
   have hcz54_1 : w43.cell? ⟨gb187, 1, none⟩ = some (.int .i64 0) := (c2_ BK187.out 1).trans rfl
   have hcz54_2 : w43.cell? ⟨gb187, 2, none⟩ = some (.slice none 0 0) := (c2_ BK187.out 2).trans rfl
   have hfz54_0 := blk_frozen BK187.out 0
   have hfz54_1 := blk_frozen BK187.out 1
   have hfz54_2 := blk_frozen BK187.out 2
   have hnb55 := NB171_155.out
   have hnc55 := NB155_171.out
   have hnb56 := NB171_180.out
   have hnc56 := NB180_171.out
   have hcz57_0 : w43.cell? ⟨gb171, 0, none⟩ = some (.int .i64 t165) := (c2_ BK171.out 0).trans rfl
   have hcz57_1 : w43.cell? ⟨gb171, 1, none⟩ = some (.int .i64 t166) := (c2_ BK171.out 1).trans rfl
   have hcz57_2 : w43.cell? ⟨gb171, 2, none⟩ = some (.slice Ao30 t167.length co30) := (c2_ BK171.out 2).trans rfl
   have hfz57_0 := blk_frozen BK171.out 0
   have hfz57_1 := blk_frozen BK171.out 1
   have hfz57_2 := blk_frozen BK171.out 2
   go_wp2_with (first | ((with_reducible refine gate_callee (f := 20) rfl ?_); refine goesL_ (some 45) rfl rfl Try.func20 (by kernel_rfl) rfl #[.agg #[.int .i64 t181, .int .i64 t182, .slice Ao48 t183.length co48], .agg #[.int .i64 t165, .int .i64 t166, .slice Ao30 t167.length co30]] rfl (by (try simp only [List.map_toArray, List.map_cons, List.map_nil]); first | done | rfl | (simp only [List.length_drop, List.length_take]; rfl)) ?_; (with_reducible refine (laws_eqAmend.calls k t181 t182 _ _ t183 t165 t166 _ _ t167 true _ ?side1 ?side2 ?side3 ?side4 A49.out).mono ?_); (case side1 => refine (Kd.R_reads' (e := 3) (base := w.heap.size) (ok := fun k_ => (((((True ∧ some k_ ≠ (v158 : Value).ownBlock) ∧ some k_ ≠ (v163 : Value).ownBlock) ∧ some k_ ≠ (.slice Ao30 t167.length co30 : Value).ownBlock) ∧ some k_ ≠ (.slice Ao41 t172.length co41 : Value).ownBlock) ∧ some k_ ≠ (.slice Ao40 t177.length co40 : Value).ownBlock)) (n := t183.length) (c := co48) ?_).2.2; exact (by (with_reducible repeat (first | apply b4 | apply b5 | apply b6)); exact (d2_ (Kd.R_far (p := ⟨gb187, 2, none⟩) (Kd.R_far (p := ⟨gb187, 1, none⟩) (Kd.R_far (p := ⟨gb187, 0, none⟩) (Kd.R_types HO185.out BK187.out (by decide)) (fun _ hk => hk.2) (.int .i64 t181)) (fun _ hk => hk.2) (.int .i64 t182)) (fun _ hk => hk.2) (.slice Ao48 t183.length co48)) (fun _ h_ => h_.1)))); (case side2 => exact (Kd.R_reads' HO185.out).2.1); (case side3 => refine (Kd.R_reads' (e := 3) (base := w.heap.size) (ok := fun k_ => ((((some k_ ≠ (v158 : Value).ownBlock ∧ some k_ ≠ (v163 : Value).ownBlock) ∧ some k_ ≠ (.slice Ao41 t172.length co41 : Value).ownBlock) ∧ some k_ ≠ (.slice Ao40 t177.length co40 : Value).ownBlock) ∧ some k_ ≠ (.slice Ao48 t183.length co48 : Value).ownBlock)) (n := t167.length) (c := co30) ?_).2.2; exact (by (with_reducible repeat (first | apply b4 | apply b5 | apply b6)); exact (d2_ (Kd.R_far (p := ⟨gb187, 2, none⟩) (Kd.R_far (p := ⟨gb187, 1, none⟩) (Kd.R_far (p := ⟨gb187, 0, none⟩) (Kd.R_types HO169.out BK187.out (by decide)) (fun _ hk => hk.2) (.int .i64 t181)) (fun _ hk => hk.2) (.int .i64 t182)) (fun _ hk => hk.2) (.slice Ao48 t183.length co48)) (fun _ h_ => h_.1)))); (case side4 => exact (Kd.R_reads' HO169.out).2.1); rintro e w58 ⟨rfl, hb⟩; refine ⟨_, rfl, ?_⟩; have n0_ := c7_ (c9_ (by (with_reducible repeat (first | apply b4 | apply b5 | apply b6)); exact (d2_ (Kd.R_far (p := ⟨gb187, 2, none⟩) (Kd.R_far (p := ⟨gb187, 1, none⟩) (Kd.R_far (p := ⟨gb187, 0, none⟩) (Kd.R_types HO159.out BK187.out (by decide)) (fun _ hk => hk.2) (.int .i64 t181)) (fun _ hk => hk.2) (.int .i64 t182)) (fun _ hk => hk.2) (.slice Ao48 t183.length co48)) (fun _ h_ => h_.1))) hb); have n1_ := c7_ (c9_ (by (with_reducible repeat (first | apply b4 | apply b5 | apply b6)); exact (d2_ (Kd.R_far (p := ⟨gb187, 2, none⟩) (Kd.R_far (p := ⟨gb187, 1, none⟩) (Kd.R_far (p := ⟨gb187, 0, none⟩) (Kd.R_types HO164.out BK187.out (by decide)) (fun _ hk => hk.2) (.int .i64 t181)) (fun _ hk => hk.2) (.int .i64 t182)) (fun _ hk => hk.2) (.slice Ao48 t183.length co48)) (fun _ h_ => h_.1))) hb); have n2_ := c7_ (c9_ (by (with_reducible repeat (first | apply b4 | apply b5 | apply b6)); exact (d2_ (Kd.R_far (p := ⟨gb187, 2, none⟩) (Kd.R_far (p := ⟨gb187, 1, none⟩) (Kd.R_far (p := ⟨gb187, 0, none⟩) (Kd.R_types HO169.out BK187.out (by decide)) (fun _ hk => hk.2) (.int .i64 t181)) (fun _ hk => hk.2) (.int .i64 t182)) (fun _ hk => hk.2) (.slice Ao48 t183.length co48)) (fun _ h_ => h_.1))) hb); have n3_ := c7_ (c9_ (by (with_reducible repeat (first | apply b4 | apply b5 | apply b6)); exact (d2_ (Kd.R_far (p := ⟨gb187, 2, none⟩) (Kd.R_far (p := ⟨gb187, 1, none⟩) (Kd.R_far (p := ⟨gb187, 0, none⟩) (Kd.R_types HO174.out BK187.out (by decide)) (fun _ hk => hk.2) (.int .i64 t181)) (fun _ hk => hk.2) (.int .i64 t182)) (fun _ hk => hk.2) (.slice Ao48 t183.length co48)) (fun _ h_ => h_.1))) hb); have n4_ := c7_ (c9_ (by (with_reducible repeat (first | apply b4 | apply b5 | apply b6)); exact (d2_ (Kd.R_far (p := ⟨gb187, 2, none⟩) (Kd.R_far (p := ⟨gb187, 1, none⟩) (Kd.R_far (p := ⟨gb187, 0, none⟩) (Kd.R_types HO179.out BK187.out (by decide)) (fun _ hk => hk.2) (.int .i64 t181)) (fun _ hk => hk.2) (.int .i64 t182)) (fun _ hk => hk.2) (.slice Ao48 t183.length co48)) (fun _ h_ => h_.1))) hb); have n5_ := c7_ (c9_ (by (with_reducible repeat (first | apply b4 | apply b5 | apply b6)); exact (d2_ (Kd.R_far (p := ⟨gb187, 2, none⟩) (Kd.R_far (p := ⟨gb187, 1, none⟩) (Kd.R_far (p := ⟨gb187, 0, none⟩) (Kd.R_types HO185.out BK187.out (by decide)) (fun _ hk => hk.2) (.int .i64 t181)) (fun _ hk => hk.2) (.int .i64 t182)) (fun _ hk => hk.2) (.slice Ao48 t183.length co48)) (fun _ h_ => h_.1))) hb); have n6_ := c7_ (c3_ (g := gb155) (o := .cells #[.int .i64 a1_0, .int .i64 a1_1, .slice A1_2 l1_2.length c1_2] 24 (0, 0)) (by (with_reducible repeat (first | refine b1 ?_ _ | refine b3 ?_ | refine b2 ?_ _)); refine blk_far ?_ NB155_187.out _; (with_reducible repeat (first | refine b1 ?_ _ | refine b3 ?_ | refine b2 ?_ _)); refine blk_far ?_ NB155_187.out _; (with_reducible repeat (first | refine b1 ?_ _ | refine b3 ?_ | refine b2 ?_ _)); refine blk_far ?_ NB155_187.out _; (with_reducible repeat (first | refine b1 ?_ _ | refine b3 ?_ | refine b2 ?_ _)); exact BK155.out) hb); have n7_ := c7_ (c3_ (g := gb171) (o := .cells #[.int .i64 t165, .int .i64 t166, .slice Ao30 t167.length co30] 28 (0, 0)) (by (with_reducible repeat (first | refine b1 ?_ _ | refine b3 ?_ | refine b2 ?_ _)); refine blk_far ?_ NB171_187.out _; (with_reducible repeat (first | refine b1 ?_ _ | refine b3 ?_ | refine b2 ?_ _)); refine blk_far ?_ NB171_187.out _; (with_reducible repeat (first | refine b1 ?_ _ | refine b3 ?_ | refine b2 ?_ _)); refine blk_far ?_ NB171_187.out _; (with_reducible repeat (first | refine b1 ?_ _ | refine b3 ?_ | refine b2 ?_ _)); exact BK171.out) hb); have n8_ := c7_ (c3_ (g := gb180) (o := .cells #[.int .i64 t175, .int .i64 t176, .slice Ao40 t177.length co40] 28 (0, 0)) (by (with_reducible repeat (first | refine b1 ?_ _ | refine b3 ?_ | refine b2 ?_ _)); refine blk_far ?_ NB180_187.out _; (with_reducible repeat (first | refine b1 ?_ _ | refine b3 ?_ | refine b2 ?_ _)); refine blk_far ?_ NB180_187.out _; (with_reducible repeat (first | refine b1 ?_ _ | refine b3 ?_ | refine b2 ?_ _)); refine blk_far ?_ NB180_187.out _; (with_reducible repeat (first | refine b1 ?_ _ | refine b3 ?_ | refine b2 ?_ _)); exact BK180.out) hb); have n9_ := c7_ (c3_ (g := gb187) (o := .cells #[.int .i64 t181, .int .i64 t182, .slice Ao48 t183.length co48] 28 (0, 0)) (by (with_reducible repeat (first | refine b1 ?_ _ | refine b3 ?_ | refine b2 ?_ _)); refine blk_put (cs := #[.int .i64 t181, .int .i64 t182, .slice none 0 0]) ?_ 2 _ rfl; (with_reducible repeat (first | refine b1 ?_ _ | refine b3 ?_ | refine b2 ?_ _)); refine blk_put (cs := #[.int .i64 t181, .int .i64 0, .slice none 0 0]) ?_ 1 _ rfl; (with_reducible repeat (first | refine b1 ?_ _ | refine b3 ?_ | refine b2 ?_ _)); refine blk_put (cs := #[.int .i64 0, .int .i64 0, .slice none 0 0]) ?_ 0 _ rfl; (with_reducible repeat (first | refine b1 ?_ _ | refine b3 ?_ | refine b2 ?_ _)); exact BK187.out) hb); have n10_ := c7_ (below_step (by repeat (first | (with_reducible first | exact HB.out | apply c1_ | apply b8 | apply b9 | refine b7 ?_ GE155.out | refine b7 ?_ GE171.out | refine b7 ?_ GE180.out | refine b7 ?_ GE187.out) | exact HB.out)) hb); clear HO159; clear HO164; clear HO169; clear HO174; clear HO179; clear HO185; clear BK155; clear BK171; clear BK180; clear BK187; clear HB; have HO159 := n0_; have HO164 := n1_; have HO169 := n2_; have HO174 := n3_; have HO179 := n4_; have HO185 := n5_; have BK155 := n6_; have BK171 := n7_; have BK180 := n8_; have BK187 := n9_; have HB := n10_; clear n0_ n1_ n2_ n3_ n4_ n5_ n6_ n7_ n8_ n9_ n10_; (try clear hb); (try clear hb2); (try clear hk); (try clear hi)))
   go_meet
   case rel => exact ⟨_, ((t186 != t170)), (by first | rfl | (simp; done) | (simp [*]; done)), H', ⟨by first | omega | exact Nat.le_refl _⟩, ⟨by (with_reducible repeat (first | apply b4 | apply b5 | apply b6)); exact d2_ HO174.out (fun _ hk => ⟨hk.1.1.2, ⟨hk.1.2, hk.2⟩⟩)⟩, ⟨by (with_reducible repeat (first | apply b4 | apply b5 | apply b6)); exact d2_ HO169.out (fun _ hk => ⟨hk.1.1.2, ⟨hk.1.2, hk.2⟩⟩)⟩, ⟨by (with_reducible repeat (first | apply b4 | apply b5 | apply b6)); exact d2_ HO179.out (fun _ hk => ⟨hk.1.2, ⟨hk.1.1.2, hk.2⟩⟩)⟩, ⟨by (with_reducible repeat (first | apply b4 | apply b5 | apply b6)); exact d2_ HO185.out (fun _ hk => ⟨hk.1.2, ⟨hk.1.1.2, hk.2⟩⟩)⟩, ⟨by (with_reducible repeat (first | refine b1 ?_ _ | refine b3 ?_ | refine b2 ?_ _)); exact BK155.out⟩, ⟨by (with_reducible repeat (first | refine b1 ?_ _ | refine b3 ?_ | refine b2 ?_ _)); exact BK171.out⟩, ⟨by (with_reducible repeat (first | refine b1 ?_ _ | refine b3 ?_ | refine b2 ?_ _)); exact BK180.out⟩, ⟨by (with_reducible repeat (first | refine b1 ?_ _ | refine b3 ?_ | refine b2 ?_ _)); exact BK187.out⟩, ⟨by repeat (first | (with_reducible first | exact HB.out | apply c1_ | apply b8 | apply b9 | refine b7 ?_ GE155.out | refine b7 ?_ GE171.out | refine b7 ?_ GE180.out | refine b7 ?_ GE187.out) | exact HB.out)⟩⟩
  replace c50 := Bool.eq_false_iff.mpr c50
  subst c50
  have H1 : (laws_FnExactUndo.j0 k l0 t170 t172 t186 true a1_0 a1_1 l1_2 t165 t166 t167 t175 t176 t177 t181 t182 t183) = some r := by rw [if_neg (show ¬ (false = true) by decide)] at H; exact H
  clear H
  have H := H1
  clear H1
  exact absurd (H.trans (congrArg some hr_)) (fun h_ => laws_FnExactUndo.j0_no _ _ _ _ _ _ _ _ _ _ _ _ _ _ _ _ _ h_)
 case rest =>
  clear HC16
  try clear c1
  try clear c2
  try clear p2
  try clear c3
  try clear c4
  try clear c5
  try clear c6
  try clear c16
  try clear c17
  try clear c20
  try clear c28
  try clear c29
  try clear c33
  try clear c37
  try clear c38
  try clear c44
  try clear c45
  try clear c46
  try clear c50
  try clear c51
  try clear c52
  try clear c53
  try clear c55
  try clear c56
  try clear c59
  try clear c60
  try clear c61
  try clear c63
  try clear c64
  try clear hcz34_0
  try clear hcz34_1
  try clear hcz34_2
  try clear hcz39_0
  try clear hcz39_1
  try clear hcz39_2
  try clear hcz47_0
  try clear hcz47_1
  try clear hcz47_2
  try clear hcz54_0
  try clear hcz54_1
  try clear hcz54_2
  try clear hcz57_0
  try clear hcz57_1
  try clear hcz57_2
  try clear hcz62_0
  try clear hcz62_1
  try clear hcz62_2
  try clear hcz65_0
  try clear hcz65_1
  try clear hcz65_2
  try clear hfz34_0
  try clear hfz34_1
  try clear hfz34_2
  try clear hfz39_0
  try clear hfz39_1
  try clear hfz39_2
  try clear hfz47_0
  try clear hfz47_1
  try clear hfz47_2
  try clear hfz54_0
  try clear hfz54_1
  try clear hfz54_2
  try clear hfz57_0
  try clear hfz57_1
  try clear hfz57_2
  try clear hfz62_0
  try clear hfz62_1
  try clear hfz62_2
  try clear hfz65_0
  try clear hfz65_1
  try clear hfz65_2
  obtain ⟨kq, x51_15, rfl, HA, HJ15, HO_8, HO_172002, HO_181002, HO_188002, BK155, BK171, BK180, BK187, HB⟩ := hcut
  cases kq with
  | zero => exact absurd HA.out (by simp [laws_FnExactUndo.j0])
  | succ kj15 =>
   have H := HA.out
   clear HA
   simp only [laws_FnExactUndo.j0] at H
   by_cases c67 : x51_15 = true
   ·
    subst c67
    rw [if_pos rfl] at H
    exact absurd ((Option.some.inj H).trans hr_) (by decide)
   replace c67 := Bool.eq_false_iff.mpr c67
   subst c67
   have H1 : ((laws_toIntS.f kj15 l0).bind fun t189 => ((laws_eqIntS.f kj15 t172 t189).bind fun t192 => (if t192 = true then ((laws_toAmend.f kj15 a1_0 a1_1 l1_2).bind fun bt193 => ((laws_eqAmend.f kj15 t175 t176 t177 bt193.1 bt193.2.1 bt193.2.2).bind fun t198 => (if t198 = true then ((laws_markIntS.f kj15 t172 1).bind fun bt199 => ((laws_markAmend.f kj15 t175 t176 t177 bt199.1).bind fun bt201 => (if bt201.1 < 0 then (laws_FnExactUndo.j1 kj15 l0 t170 true a1_0 a1_1 l1_2 t165 t166 t167 t181 t182 t183) else ((laws_eqAmend.f kj15 t181 t182 t183 t165 t166 t167).bind fun t203 => (if t203 = true then (laws_FnExactUndo.j1 kj15 l0 t170 (t186 != t170) a1_0 a1_1 l1_2 t165 t166 t167 t181 t182 t183) else (laws_FnExactUndo.j1 kj15 l0 t170 true a1_0 a1_1 l1_2 t165 t166 t167 t181 t182 t183)))))) else (some false)))) else (some false)))) = some r := by rw [if_neg (show ¬ (false = true) by decide)] at H; exact H
   clear H
   have H := H1
   clear H1
   replace H := Option.bind_eq_some_iff.mp H
   obtain ⟨t189, A680, H⟩ := H
   try dsimp only at H
   have A68 := c7_ A680
   clear A680
   replace H := Option.bind_eq_some_iff.mp H
   obtain ⟨t192, A690, H⟩ := H
   try dsimp only at H
   have A69 := c7_ A690
   clear A690
   by_cases c70 : t192 = true
   ·
    subst c70
    rw [if_pos rfl] at H
    replace H := Option.bind_eq_some_iff.mp H
    obtain ⟨⟨t193, t194, t195⟩, A710, H⟩ := H
    try dsimp only at H
    have A71 := c7_ A710
    clear A710
    replace H := Option.bind_eq_some_iff.mp H
    obtain ⟨t198, A720, H⟩ := H
    try dsimp only at H
    have A72 := c7_ A720
    clear A720
    by_cases c73 : t198 = true
    ·
     subst c73
     rw [if_pos rfl] at H
     replace H := Option.bind_eq_some_iff.mp H
     obtain ⟨⟨t199, t200⟩, A740, H⟩ := H
     try dsimp only at H
     have A74 := c7_ A740
     clear A740
     replace H := Option.bind_eq_some_iff.mp H
     obtain ⟨⟨t201, t202⟩, A750, H⟩ := H
     try dsimp only at H
     have A75 := c7_ A750
     clear A750
     have HC76 := c7_ H
     clear H
     try go_wp2_with (first | ((with_reducible refine gate_callee (f := 16) rfl ?_); refine goesL_ (some 54) rfl rfl Try.func16 (by kernel_rfl) rfl #[.slice A0 l0.length c0] rfl (by (try simp only [List.map_toArray, List.map_cons, List.map_nil]); first | done | rfl | (simp only [List.length_drop, List.length_take]; rfl)) ?_; (with_reducible refine (laws_toIntS.calls kj15 _ _ l0 t189 _ ?side1 ?side2 A68.out).mono ?_); (case side1 => repeat (first | exact (Kd.C_below HR0.out HB.out) | (with_reducible refine Kd.C_alloc ?_ _) | (with_reducible refine Kd.C_drewN ?_ _) | (with_reducible refine Kd.C_drew ?_))); (case side2 => exact HC0.out); rintro e w77 ⟨v190, rfl, ho0, hb⟩; refine ⟨_, rfl, ?_⟩; have n0_ := c7_ (c8_ (by (with_reducible repeat (first | apply b4 | apply b5 | apply b6)); exact HO_8.out) (Kd.R_base ho0) hb); have n1_ := c7_ (c8_ (by (with_reducible repeat (first | apply b4 | apply b5 | apply b6)); exact HO_172002.out) (Kd.R_base ho0) hb); have n2_ := c7_ (c8_ (by (with_reducible repeat (first | apply b4 | apply b5 | apply b6)); exact HO_181002.out) (Kd.R_base ho0) hb); have n3_ := c7_ (c8_ (by (with_reducible repeat (first | apply b4 | apply b5 | apply b6)); exact HO_188002.out) (Kd.R_base ho0) hb); have n4_ := c7_ (Kd.R_lower (Kd.R_new' (Kd.R_new' (Kd.R_new' (Kd.R_new' ho0 (Kd.R_lt (by (with_reducible repeat (first | apply b4 | apply b5 | apply b6)); exact HO_8.out))) (Kd.R_lt (by (with_reducible repeat (first | apply b4 | apply b5 | apply b6)); exact HO_172002.out))) (Kd.R_lt (by (with_reducible repeat (first | apply b4 | apply b5 | apply b6)); exact HO_181002.out))) (Kd.R_lt (by (with_reducible repeat (first | apply b4 | apply b5 | apply b6)); exact HO_188002.out))) (below_size (by repeat (first | (with_reducible first | exact HB.out | apply c1_ | apply b8 | apply b9 | refine b7 ?_ GE155.out | refine b7 ?_ GE171.out | refine b7 ?_ GE180.out | refine b7 ?_ GE187.out) | exact HB.out)))); have n5_ := c7_ (c3_ (g := gb155) (o := .cells #[.int .i64 a1_0, .int .i64 a1_1, .slice A1_2 l1_2.length c1_2] 24 (0, 0)) (by (with_reducible repeat (first | refine b1 ?_ _ | refine b3 ?_ | refine b2 ?_ _)); exact BK155.out) hb); have n6_ := c7_ (c3_ (g := gb171) (o := .cells #[.int .i64 t165, .int .i64 t166, .slice Ao30 t167.length co30] 28 (0, 0)) (by (with_reducible repeat (first | refine b1 ?_ _ | refine b3 ?_ | refine b2 ?_ _)); exact BK171.out) hb); have n7_ := c7_ (c3_ (g := gb180) (o := .cells #[.int .i64 t175, .int .i64 t176, .slice Ao40 t177.length co40] 28 (0, 0)) (by (with_reducible repeat (first | refine b1 ?_ _ | refine b3 ?_ | refine b2 ?_ _)); exact BK180.out) hb); have n8_ := c7_ (c3_ (g := gb187) (o := .cells #[.int .i64 t181, .int .i64 t182, .slice Ao48 t183.length co48] 28 (0, 0)) (by (with_reducible repeat (first | refine b1 ?_ _ | refine b3 ?_ | refine b2 ?_ _)); exact BK187.out) hb); have n9_ := c7_ (below_step (by repeat (first | (with_reducible first | exact HB.out | apply c1_ | apply b8 | apply b9 | refine b7 ?_ GE155.out | refine b7 ?_ GE171.out | refine b7 ?_ GE180.out | refine b7 ?_ GE187.out) | exact HB.out)) hb); clear HO_8; clear HO_172002; clear HO_181002; clear HO_188002; clear BK155; clear BK171; clear BK180; clear BK187; clear HB; have HO_8 := n0_; have HO_172002 := n1_; have HO_181002 := n2_; have HO_188002 := n3_; have HO191 := n4_; have BK155 := n5_; have BK171 := n6_; have BK180 := n7_; have BK187 := n8_; have HB := n9_; clear n0_ n1_ n2_ n3_ n4_ n5_ n6_ n7_ n8_ n9_; (try clear hb); (try clear hb2); (try clear hk); (try clear hi); (try clear ho0); obtain ⟨Ao78, co78, eo78⟩ := Kd.R_slice HO191.out; subst eo78) | ((with_reducible refine gate_callee (f := 19) rfl ?_); refine goesL_ (some 55) rfl rfl Try.func19 (by kernel_rfl) rfl #[.slice Ao41 t172.length co41, .slice Ao78 t189.length co78] rfl (by (try simp only [List.map_toArray, List.map_cons, List.map_nil]); first | done | rfl | (simp only [List.length_drop, List.length_take]; rfl)) ?_; (with_reducible refine (laws_eqIntS.calls kj15 _ _ t172 _ _ t189 true _ ?side1 ?side2 ?side3 ?side4 A69.out).mono ?_); (case side1 => repeat (first | exact (Kd.R_reads' HO_8.out).2.2 | (with_reducible refine Kd.C_alloc ?_ _) | (with_reducible refine Kd.C_drewN ?_ _) | (with_reducible refine Kd.C_drew ?_))); (case side2 => exact (Kd.R_reads' HO_8.out).2.1); (case side3 => repeat (first | exact (Kd.R_reads' HO191.out).2.2 | (with_reducible refine Kd.C_alloc ?_ _) | (with_reducible refine Kd.C_drewN ?_ _) | (with_reducible refine Kd.C_drew ?_))); (case side4 => exact (Kd.R_reads' HO191.out).2.1); rintro e w' ⟨rfl, ⟨nd, rfl⟩⟩; refine ⟨_, rfl, ?_⟩))
     (try (rw [drewN_self w77]; generalize hq_ : World.drewN w77 _ = w77; have n0_ : Aside0 (Kd.R (Kd.int .i64) 3 w77 w.heap.size (fun k_ => some k_ ≠ (.slice Ao30 t167.length co30 : Value).ownBlock ∧ some k_ ≠ (.slice Ao40 t177.length co40 : Value).ownBlock ∧ some k_ ≠ (.slice Ao48 t183.length co48 : Value).ownBlock ∧ some k_ ≠ (.slice Ao41 t172.length co41 : Value).ownBlock) (.slice Ao78 t189.length co78) t189) := ⟨by rw [← hq_]; exact (by (with_reducible repeat (first | apply b4 | apply b5 | apply b6)); exact d2_ HO191.out (fun _ hk => ⟨hk.1.1.2, ⟨hk.1.2, ⟨hk.2, hk.1.1.1.2⟩⟩⟩))⟩; have n1_ : Aside0 (Kd.R (Kd.int .i64) 3 w77 w.heap.size (fun k_ => some k_ ≠ (.slice Ao78 t189.length co78 : Value).ownBlock ∧ some k_ ≠ (.slice Ao40 t177.length co40 : Value).ownBlock ∧ some k_ ≠ (.slice Ao48 t183.length co48 : Value).ownBlock ∧ some k_ ≠ (.slice Ao41 t172.length co41 : Value).ownBlock) (.slice Ao30 t167.length co30) t167) := ⟨by rw [← hq_]; exact (by (with_reducible repeat (first | apply b4 | apply b5 | apply b6)); exact d2_ HO_172002.out (fun _ hk => ⟨hk.2, ⟨hk.1.2.1, ⟨hk.1.2.2, hk.1.1⟩⟩⟩))⟩; have n2_ : Aside0 (Kd.R (Kd.int .i64) 3 w77 w.heap.size (fun k_ => some k_ ≠ (.slice Ao78 t189.length co78 : Value).ownBlock ∧ some k_ ≠ (.slice Ao30 t167.length co30 : Value).ownBlock ∧ some k_ ≠ (.slice Ao48 t183.length co48 : Value).ownBlock ∧ some k_ ≠ (.slice Ao41 t172.length co41 : Value).ownBlock) (.slice Ao40 t177.length co40) t177) := ⟨by rw [← hq_]; exact (by (with_reducible repeat (first | apply b4 | apply b5 | apply b6)); exact d2_ HO_181002.out (fun _ hk => ⟨hk.2, ⟨hk.1.2.1, ⟨hk.1.2.2, hk.1.1⟩⟩⟩))⟩; have n3_ : Aside0 (Kd.R (Kd.int .i64) 3 w77 w.heap.size (fun k_ => some k_ ≠ (.slice Ao78 t189.length co78 : Value).ownBlock ∧ some k_ ≠ (.slice Ao30 t167.length co30 : Value).ownBlock ∧ some k_ ≠ (.slice Ao40 t177.length co40 : Value).ownBlock ∧ some k_ ≠ (.slice Ao41 t172.length co41 : Value).ownBlock) (.slice Ao48 t183.length co48) t183) := ⟨by rw [← hq_]; exact (by (with_reducible repeat (first | apply b4 | apply b5 | apply b6)); exact d2_ HO_188002.out (fun _ hk => ⟨hk.2, ⟨hk.1.2.1, ⟨hk.1.2.2, hk.1.1⟩⟩⟩))⟩; have n4_ : Aside0 (Kd.R (Kd.int .i64) 3 w77 w.heap.size (fun k_ => some k_ ≠ (.slice Ao78 t189.length co78 : Value).ownBlock ∧ some k_ ≠ (.slice Ao30 t167.length co30 : Value).ownBlock ∧ some k_ ≠ (.slice Ao40 t177.length co40 : Value).ownBlock ∧ some k_ ≠ (.slice Ao48 t183.length co48 : Value).ownBlock) (.slice Ao41 t172.length co41) t172) := ⟨by rw [← hq_]; exact (by (with_reducible repeat (first | apply b4 | apply b5 | apply b6)); exact d2_ HO_8.out (fun _ hk => ⟨hk.2, ⟨hk.1.1, ⟨hk.1.2.1, hk.1.2.2⟩⟩⟩))⟩; have n5_ : Aside0 (w77.heap[gb155]? = some (.cells #[.int .i64 a1_0, .int .i64 a1_1, .slice A1_2 l1_2.length c1_2] 24 (0, 0))) := ⟨by rw [← hq_]; exact (by (with_reducible repeat (first | refine b1 ?_ _ | refine b3 ?_ | refine b2 ?_ _)); exact BK155.out)⟩; have n6_ : Aside0 (w77.heap[gb171]? = some (.cells #[.int .i64 t165, .int .i64 t166, .slice Ao30 t167.length co30] 28 (0, 0))) := ⟨by rw [← hq_]; exact (by (with_reducible repeat (first | refine b1 ?_ _ | refine b3 ?_ | refine b2 ?_ _)); exact BK171.out)⟩; have n7_ : Aside0 (w77.heap[gb180]? = some (.cells #[.int .i64 t175, .int .i64 t176, .slice Ao40 t177.length co40] 28 (0, 0))) := ⟨by rw [← hq_]; exact (by (with_reducible repeat (first | refine b1 ?_ _ | refine b3 ?_ | refine b2 ?_ _)); exact BK180.out)⟩; have n8_ : Aside0 (w77.heap[gb187]? = some (.cells #[.int .i64 t181, .int .i64 t182, .slice Ao48 t183.length co48] 28 (0, 0))) := ⟨by rw [← hq_]; exact (by (with_reducible repeat (first | refine b1 ?_ _ | refine b3 ?_ | refine b2 ?_ _)); exact BK187.out)⟩; have n9_ : Aside0 (Below w.heap.size w w77) := ⟨by rw [← hq_]; exact (by repeat (first | (with_reducible first | exact HB.out | apply c1_ | apply b8 | apply b9 | refine b7 ?_ GE155.out | refine b7 ?_ GE171.out | refine b7 ?_ GE180.out | refine b7 ?_ GE187.out) | exact HB.out))⟩; clear HO191 HO_172002 HO_181002 HO_188002 HO_8 BK155 BK171 BK180 BK187 HB hq_; have HO191 := n0_; have HO_172002 := n1_; have HO_181002 := n2_; have HO_188002 := n3_; have HO_8 := n4_; have BK155 := n5_; have BK171 := n6_; have BK180 := n7_; have BK187 := n8_; have HB := n9_; clear n0_ n1_ n2_ n3_ n4_ n5_ n6_ n7_ n8_ n9_))
     have n0_ := c7_ (b6 HO_8.out)
     have n1_ := c7_ (b6 HO_172002.out)
     have n2_ := c7_ (b6 HO_181002.out)
     have n3_ := c7_ (b6 HO_188002.out)
     have n4_ := c7_ (b6 HO191.out)
     have n5_ := c7_ (b3 BK155.out)
     have n6_ := c7_ (b3 BK171.out)
     have n7_ := c7_ (b3 BK180.out)
     have n8_ := c7_ (b3 BK187.out)
     have n9_ := c7_ (b9 HB.out)
     clear HO_8
     clear HO_172002
     clear HO_181002
     clear HO_188002
     clear HO191
     clear BK155
     clear BK171
     clear BK180
     clear BK187
     clear HB
     have HO_8 := n0_
     have HO_172002 := n1_
     have HO_181002 := n2_
     have HO_188002 := n3_
     have HO191 := n4_
     have BK155 := n5_
     have BK171 := n6_
     have BK180 := n7_
     have BK187 := n8_
     have HB := n9_
     clear n0_ n1_ n2_ n3_ n4_ n5_ n6_ n7_ n8_ n9_
     refine start_ (n := 5) (S := fun w' => w'.cell? ⟨gb180, 0, none⟩ = some (.int .i64 t175) ∧ w'.cell? ⟨gb180, 1, none⟩ = some (.int .i64 t176) ∧ w'.cell? ⟨gb180, 2, none⟩ = some (.slice Ao40 t177.length co40) ∧ w'.cell? ⟨gb155, 0, none⟩ = some (.int .i64 a1_0) ∧ w'.cell? ⟨gb155, 1, none⟩ = some (.int .i64 a1_1) ∧ w'.cell? ⟨gb155, 2, none⟩ = some (.slice A1_2 l1_2.length c1_2)) (ds := []) #[false, false, false, false, false] (by kernel_rfl) rfl rfl ⟨(c2_ BK180.out 0).trans rfl, (c2_ BK180.out 1).trans rfl, (c2_ BK180.out 2).trans rfl, (c2_ BK155.out 0).trans rfl, (c2_ BK155.out 1).trans rfl, (c2_ BK155.out 2).trans rfl⟩ (fun hHeld => ?_)
     generalize w77.drew = w79 at HO_8 HO_172002 HO_181002 HO_188002 HO191 BK155 BK171 BK180 BK187 HB hHeld ⊢
     refine take_ (i := 0) (N := some 57) (v := ?_) (a' := ?_) #[true, false, false, false, false] rfl rfl (by kernel_rfl) (fun _ _ _ h => h) (Or.inl ⟨by rfl, ?_⟩) hHeld ?_ ?_
     rotate_left
     ·
      rintro w' ⟨s0, s1, s2, s3, s4, s5⟩
      go_simp
      with_reducible rfl
     rotate_left
     ·
      simp only [Act.put, c4_, c5_, c6_, i64_w, i32_w]
      rfl
     refine take_ (i := 1) (N := some 58) (v := ?_) (a' := ?_) #[true, true, false, false, false] rfl rfl (by kernel_rfl) (fun _ _ _ h => h) (Or.inl ⟨by rfl, ?_⟩) hHeld ?_ ?_
     rotate_left
     ·
      rintro w' ⟨s0, s1, s2, s3, s4, s5⟩
      go_simp
      with_reducible rfl
     rotate_left
     ·
      simp only [Act.put, c4_, c5_, c6_, i64_w, i32_w]
      rfl
     refine one_ (i := 2) (N := some 59) #[true, true, true, false, false] rfl rfl (by kernel_rfl) (by decide) (fun K hK => ?_)
     refine goes_ Try.func17 (by kernel_rfl) rfl #[.agg #[.int .i64 a1_0, .int .i64 a1_1, .slice A1_2 l1_2.length c1_2]] (by rfl) rfl rfl (by (try simp only [List.map_toArray, List.map_cons, List.map_nil]); first | done | rfl | (simp only [List.length_drop, List.length_take]; rfl)) ?_
     with_reducible refine (laws_toAmend.calls kj15 a1_0 a1_1 _ _ l1_2 t193 t194 t195 _ ?side1 ?side2 A71.out).mono ?_
     (case side1 => repeat (first | exact (Kd.C_below HR1_2.out HB.out) | (with_reducible refine Kd.C_alloc ?_ _) | (with_reducible refine Kd.C_drewN ?_ _) | (with_reducible refine Kd.C_drew ?_)))
     (case side2 => exact HC1_2.out)
     rintro e w80 ⟨v196, rfl, ho0, hb⟩
     refine ⟨_, rfl, ?_⟩
     have n0_ := c7_ (c8_ (by (with_reducible repeat (first | apply b4 | apply b5 | apply b6)); exact HO_8.out) (Kd.R_base ho0) hb)
     have n1_ := c7_ (c8_ (by (with_reducible repeat (first | apply b4 | apply b5 | apply b6)); exact HO_172002.out) (Kd.R_base ho0) hb)
     have n2_ := c7_ (c8_ (by (with_reducible repeat (first | apply b4 | apply b5 | apply b6)); exact HO_181002.out) (Kd.R_base ho0) hb)
     have n3_ := c7_ (c8_ (by (with_reducible repeat (first | apply b4 | apply b5 | apply b6)); exact HO_188002.out) (Kd.R_base ho0) hb)
     have n4_ := c7_ (c8_ (by (with_reducible repeat (first | apply b4 | apply b5 | apply b6)); exact HO191.out) (Kd.R_base ho0) hb)
     have n5_ := c7_ (Kd.R_lower (Kd.R_new' (Kd.R_new' (Kd.R_new' (Kd.R_new' (Kd.R_new' ho0 (Kd.R_lt (by (with_reducible repeat (first | apply b4 | apply b5 | apply b6)); exact HO_8.out))) (Kd.R_lt (by (with_reducible repeat (first | apply b4 | apply b5 | apply b6)); exact HO_172002.out))) (Kd.R_lt (by (with_reducible repeat (first | apply b4 | apply b5 | apply b6)); exact HO_181002.out))) (Kd.R_lt (by (with_reducible repeat (first | apply b4 | apply b5 | apply b6)); exact HO_188002.out))) (Kd.R_lt (by (with_reducible repeat (first | apply b4 | apply b5 | apply b6)); exact HO191.out))) (below_size (by repeat (first | (with_reducible first | exact HB.out | apply c1_ | apply b8 | apply b9 | refine b7 ?_ GE155.out | refine b7 ?_ GE171.out | refine b7 ?_ GE180.out | refine b7 ?_ GE187.out) | exact HB.out))))
     have n6_ := c7_ (c3_ (g := gb155) (o := .cells #[.int .i64 a1_0, .int .i64 a1_1, .slice A1_2 l1_2.length c1_2] 24 (0, 0)) (by (with_reducible repeat (first | refine b1 ?_ _ | refine b3 ?_ | refine b2 ?_ _)); exact BK155.out) hb)
     have n7_ := c7_ (c3_ (g := gb171) (o := .cells #[.int .i64 t165, .int .i64 t166, .slice Ao30 t167.length co30] 28 (0, 0)) (by (with_reducible repeat (first | refine b1 ?_ _ | refine b3 ?_ | refine b2 ?_ _)); exact BK171.out) hb)
     have n8_ := c7_ (c3_ (g := gb180) (o := .cells #[.int .i64 t175, .int .i64 t176, .slice Ao40 t177.length co40] 28 (0, 0)) (by (with_reducible repeat (first | refine b1 ?_ _ | refine b3 ?_ | refine b2 ?_ _)); exact BK180.out) hb)
     have n9_ := c7_ (c3_ (g := gb187) (o := .cells #[.int .i64 t181, .int .i64 t182, .slice Ao48 t183.length co48] 28 (0, 0)) (by (with_reducible repeat (first | refine b1 ?_ _ | refine b3 ?_ | refine b2 ?_ _)); exact BK187.out) hb)
     have n10_ := c7_ (below_step (by repeat (first | (with_reducible first | exact HB.out | apply c1_ | apply b8 | apply b9 | refine b7 ?_ GE155.out | refine b7 ?_ GE171.out | refine b7 ?_ GE180.out | refine b7 ?_ GE187.out) | exact HB.out)) hb)
     clear HO_8
     clear HO_172002
     clear HO_181002
     clear HO_188002
     clear HO191
     clear BK155
     clear BK171
     clear BK180
     clear BK187
     clear HB
     have HO_8 := n0_
     have HO_172002 := n1_
     have HO_181002 := n2_
     have HO_188002 := n3_
     have HO191 := n4_
     have HO197 := n5_
     have BK155 := n6_
     have BK171 := n7_
     have BK180 := n8_
     have BK187 := n9_
     have HB := n10_
     clear n0_ n1_ n2_ n3_ n4_ n5_ n6_ n7_ n8_ n9_ n10_
     (try clear hb)
     (try clear hb2)
     (try clear hk)
     (try clear hi)
     (try clear ho0)
     obtain ⟨Ao81, co81, eo81⟩ := Kd.R_slice HO197.out
     (first | subst eo81 | (injection eo81 with f1_ f2_ f3_; have f4_ := f1_.symm; have f5_ := f3_.symm; clear f1_ f2_ f3_; subst f4_; subst f5_))
     refine hK.out _ _ ⟨(c2_ BK180.out 0).trans rfl, (c2_ BK180.out 1).trans rfl, (c2_ BK180.out 2).trans rfl, (c2_ BK155.out 0).trans rfl, (c2_ BK155.out 1).trans rfl, (c2_ BK155.out 2).trans rfl⟩ (fun hHeld => ?_)
     clear hK K
     refine norm_ (a' := ?_) ?_ ?_
     rotate_left
     ·
      show Act.put _ (some 59) _ = _
      simp only [Act.put, c4_, c5_, c6_, i64_w, i32_w]
      rfl
     refine one_ (i := 3) (N := some 60) #[true, true, true, true, false] rfl rfl (by kernel_rfl) (by decide) (fun K hK => ?_)
     refine goes_ Try.func20 (by kernel_rfl) rfl #[.agg #[.int .i64 t175, .int .i64 t176, .slice Ao40 t177.length co40], .agg #[.int .i64 t193, .int .i64 t194, .slice Ao81 t195.length co81]] (by rfl) rfl rfl (by (try simp only [List.map_toArray, List.map_cons, List.map_nil]); first | done | rfl | (simp only [List.length_drop, List.length_take]; rfl)) ?_
     with_reducible refine (laws_eqAmend.calls kj15 t175 t176 _ _ t177 t193 t194 _ _ t195 true _ ?side1 ?side2 ?side3 ?side4 A72.out).mono ?_
     (case side1 => repeat (first | exact (Kd.R_reads' HO_181002.out).2.2 | (with_reducible refine Kd.C_alloc ?_ _) | (with_reducible refine Kd.C_drewN ?_ _) | (with_reducible refine Kd.C_drew ?_)))
     (case side2 => exact (Kd.R_reads' HO_181002.out).2.1)
     (case side3 => repeat (first | exact (Kd.R_reads' HO197.out).2.2 | (with_reducible refine Kd.C_alloc ?_ _) | (with_reducible refine Kd.C_drewN ?_ _) | (with_reducible refine Kd.C_drew ?_)))
     (case side4 => exact (Kd.R_reads' HO197.out).2.1)
     rintro e w82 ⟨rfl, hb⟩
     refine ⟨_, rfl, ?_⟩
     have n0_ := c7_ (c9_ (by (with_reducible repeat (first | apply b4 | apply b5 | apply b6)); exact HO_8.out) hb)
     have n1_ := c7_ (c9_ (by (with_reducible repeat (first | apply b4 | apply b5 | apply b6)); exact HO_172002.out) hb)
     have n2_ := c7_ (c9_ (by (with_reducible repeat (first | apply b4 | apply b5 | apply b6)); exact HO_181002.out) hb)
     have n3_ := c7_ (c9_ (by (with_reducible repeat (first | apply b4 | apply b5 | apply b6)); exact HO_188002.out) hb)
     have n4_ := c7_ (c9_ (by (with_reducible repeat (first | apply b4 | apply b5 | apply b6)); exact HO191.out) hb)
     have n5_ := c7_ (c9_ (by (with_reducible repeat (first | apply b4 | apply b5 | apply b6)); exact HO197.out) hb)
     have n6_ := c7_ (c3_ (g := gb155) (o := .cells #[.int .i64 a1_0, .int .i64 a1_1, .slice A1_2 l1_2.length c1_2] 24 (0, 0)) (by (with_reducible repeat (first | refine b1 ?_ _ | refine b3 ?_ | refine b2 ?_ _)); exact BK155.out) hb)
     have n7_ := c7_ (c3_ (g := gb171) (o := .cells #[.int .i64 t165, .int .i64 t166, .slice Ao30 t167.length co30] 28 (0, 0)) (by (with_reducible repeat (first | refine b1 ?_ _ | refine b3 ?_ | refine b2 ?_ _)); exact BK171.out) hb)
     have n8_ := c7_ (c3_ (g := gb180) (o := .cells #[.int .i64 t175, .int .i64 t176, .slice Ao40 t177.length co40] 28 (0, 0)) (by (with_reducible repeat (first | refine b1 ?_ _ | refine b3 ?_ | refine b2 ?_ _)); exact BK180.out) hb)
     have n9_ := c7_ (c3_ (g := gb187) (o := .cells #[.int .i64 t181, .int .i64 t182, .slice Ao48 t183.length co48] 28 (0, 0)) (by (with_reducible repeat (first | refine b1 ?_ _ | refine b3 ?_ | refine b2 ?_ _)); exact BK187.out) hb)
     have n10_ := c7_ (below_step (by repeat (first | (with_reducible first | exact HB.out | apply c1_ | apply b8 | apply b9 | refine b7 ?_ GE155.out | refine b7 ?_ GE171.out | refine b7 ?_ GE180.out | refine b7 ?_ GE187.out) | exact HB.out)) hb)
     clear HO_8
     clear HO_172002
     clear HO_181002
     clear HO_188002
     clear HO191
     clear HO197
     clear BK155
     clear BK171
     clear BK180
     clear BK187
     clear HB
     have HO_8 := n0_
     have HO_172002 := n1_
     have HO_181002 := n2_
     have HO_188002 := n3_
     have HO191 := n4_
     have HO197 := n5_
     have BK155 := n6_
     have BK171 := n7_
     have BK180 := n8_
     have BK187 := n9_
     have HB := n10_
     clear n0_ n1_ n2_ n3_ n4_ n5_ n6_ n7_ n8_ n9_ n10_
     (try clear hb)
     (try clear hb2)
     (try clear hk)
     (try clear hi)
     refine hK.out _ _ ⟨(c2_ BK180.out 0).trans rfl, (c2_ BK180.out 1).trans rfl, (c2_ BK180.out 2).trans rfl, (c2_ BK155.out 0).trans rfl, (c2_ BK155.out 1).trans rfl, (c2_ BK155.out 2).trans rfl⟩ (fun hHeld => ?_)
     clear hK K
     refine norm_ (a' := ?_) ?_ ?_
     rotate_left
     ·
      show Act.put _ (some 60) _ = _
      simp only [Act.put, c4_, c5_, c6_, i64_w, i32_w]
      rfl
     refine pure_ (i := 4) (N := some 61) (v := ?_) (a' := ?_) #[true, true, true, true, true] rfl rfl (by kernel_rfl) (fun _ _ _ h => h) (Or.inl ⟨by rfl, ?_⟩) ?_ ?_
     rotate_left
     ·
      intro w'
      go_simp
      with_reducible rfl
     rotate_left
     ·
      simp only [Act.put, c4_, c5_, c6_, i64_w, i32_w]
      rfl
     refine done_ (by kernel_rfl) ?_
     go_upto_region 20 with (first | ((with_reducible refine gate_callee (f := 25) rfl ?_); refine goesL_ (some 64) rfl rfl Try.func25 (by kernel_rfl) rfl #[.slice Ao41 t172.length co41, .int .i64 1] rfl (by (try simp only [List.map_toArray, List.map_cons, List.map_nil]); first | done | rfl | (simp only [List.length_drop, List.length_take]; rfl)) ?_; (with_reducible refine (laws_markIntS.calls kj15 (fun k_ => some k_ = (.slice Ao41 t172.length co41 : Value).ownBlock) (.slice Ao41 t172.length co41) t172 1 t199 t200 w _ ?side1 ?side2 A74.out).mono ?_); (case side1 => repeat (first | (with_reducible first | exact HB.out | apply c1_ | apply b8 | apply b9 | refine b7 ?_ GE155.out | refine b7 ?_ GE171.out | refine b7 ?_ GE180.out | refine b7 ?_ GE187.out) | exact HB.out)); (case side2 => exact Kd.R_tight rfl HO_8.out); rintro e w83 ⟨rfl, hy0, hb, hkp⟩; refine ⟨_, rfl, ?_⟩; have n0_ := c7_ (Kd.R_reok rfl hy0 (fun k_ e_ => HO_8.out.1 k_ e_)); have n1_ := c7_ (d2_ (ok' := fun k_ => some k_ ≠ (.slice Ao41 t172.length co41 : Value).ownBlock ∧ some k_ ≠ (.slice Ao40 t177.length co40 : Value).ownBlock ∧ some k_ ≠ (.slice Ao48 t183.length co48 : Value).ownBlock ∧ some k_ ≠ (.slice Ao78 t189.length co78 : Value).ownBlock ∧ some k_ ≠ (.slice Ao81 t195.length co81 : Value).ownBlock) (Kd.R_keptB (HO_172002.out) hkp (fun k_ hk_ hs_ => by first | exact (hk_.1.1.1) hs_ | ((try dsimp only at hk_ hs_); simp only [hk_] at hs_))) (fun k_ hk_ => by first | exact ⟨hk_.1.1.1.1, hk_.1.1.1.2.1, hk_.1.1.1.2.2, hk_.1.1.2, hk_.1.2⟩ | ((try dsimp only at hk_ ⊢); simp only [hk_, ne_eq, not_false_eq_true, and_self]))); have n2_ := c7_ (d2_ (ok' := fun k_ => some k_ ≠ (.slice Ao41 t172.length co41 : Value).ownBlock ∧ some k_ ≠ (.slice Ao30 t167.length co30 : Value).ownBlock ∧ some k_ ≠ (.slice Ao48 t183.length co48 : Value).ownBlock ∧ some k_ ≠ (.slice Ao78 t189.length co78 : Value).ownBlock ∧ some k_ ≠ (.slice Ao81 t195.length co81 : Value).ownBlock) (Kd.R_keptB (HO_181002.out) hkp (fun k_ hk_ hs_ => by first | exact (hk_.1.1.1) hs_ | ((try dsimp only at hk_ hs_); simp only [hk_] at hs_))) (fun k_ hk_ => by first | exact ⟨hk_.1.1.1.1, hk_.1.1.1.2.1, hk_.1.1.1.2.2, hk_.1.1.2, hk_.1.2⟩ | ((try dsimp only at hk_ ⊢); simp only [hk_, ne_eq, not_false_eq_true, and_self]))); have n3_ := c7_ (d2_ (ok' := fun k_ => some k_ ≠ (.slice Ao41 t172.length co41 : Value).ownBlock ∧ some k_ ≠ (.slice Ao30 t167.length co30 : Value).ownBlock ∧ some k_ ≠ (.slice Ao40 t177.length co40 : Value).ownBlock ∧ some k_ ≠ (.slice Ao78 t189.length co78 : Value).ownBlock ∧ some k_ ≠ (.slice Ao81 t195.length co81 : Value).ownBlock) (Kd.R_keptB (HO_188002.out) hkp (fun k_ hk_ hs_ => by first | exact (hk_.1.1.1) hs_ | ((try dsimp only at hk_ hs_); simp only [hk_] at hs_))) (fun k_ hk_ => by first | exact ⟨hk_.1.1.1.1, hk_.1.1.1.2.1, hk_.1.1.1.2.2, hk_.1.1.2, hk_.1.2⟩ | ((try dsimp only at hk_ ⊢); simp only [hk_, ne_eq, not_false_eq_true, and_self]))); have n4_ := c7_ (blk_kept (by (with_reducible repeat (first | refine b1 ?_ _ | refine b3 ?_ | refine b2 ?_ _)); exact BK155.out) hkp (fun hs_ => (fun e_ => (Kd.R_ne HO_8.out BK155.out (by decide)) e_) hs_)); have n5_ := c7_ (blk_kept (by (with_reducible repeat (first | refine b1 ?_ _ | refine b3 ?_ | refine b2 ?_ _)); exact BK171.out) hkp (fun hs_ => (fun e_ => (Kd.R_ne HO_8.out BK171.out (by decide)) e_) hs_)); have n6_ := c7_ (blk_kept (by (with_reducible repeat (first | refine b1 ?_ _ | refine b3 ?_ | refine b2 ?_ _)); exact BK180.out) hkp (fun hs_ => (fun e_ => (Kd.R_ne HO_8.out BK180.out (by decide)) e_) hs_)); have n7_ := c7_ (blk_kept (by (with_reducible repeat (first | refine b1 ?_ _ | refine b3 ?_ | refine b2 ?_ _)); exact BK187.out) hkp (fun hs_ => (fun e_ => (Kd.R_ne HO_8.out BK187.out (by decide)) e_) hs_)); have n8_ := c7_ (d2_ (ok' := fun k_ => some k_ ≠ (.slice Ao41 t172.length co41 : Value).ownBlock ∧ some k_ ≠ (.slice Ao30 t167.length co30 : Value).ownBlock ∧ some k_ ≠ (.slice Ao40 t177.length co40 : Value).ownBlock ∧ some k_ ≠ (.slice Ao48 t183.length co48 : Value).ownBlock ∧ some k_ ≠ (.slice Ao81 t195.length co81 : Value).ownBlock) (Kd.R_keptB (HO191.out) hkp (fun k_ hk_ hs_ => by first | exact (hk_.1.1.1.1.2) hs_ | ((try dsimp only at hk_ hs_); simp only [hk_] at hs_))) (fun k_ hk_ => by first | exact ⟨hk_.1.1.1.1.1.2, hk_.1.1.1.1.2, hk_.1.1.1.2, hk_.1.1.2, hk_.1.2⟩ | ((try dsimp only at hk_ ⊢); simp only [hk_, ne_eq, not_false_eq_true, and_self]))); have n9_ := c7_ (d2_ (ok' := fun k_ => some k_ ≠ (.slice Ao41 t172.length co41 : Value).ownBlock ∧ some k_ ≠ (.slice Ao30 t167.length co30 : Value).ownBlock ∧ some k_ ≠ (.slice Ao40 t177.length co40 : Value).ownBlock ∧ some k_ ≠ (.slice Ao48 t183.length co48 : Value).ownBlock ∧ some k_ ≠ (.slice Ao78 t189.length co78 : Value).ownBlock) (Kd.R_keptB (HO197.out) hkp (fun k_ hk_ hs_ => by first | exact (hk_.1.1.1.1.2) hs_ | ((try dsimp only at hk_ hs_); simp only [hk_] at hs_))) (fun k_ hk_ => by first | exact ⟨hk_.1.1.1.1.1.2, hk_.1.1.1.1.2, hk_.1.1.1.2, hk_.1.1.2, hk_.1.2⟩ | ((try dsimp only at hk_ ⊢); simp only [hk_, ne_eq, not_false_eq_true, and_self]))); have n10_ := c7_ (hb); clear HO_8; clear HO_172002; clear HO_181002; clear HO_188002; clear BK155; clear BK171; clear BK180; clear BK187; clear HO191; clear HO197; clear HB; have HO_8 := n0_; have HO_172002 := n1_; have HO_181002 := n2_; have HO_188002 := n3_; have BK155 := n4_; have BK171 := n5_; have BK180 := n6_; have BK187 := n7_; have HO191 := n8_; have HO197 := n9_; have HB := n10_; clear n0_ n1_ n2_ n3_ n4_ n5_ n6_ n7_ n8_ n9_ n10_; (try clear hb); (try clear hkp); (try clear hy0); have hnb84 := NB180_155.out; have hnc84 := NB155_180.out; have hnb85 := NB180_171.out; have hnc85 := NB171_180.out; have hnb86 := NB180_187.out; have hnc86 := NB187_180.out; have hcz87_0 : w83.cell? ⟨gb180, 0, none⟩ = some (.int .i64 t175) := (c2_ BK180.out 0).trans rfl; have hcz87_1 : w83.cell? ⟨gb180, 1, none⟩ = some (.int .i64 t176) := (c2_ BK180.out 1).trans rfl; have hcz87_2 : w83.cell? ⟨gb180, 2, none⟩ = some (.slice Ao40 t177.length co40) := (c2_ BK180.out 2).trans rfl; have hfz87_0 := blk_frozen BK180.out 0; have hfz87_1 := blk_frozen BK180.out 1; have hfz87_2 := blk_frozen BK180.out 2) | ((with_reducible refine gate_callee (f := 26) rfl ?_); refine goesL_ (some 67) rfl rfl Try.func26 (by kernel_rfl) rfl #[.agg #[.int .i64 t175, .int .i64 t176, .slice Ao40 t177.length co40], .int .i64 t199] rfl (by (try simp only [List.map_toArray, List.map_cons, List.map_nil]); first | done | rfl | (simp only [List.length_drop, List.length_take]; rfl)) ?_; (with_reducible refine (laws_markAmend.calls kj15 t175 t176 (fun k_ => some k_ = (.slice Ao40 t177.length co40 : Value).ownBlock) (.slice Ao40 t177.length co40) t177 t199 t201 t202 w _ ?side1 ?side2 A75.out).mono ?_); (case side1 => repeat (first | (with_reducible first | exact HB.out | apply c1_ | apply b8 | apply b9 | refine b7 ?_ GE155.out | refine b7 ?_ GE171.out | refine b7 ?_ GE180.out | refine b7 ?_ GE187.out) | exact HB.out)); (case side2 => exact Kd.R_tight rfl HO_181002.out); rintro e w88 ⟨rfl, hy0, hb, hkp⟩; refine ⟨_, rfl, ?_⟩; have n0_ := c7_ (d2_ (ok' := fun k_ => some k_ ≠ (.slice Ao30 t167.length co30 : Value).ownBlock ∧ some k_ ≠ (.slice Ao40 t177.length co40 : Value).ownBlock ∧ some k_ ≠ (.slice Ao48 t183.length co48 : Value).ownBlock ∧ some k_ ≠ (.slice Ao78 t189.length co78 : Value).ownBlock ∧ some k_ ≠ (.slice Ao81 t195.length co81 : Value).ownBlock) (Kd.R_keptB (HO_8.out) hkp (fun k_ hk_ hs_ => by first | exact (hk_.1.1.2.1) hs_ | ((try dsimp only at hk_ hs_); simp only [hk_] at hs_))) (fun k_ hk_ => by first | exact ⟨hk_.1.1.1.1, hk_.1.1.1.2.1, hk_.1.1.1.2.2, hk_.1.1.2, hk_.1.2⟩ | ((try dsimp only at hk_ ⊢); simp only [hk_, ne_eq, not_false_eq_true, and_self]))); have n1_ := c7_ (d2_ (ok' := fun k_ => some k_ ≠ (.slice Ao41 t172.length co41 : Value).ownBlock ∧ some k_ ≠ (.slice Ao40 t177.length co40 : Value).ownBlock ∧ some k_ ≠ (.slice Ao48 t183.length co48 : Value).ownBlock ∧ some k_ ≠ (.slice Ao78 t189.length co78 : Value).ownBlock ∧ some k_ ≠ (.slice Ao81 t195.length co81 : Value).ownBlock) (Kd.R_keptB (HO_172002.out) hkp (fun k_ hk_ hs_ => by first | exact (hk_.2.1) hs_ | ((try dsimp only at hk_ hs_); simp only [hk_] at hs_))) (fun k_ hk_ => by first | exact ⟨hk_.1.1, hk_.1.2.1, hk_.1.2.2.1, hk_.1.2.2.2.1, hk_.1.2.2.2.2⟩ | ((try dsimp only at hk_ ⊢); simp only [hk_, ne_eq, not_false_eq_true, and_self]))); have n2_ := c7_ (Kd.R_reok rfl hy0 (fun k_ e_ => HO_181002.out.1 k_ e_)); have n3_ := c7_ (d2_ (ok' := fun k_ => some k_ ≠ (.slice Ao41 t172.length co41 : Value).ownBlock ∧ some k_ ≠ (.slice Ao30 t167.length co30 : Value).ownBlock ∧ some k_ ≠ (.slice Ao40 t177.length co40 : Value).ownBlock ∧ some k_ ≠ (.slice Ao78 t189.length co78 : Value).ownBlock ∧ some k_ ≠ (.slice Ao81 t195.length co81 : Value).ownBlock) (Kd.R_keptB (HO_188002.out) hkp (fun k_ hk_ hs_ => by first | exact (hk_.2.2.1) hs_ | ((try dsimp only at hk_ hs_); simp only [hk_] at hs_))) (fun k_ hk_ => by first | exact ⟨hk_.1.1, hk_.1.2.1, hk_.1.2.2.1, hk_.1.2.2.2.1, hk_.1.2.2.2.2⟩ | ((try dsimp only at hk_ ⊢); simp only [hk_, ne_eq, not_false_eq_true, and_self]))); have n4_ := c7_ (blk_kept (by (with_reducible repeat (first | refine b1 ?_ _ | refine b3 ?_ | refine b2 ?_ _)); exact BK155.out) hkp (fun hs_ => (fun e_ => (Kd.R_ne HO_181002.out BK155.out (by decide)) e_) hs_)); have n5_ := c7_ (blk_kept (by (with_reducible repeat (first | refine b1 ?_ _ | refine b3 ?_ | refine b2 ?_ _)); exact BK171.out) hkp (fun hs_ => (fun e_ => (Kd.R_ne HO_181002.out BK171.out (by decide)) e_) hs_)); have n6_ := c7_ (blk_kept (by (with_reducible repeat (first | refine b1 ?_ _ | refine b3 ?_ | refine b2 ?_ _)); exact BK180.out) hkp (fun hs_ => (fun e_ => (Kd.R_ne HO_181002.out BK180.out (by decide)) e_) hs_)); have n7_ := c7_ (blk_kept (by (with_reducible repeat (first | refine b1 ?_ _ | refine b3 ?_ | refine b2 ?_ _)); exact BK187.out) hkp (fun hs_ => (fun e_ => (Kd.R_ne HO_181002.out BK187.out (by decide)) e_) hs_)); have n8_ := c7_ (d2_ (ok' := fun k_ => some k_ ≠ (.slice Ao41 t172.length co41 : Value).ownBlock ∧ some k_ ≠ (.slice Ao30 t167.length co30 : Value).ownBlock ∧ some k_ ≠ (.slice Ao40 t177.length co40 : Value).ownBlock ∧ some k_ ≠ (.slice Ao48 t183.length co48 : Value).ownBlock ∧ some k_ ≠ (.slice Ao81 t195.length co81 : Value).ownBlock) (Kd.R_keptB (HO191.out) hkp (fun k_ hk_ hs_ => by first | exact (hk_.2.2.1) hs_ | ((try dsimp only at hk_ hs_); simp only [hk_] at hs_))) (fun k_ hk_ => by first | exact ⟨hk_.1.1, hk_.1.2.1, hk_.1.2.2.1, hk_.1.2.2.2.1, hk_.1.2.2.2.2⟩ | ((try dsimp only at hk_ ⊢); simp only [hk_, ne_eq, not_false_eq_true, and_self]))); have n9_ := c7_ (d2_ (ok' := fun k_ => some k_ ≠ (.slice Ao41 t172.length co41 : Value).ownBlock ∧ some k_ ≠ (.slice Ao30 t167.length co30 : Value).ownBlock ∧ some k_ ≠ (.slice Ao40 t177.length co40 : Value).ownBlock ∧ some k_ ≠ (.slice Ao48 t183.length co48 : Value).ownBlock ∧ some k_ ≠ (.slice Ao78 t189.length co78 : Value).ownBlock) (Kd.R_keptB (HO197.out) hkp (fun k_ hk_ hs_ => by first | exact (hk_.2.2.1) hs_ | ((try dsimp only at hk_ hs_); simp only [hk_] at hs_))) (fun k_ hk_ => by first | exact ⟨hk_.1.1, hk_.1.2.1, hk_.1.2.2.1, hk_.1.2.2.2.1, hk_.1.2.2.2.2⟩ | ((try dsimp only at hk_ ⊢); simp only [hk_, ne_eq, not_false_eq_true, and_self]))); have n10_ := c7_ (hb); clear HO_8; clear HO_172002; clear HO_181002; clear HO_188002; clear BK155; clear BK171; clear BK180; clear BK187; clear HO191; clear HO197; clear HB; have HO_8 := n0_; have HO_172002 := n1_; have HO_181002 := n2_; have HO_188002 := n3_; have BK155 := n4_; have BK171 := n5_; have BK180 := n6_; have BK187 := n7_; have HO191 := n8_; have HO197 := n9_; have HB := n10_; clear n0_ n1_ n2_ n3_ n4_ n5_ n6_ n7_ n8_ n9_ n10_; (try clear hb); (try clear hkp); (try clear hy0)))
     (try simp only [Act.put, c4_, c5_, c6_])
     go_cut [80] (fun v80 wc => ∃ (kq : Nat) (x80_75 : Bool), v80 = .bool x80_75 ∧ Aside0 (laws_FnExactUndo.j1 kq l0 t170 x80_75 a1_0 a1_1 l1_2 t165 t166 t167 t181 t182 t183 = some r) ∧ Aside0 (kq ≤ kj15) ∧ Aside0 (Kd.R (Kd.int .i64) 3 wc w.heap.size (fun k_ => some k_ ≠ ((.slice Ao40 t177.length co40) : Value).ownBlock ∧ some k_ ≠ ((.slice Ao48 t183.length co48) : Value).ownBlock) (.slice Ao30 t167.length co30) t167) ∧ Aside0 (Kd.R (Kd.int .i64) 3 wc w.heap.size (fun k_ => some k_ ≠ ((.slice Ao30 t167.length co30) : Value).ownBlock ∧ some k_ ≠ ((.slice Ao48 t183.length co48) : Value).ownBlock) (.slice Ao40 t177.length co40) t202) ∧ Aside0 (Kd.R (Kd.int .i64) 3 wc w.heap.size (fun k_ => some k_ ≠ ((.slice Ao30 t167.length co30) : Value).ownBlock ∧ some k_ ≠ ((.slice Ao40 t177.length co40) : Value).ownBlock) (.slice Ao48 t183.length co48) t183) ∧ Aside0 (wc.heap[gb155]? = some (.cells #[.int .i64 a1_0, .int .i64 a1_1, (.slice A1_2 l1_2.length c1_2)] 24 (0, 0))) ∧ Aside0 (wc.heap[gb171]? = some (.cells #[.int .i64 t165, .int .i64 t166, (.slice Ao30 t167.length co30)] 28 (0, 0))) ∧ Aside0 (wc.heap[gb180]? = some (.cells #[.int .i64 t175, .int .i64 t176, (.slice Ao40 t177.length co40)] 28 (0, 0))) ∧ Aside0 (wc.heap[gb187]? = some (.cells #[.int .i64 t181, .int .i64 t182, (.slice Ao48 t183.length co48)] 28 (0, 0))) ∧ Aside0 (Below w.heap.size w wc))
     case first =>
      have H := HC76.out
      clear HC76
      by_cases c89 : t201 < 0
      ·
       rw [if_pos c89] at H
       have c89b0 : decide (t201 < 0) = true := decide_eq_true c89
       clear c89
       (first | rw [c89b0] | (simp only [i64_w, i32_w]; rw [c89b0]) | skip)
       exact absurd (H.trans (congrArg some hr_)) (fun h_ => laws_FnExactUndo.j1_no _ _ _ _ _ _ _ _ _ _ _ _ h_)
      rw [if_neg c89] at H
      have c89b0 : decide (t201 < 0) = false := decide_eq_false c89
      clear c89
      (first | rw [c89b0] | (simp only [i64_w, i32_w]; rw [c89b0]) | skip)
      replace H := Option.bind_eq_some_iff.mp H
      obtain ⟨t203, A900, H⟩ := H
      try dsimp only at H
      have A90 := c7_ A900
      clear A900
      by_cases c91 : t203 = true
      ·
       subst c91
       rw [if_pos rfl] at H
       have H' := c7_ H
       clear H
       have hnb92 := NB187_155.out
       have hnc92 := NB155_187.out
       have hnb93 := NB187_171.out
       have hnc93 := NB171_187.out
       have hnb94 := NB187_180.out
       have hnc94 := NB180_187.out
       have hcz95_0 : w88.cell? ⟨gb187, 0, none⟩ = some (.int .i64 t181) := (c2_ BK187.out 0).trans rfl
       have hcz95_1 : w88.cell? ⟨gb187, 1, none⟩ = some (.int .i64 t182) := (c2_ BK187.out 1).trans rfl
       have hcz95_2 : w88.cell? ⟨gb187, 2, none⟩ = some (.slice Ao48 t183.length co48) := (c2_ BK187.out 2).trans rfl
       have hfz95_0 := blk_frozen BK187.out 0
       have hfz95_1 := blk_frozen BK187.out 1
       have hfz95_2 := blk_frozen BK187.out 2
       have hnb96 := NB171_155.out
       have hnc96 := NB155_171.out
       have hnb97 := NB171_180.out
       have hnc97 := NB180_171.out
       have hcz98_0 : w88.cell? ⟨gb171, 0, none⟩ = some (.int .i64 t165) := (c2_ BK171.out 0).trans rfl
       have hcz98_1 : w88.cell? ⟨gb171, 1, none⟩ = some (.int .i64 t166) := (c2_ BK171.out 1).trans rfl
       have hcz98_2 : w88.cell? ⟨gb171, 2, none⟩ = some (.slice Ao30 t167.length co30) := (c2_ BK171.out 2).trans rfl
       have hfz98_0 := blk_frozen BK171.out 0
       have hfz98_1 := blk_frozen BK171.out 1
       have hfz98_2 := blk_frozen BK171.out 2
       go_wp2_with (first | (go_at_call 20; (with_reducible refine (laws_eqAmend.calls kj15 t181 t182 _ _ t183 t165 t166 _ _ t167 true _ ?side1 ?side2 ?side3 ?side4 A90.out).mono ?_); (case side1 => repeat (first | exact (Kd.R_reads' HO_188002.out).2.2 | (with_reducible refine Kd.C_alloc ?_ _) | (with_reducible refine Kd.C_drewN ?_ _) | (with_reducible refine Kd.C_drew ?_))); (case side2 => exact (Kd.R_reads' HO_188002.out).2.1); (case side3 => repeat (first | exact (Kd.R_reads' HO_172002.out).2.2 | (with_reducible refine Kd.C_alloc ?_ _) | (with_reducible refine Kd.C_drewN ?_ _) | (with_reducible refine Kd.C_drew ?_))); (case side4 => exact (Kd.R_reads' HO_172002.out).2.1); rintro e w99 ⟨rfl, hb⟩; have n0_ := c7_ (c9_ (by (with_reducible repeat (first | apply b4 | apply b5 | apply b6)); exact HO_8.out) hb); have n1_ := c7_ (c9_ (by (with_reducible repeat (first | apply b4 | apply b5 | apply b6)); exact HO_172002.out) hb); have n2_ := c7_ (c9_ (by (with_reducible repeat (first | apply b4 | apply b5 | apply b6)); exact HO_181002.out) hb); have n3_ := c7_ (c9_ (by (with_reducible repeat (first | apply b4 | apply b5 | apply b6)); exact HO_188002.out) hb); have n4_ := c7_ (c9_ (by (with_reducible repeat (first | apply b4 | apply b5 | apply b6)); exact HO191.out) hb); have n5_ := c7_ (c9_ (by (with_reducible repeat (first | apply b4 | apply b5 | apply b6)); exact HO197.out) hb); have n6_ := c7_ (c3_ (g := gb155) (o := .cells #[.int .i64 a1_0, .int .i64 a1_1, .slice A1_2 l1_2.length c1_2] 24 (0, 0)) (by (with_reducible repeat (first | refine b1 ?_ _ | refine b3 ?_ | refine b2 ?_ _)); exact BK155.out) hb); have n7_ := c7_ (c3_ (g := gb171) (o := .cells #[.int .i64 t165, .int .i64 t166, .slice Ao30 t167.length co30] 28 (0, 0)) (by (with_reducible repeat (first | refine b1 ?_ _ | refine b3 ?_ | refine b2 ?_ _)); exact BK171.out) hb); have n8_ := c7_ (c3_ (g := gb180) (o := .cells #[.int .i64 t175, .int .i64 t176, .slice Ao40 t177.length co40] 28 (0, 0)) (by (with_reducible repeat (first | refine b1 ?_ _ | refine b3 ?_ | refine b2 ?_ _)); exact BK180.out) hb); have n9_ := c7_ (c3_ (g := gb187) (o := .cells #[.int .i64 t181, .int .i64 t182, .slice Ao48 t183.length co48] 28 (0, 0)) (by (with_reducible repeat (first | refine b1 ?_ _ | refine b3 ?_ | refine b2 ?_ _)); exact BK187.out) hb); have n10_ := c7_ (below_step (by repeat (first | (with_reducible first | exact HB.out | apply c1_ | apply b8 | apply b9 | refine b7 ?_ GE155.out | refine b7 ?_ GE171.out | refine b7 ?_ GE180.out | refine b7 ?_ GE187.out) | exact HB.out)) hb); clear HO_8; clear HO_172002; clear HO_181002; clear HO_188002; clear HO191; clear HO197; clear BK155; clear BK171; clear BK180; clear BK187; clear HB; have HO_8 := n0_; have HO_172002 := n1_; have HO_181002 := n2_; have HO_188002 := n3_; have HO191 := n4_; have HO197 := n5_; have BK155 := n6_; have BK171 := n7_; have BK180 := n8_; have BK187 := n9_; have HB := n10_; clear n0_ n1_ n2_ n3_ n4_ n5_ n6_ n7_ n8_ n9_ n10_; (try clear hb); (try clear hb2); (try clear hk); (try clear hi)))
       go_meet
       case rel => exact ⟨_, ((t186 != t170)), (by first | rfl | (simp; done) | (simp [*]; done)), H', ⟨by have := HJ15.out; first | omega | exact Nat.le_refl _⟩, ⟨by (with_reducible repeat (first | apply b4 | apply b5 | apply b6)); exact d2_ HO_172002.out (fun _ hk => ⟨hk.2.1, hk.2.2.1⟩)⟩, ⟨by (with_reducible repeat (first | apply b4 | apply b5 | apply b6)); exact d2_ HO_181002.out (fun _ hk => ⟨hk.2.1, hk.2.2.1⟩)⟩, ⟨by (with_reducible repeat (first | apply b4 | apply b5 | apply b6)); exact d2_ HO_188002.out (fun _ hk => ⟨hk.2.1, hk.2.2.1⟩)⟩, ⟨by (with_reducible repeat (first | refine b1 ?_ _ | refine b3 ?_ | refine b2 ?_ _)); exact BK155.out⟩, ⟨by (with_reducible repeat (first | refine b1 ?_ _ | refine b3 ?_ | refine b2 ?_ _)); exact BK171.out⟩, ⟨by (with_reducible repeat (first | refine b1 ?_ _ | refine b3 ?_ | refine b2 ?_ _)); exact BK180.out⟩, ⟨by (with_reducible repeat (first | refine b1 ?_ _ | refine b3 ?_ | refine b2 ?_ _)); exact BK187.out⟩, ⟨by repeat (first | (with_reducible first | exact HB.out | apply c1_ | apply b8 | apply b9 | refine b7 ?_ GE155.out | refine b7 ?_ GE171.out | refine b7 ?_ GE180.out | refine b7 ?_ GE187.out) | exact HB.out)⟩⟩
      replace c91 := Bool.eq_false_iff.mpr c91
      subst c91
      have H1 : (laws_FnExactUndo.j1 kj15 l0 t170 true a1_0 a1_1 l1_2 t165 t166 t167 t181 t182 t183) = some r := by rw [if_neg (show ¬ (false = true) by decide)] at H; exact H
      clear H
      have H := H1
      clear H1
      exact absurd (H.trans (congrArg some hr_)) (fun h_ => laws_FnExactUndo.j1_no _ _ _ _ _ _ _ _ _ _ _ _ h_)
     case rest =>
      clear HC76
      try clear c1
      try clear c2
      try clear p2
      try clear c3
      try clear c4
      try clear c5
      try clear c6
      try clear c7
      try clear c8
      try clear c9
      try clear c10
      try clear c16
      try clear c17
      try clear c19
      try clear c20
      try clear c25
      try clear c26
      try clear c28
      try clear c29
      try clear c33
      try clear c37
      try clear c38
      try clear c44
      try clear c45
      try clear c46
      try clear c50
      try clear c51
      try clear c52
      try clear c53
      try clear c55
      try clear c56
      try clear c59
      try clear c60
      try clear c61
      try clear c63
      try clear c64
      try clear c67
      try clear c70
      try clear c73
      try clear c84
      try clear c85
      try clear c86
      try clear c89
      try clear c89b0
      try clear c91
      try clear c92
      try clear c93
      try clear c94
      try clear c96
      try clear c97
      try clear c100
      try clear c101
      try clear c102
      try clear c104
      try clear c105
      try clear hcz103_0
      try clear hcz103_1
      try clear hcz103_2
      try clear hcz106_0
      try clear hcz106_1
      try clear hcz106_2
      try clear hcz34_0
      try clear hcz34_1
      try clear hcz34_2
      try clear hcz39_0
      try clear hcz39_1
      try clear hcz39_2
      try clear hcz47_0
      try clear hcz47_1
      try clear hcz47_2
      try clear hcz54_0
      try clear hcz54_1
      try clear hcz54_2
      try clear hcz57_0
      try clear hcz57_1
      try clear hcz57_2
      try clear hcz62_0
      try clear hcz62_1
      try clear hcz62_2
      try clear hcz65_0
      try clear hcz65_1
      try clear hcz65_2
      try clear hcz87_0
      try clear hcz87_1
      try clear hcz87_2
      try clear hcz95_0
      try clear hcz95_1
      try clear hcz95_2
      try clear hcz98_0
      try clear hcz98_1
      try clear hcz98_2
      try clear hfz103_0
      try clear hfz103_1
      try clear hfz103_2
      try clear hfz106_0
      try clear hfz106_1
      try clear hfz106_2
      try clear hfz34_0
      try clear hfz34_1
      try clear hfz34_2
      try clear hfz39_0
      try clear hfz39_1
      try clear hfz39_2
      try clear hfz47_0
      try clear hfz47_1
      try clear hfz47_2
      try clear hfz54_0
      try clear hfz54_1
      try clear hfz54_2
      try clear hfz57_0
      try clear hfz57_1
      try clear hfz57_2
      try clear hfz62_0
      try clear hfz62_1
      try clear hfz62_2
      try clear hfz65_0
      try clear hfz65_1
      try clear hfz65_2
      try clear hfz87_0
      try clear hfz87_1
      try clear hfz87_2
      try clear hfz95_0
      try clear hfz95_1
      try clear hfz95_2
      try clear hfz98_0
      try clear hfz98_1
      try clear hfz98_2
      try clear p2
      obtain ⟨kq, x80_75, rfl, HA, HJ75, HO_172002, HO_181002, HO_188002, BK155, BK171, BK180, BK187, HB⟩ := hcut
      have hl181002_75 := (Kd.R_reads' HO_181002.out).1
      rw [hl181002_75] at HO_181002
      (try simp only [hl181002_75])
      (try simp only [hl181002_75] at BK155)
      (try simp only [hl181002_75] at BK171)
      (try simp only [hl181002_75] at BK180)
      (try simp only [hl181002_75] at BK187)
      (try simp only [hl181002_75] at HO_172002)
      (try simp only [hl181002_75] at HO_188002)
      cases kq with
      | zero => exact absurd HA.out (by simp [laws_FnExactUndo.j1])
      | succ kj75 =>
       have H := HA.out
       clear HA
       simp only [laws_FnExactUndo.j1] at H
       by_cases c108 : x80_75 = true
       ·
        subst c108
        rw [if_pos rfl] at H
        exact absurd ((Option.some.inj H).trans hr_) (by decide)
       replace c108 := Bool.eq_false_iff.mpr c108
       subst c108
       have H1 : ((laws_markAmend.f kj75 t181 t182 t183 1).bind fun bt204 => ((laws_heldAmend.f kj75 t181 t182 bt204.2 1).bind fun t206 => (if t206 < 0 then (some false) else (if t206 = bt204.1 then ((laws_toIntS.f kj75 l0).bind fun t207 => ((laws_toAmend.f kj75 a1_0 a1_1 l1_2).bind fun bt210 => ((impl_Undo.f t207 bt210.1 bt210.2.1 bt210.2.2).bind fun bt215 => ((laws_eqAmend.f kj75 bt215.1 bt215.2.1 bt215.2.2.1 t165 t166 t167).bind fun t222 => (if t222 = true then (laws_FnExactUndo.j2 kj75 bt204.1 (bt215.2.2.2 != t170) t181 t182 bt204.2) else (laws_FnExactUndo.j2 kj75 bt204.1 true t181 t182 bt204.2)))))) else (some false))))) = some r := by rw [if_neg (show ¬ (false = true) by decide)] at H; exact H
       clear H
       have H := H1
       clear H1
       replace H := Option.bind_eq_some_iff.mp H
       obtain ⟨⟨t204, t205⟩, A1090, H⟩ := H
       try dsimp only at H
       have A109 := c7_ A1090
       clear A1090
       replace H := Option.bind_eq_some_iff.mp H
       obtain ⟨t206, A1100, H⟩ := H
       try dsimp only at H
       have A110 := c7_ A1100
       clear A1100
       by_cases c111 : t206 < 0
       ·
        rw [if_pos c111] at H
        have c111b0 : decide (t206 < 0) = true := decide_eq_true c111
        clear c111
        exact absurd ((Option.some.inj H).trans hr_) (by decide)
       rw [if_neg c111] at H
       have c111b0 : decide (t206 < 0) = false := decide_eq_false c111
       clear c111
       by_cases c119 : t206 = t204
       ·
        rw [if_pos c119] at H
        have c119b0 : (t206 == t204) = true := beq_iff_eq.mpr c119
        have c119b1 : (t206 != t204) = false := bne_eq_false_iff_eq.mpr c119
        clear c119
        replace H := Option.bind_eq_some_iff.mp H
        obtain ⟨t207, A1200, H⟩ := H
        try dsimp only at H
        have A120 := c7_ A1200
        clear A1200
        replace H := Option.bind_eq_some_iff.mp H
        obtain ⟨⟨t210, t211, t212⟩, A1210, H⟩ := H
        try dsimp only at H
        have A121 := c7_ A1210
        clear A1210
        replace H := Option.bind_eq_some_iff.mp H
        obtain ⟨⟨t215, t216, t217, t220⟩, A1220, H⟩ := H
        try dsimp only at H
        have A122 := c7_ A1220
        clear A1220
        have HC123 := c7_ H
        clear H
        have hnb124 := NB187_155.out
        have hnc124 := NB155_187.out
        have hnb125 := NB187_171.out
        have hnc125 := NB171_187.out
        have hnb126 := NB187_180.out
        have hnc126 := NB180_187.out
        have hcz127_0 : wc.cell? ⟨gb187, 0, none⟩ = some (.int .i64 t181) := (c2_ BK187.out 0).trans rfl
        have hcz127_1 : wc.cell? ⟨gb187, 1, none⟩ = some (.int .i64 t182) := (c2_ BK187.out 1).trans rfl
        have hcz127_2 : wc.cell? ⟨gb187, 2, none⟩ = some (.slice Ao48 t183.length co48) := (c2_ BK187.out 2).trans rfl
        have hfz127_0 := blk_frozen BK187.out 0
        have hfz127_1 := blk_frozen BK187.out 1
        have hfz127_2 := blk_frozen BK187.out 2
        try go_wp2_with (first | ((with_reducible refine gate_callee (f := 26) rfl ?_); refine goesL_ (some 83) rfl rfl Try.func26 (by kernel_rfl) rfl #[.agg #[.int .i64 t181, .int .i64 t182, .slice Ao48 t183.length co48], .int .i64 1] rfl (by (try simp only [List.map_toArray, List.map_cons, List.map_nil]); first | done | rfl | (simp only [List.length_drop, List.length_take]; rfl)) ?_; (with_reducible refine (laws_markAmend.calls kj75 t181 t182 (fun k_ => some k_ = (.slice Ao48 t183.length co48 : Value).ownBlock) (.slice Ao48 t183.length co48) t183 1 t204 t205 w _ ?side1 ?side2 A109.out).mono ?_); (case side1 => repeat (first | (with_reducible first | exact HB.out | apply c1_ | apply b8 | apply b9 | refine b7 ?_ GE155.out | refine b7 ?_ GE171.out | refine b7 ?_ GE180.out | refine b7 ?_ GE187.out) | exact HB.out)); (case side2 => exact Kd.R_tight rfl HO_188002.out); rintro e w128 ⟨rfl, hy0, hb, hkp⟩; refine ⟨_, rfl, ?_⟩; have n0_ := c7_ (d2_ (ok' := fun k_ => some k_ ≠ (.slice Ao40 t202.length co40 : Value).ownBlock ∧ some k_ ≠ (.slice Ao48 t183.length co48 : Value).ownBlock) (Kd.R_keptB (HO_172002.out) hkp (fun k_ hk_ hs_ => by first | exact (hk_.2) hs_ | ((try dsimp only at hk_ hs_); simp only [hk_] at hs_))) (fun k_ hk_ => by first | exact ⟨hk_.1.1, hk_.1.2⟩ | ((try dsimp only at hk_ ⊢); simp only [hk_, ne_eq, not_false_eq_true, and_self]))); have n1_ := c7_ (d2_ (ok' := fun k_ => some k_ ≠ (.slice Ao30 t167.length co30 : Value).ownBlock ∧ some k_ ≠ (.slice Ao48 t183.length co48 : Value).ownBlock) (Kd.R_keptB (HO_181002.out) hkp (fun k_ hk_ hs_ => by first | exact (hk_.2) hs_ | ((try dsimp only at hk_ hs_); simp only [hk_] at hs_))) (fun k_ hk_ => by first | exact ⟨hk_.1.1, hk_.1.2⟩ | ((try dsimp only at hk_ ⊢); simp only [hk_, ne_eq, not_false_eq_true, and_self]))); have n2_ := c7_ (Kd.R_reok rfl hy0 (fun k_ e_ => HO_188002.out.1 k_ e_)); have n3_ := c7_ (blk_kept (by (with_reducible repeat (first | refine b1 ?_ _ | refine b3 ?_ | refine b2 ?_ _)); exact BK155.out) hkp (fun hs_ => (fun e_ => (Kd.R_ne HO_188002.out BK155.out (by decide)) e_) hs_)); have n4_ := c7_ (blk_kept (by (with_reducible repeat (first | refine b1 ?_ _ | refine b3 ?_ | refine b2 ?_ _)); exact BK171.out) hkp (fun hs_ => (fun e_ => (Kd.R_ne HO_188002.out BK171.out (by decide)) e_) hs_)); have n5_ := c7_ (blk_kept (by (with_reducible repeat (first | refine b1 ?_ _ | refine b3 ?_ | refine b2 ?_ _)); exact BK180.out) hkp (fun hs_ => (fun e_ => (Kd.R_ne HO_188002.out BK180.out (by decide)) e_) hs_)); have n6_ := c7_ (blk_kept (by (with_reducible repeat (first | refine b1 ?_ _ | refine b3 ?_ | refine b2 ?_ _)); exact BK187.out) hkp (fun hs_ => (fun e_ => (Kd.R_ne HO_188002.out BK187.out (by decide)) e_) hs_)); have n7_ := c7_ (hb); clear HO_172002; clear HO_181002; clear HO_188002; clear BK155; clear BK171; clear BK180; clear BK187; clear HB; have HO_172002 := n0_; have HO_181002 := n1_; have HO_188002 := n2_; have BK155 := n3_; have BK171 := n4_; have BK180 := n5_; have BK187 := n6_; have HB := n7_; clear n0_ n1_ n2_ n3_ n4_ n5_ n6_ n7_; (try clear hb); (try clear hkp); (try clear hy0); have hcz129_0 : w128.cell? ⟨gb187, 0, none⟩ = some (.int .i64 t181) := (c2_ BK187.out 0).trans rfl; have hcz129_1 : w128.cell? ⟨gb187, 1, none⟩ = some (.int .i64 t182) := (c2_ BK187.out 1).trans rfl; have hcz129_2 : w128.cell? ⟨gb187, 2, none⟩ = some (.slice Ao48 t183.length co48) := (c2_ BK187.out 2).trans rfl; have hfz129_0 := blk_frozen BK187.out 0; have hfz129_1 := blk_frozen BK187.out 1; have hfz129_2 := blk_frozen BK187.out 2) | ((with_reducible refine gate_callee (f := 27) rfl ?_); refine goesL_ (some 86) rfl rfl Try.func27 (by kernel_rfl) rfl #[.agg #[.int .i64 t181, .int .i64 t182, .slice Ao48 t205.length co48], .int .i64 1] rfl (by (try simp only [List.map_toArray, List.map_cons, List.map_nil]); first | done | (rw [show t205.length = t183.length from (Kd.R_reads' HO_188002.out).1.symm] <;> rfl) | rfl | (simp only [List.length_drop, List.length_take]; rfl)) ?_; (with_reducible refine (laws_heldAmend.calls kj75 t181 t182 _ _ t205 1 t206 _ ?side1 ?side2 A110.out).mono ?_); (case side1 => repeat (first | exact (Kd.R_reads' HO_188002.out).2.2 | (with_reducible refine Kd.C_alloc ?_ _) | (with_reducible refine Kd.C_drewN ?_ _) | (with_reducible refine Kd.C_drew ?_))); (case side2 => rw [show t205.length = t183.length from (Kd.R_reads' HO_188002.out).1.symm]; exact (Kd.R_reads' HO_188002.out).2.1); rintro e w130 ⟨rfl, hb⟩; refine ⟨_, rfl, ?_⟩; have n0_ := c7_ (c9_ (by (with_reducible repeat (first | apply b4 | apply b5 | apply b6)); exact HO_172002.out) hb); have n1_ := c7_ (c9_ (by (with_reducible repeat (first | apply b4 | apply b5 | apply b6)); exact HO_181002.out) hb); have n2_ := c7_ (c9_ (by (with_reducible repeat (first | apply b4 | apply b5 | apply b6)); exact HO_188002.out) hb); have n3_ := c7_ (c3_ (g := gb155) (o := .cells #[.int .i64 a1_0, .int .i64 a1_1, .slice A1_2 l1_2.length c1_2] 24 (0, 0)) (by (with_reducible repeat (first | refine b1 ?_ _ | refine b3 ?_ | refine b2 ?_ _)); exact BK155.out) hb); have n4_ := c7_ (c3_ (g := gb171) (o := .cells #[.int .i64 t165, .int .i64 t166, .slice Ao30 t167.length co30] 28 (0, 0)) (by (with_reducible repeat (first | refine b1 ?_ _ | refine b3 ?_ | refine b2 ?_ _)); exact BK171.out) hb); have n5_ := c7_ (c3_ (g := gb180) (o := .cells #[.int .i64 t175, .int .i64 t176, .slice Ao40 t202.length co40] 28 (0, 0)) (by (with_reducible repeat (first | refine b1 ?_ _ | refine b3 ?_ | refine b2 ?_ _)); exact BK180.out) hb); have n6_ := c7_ (c3_ (g := gb187) (o := .cells #[.int .i64 t181, .int .i64 t182, .slice Ao48 t183.length co48] 28 (0, 0)) (by (with_reducible repeat (first | refine b1 ?_ _ | refine b3 ?_ | refine b2 ?_ _)); exact BK187.out) hb); have n7_ := c7_ (below_step (by repeat (first | (with_reducible first | exact HB.out | apply c1_ | apply b8 | apply b9 | refine b7 ?_ GE155.out | refine b7 ?_ GE171.out | refine b7 ?_ GE180.out | refine b7 ?_ GE187.out) | exact HB.out)) hb); clear HO_172002; clear HO_181002; clear HO_188002; clear BK155; clear BK171; clear BK180; clear BK187; clear HB; have HO_172002 := n0_; have HO_181002 := n1_; have HO_188002 := n2_; have BK155 := n3_; have BK171 := n4_; have BK180 := n5_; have BK187 := n6_; have HB := n7_; clear n0_ n1_ n2_ n3_ n4_ n5_ n6_ n7_; (try clear hb); (try clear hb2); (try clear hk); (try clear hi)))
        have n0_ := c7_ (b6 HO_172002.out)
        have n1_ := c7_ (b6 HO_181002.out)
        have n2_ := c7_ (b6 HO_188002.out)
        have n3_ := c7_ (b3 BK155.out)
        have n4_ := c7_ (b3 BK171.out)
        have n5_ := c7_ (b3 BK180.out)
        have n6_ := c7_ (b3 BK187.out)
        have n7_ := c7_ (b9 HB.out)
        clear HO_172002
        clear HO_181002
        clear HO_188002
        clear BK155
        clear BK171
        clear BK180
        clear BK187
        clear HB
        have HO_172002 := n0_
        have HO_181002 := n1_
        have HO_188002 := n2_
        have BK155 := n3_
        have BK171 := n4_
        have BK180 := n5_
        have BK187 := n6_
        have HB := n7_
        clear n0_ n1_ n2_ n3_ n4_ n5_ n6_ n7_
        refine start_ (n := 11) (S := fun w' => w'.cell? ⟨gb155, 0, none⟩ = some (.int .i64 a1_0) ∧ w'.cell? ⟨gb155, 1, none⟩ = some (.int .i64 a1_1) ∧ w'.cell? ⟨gb155, 2, none⟩ = some (.slice A1_2 l1_2.length c1_2)) (ds := []) #[false, false, false, false, false, false, false, false, false, false, false] (by kernel_rfl) rfl rfl ⟨(c2_ BK155.out 0).trans rfl, (c2_ BK155.out 1).trans rfl, (c2_ BK155.out 2).trans rfl⟩ (fun hHeld => ?_); refine with_tabW laws_FnExactUndo.tab30 laws_FnExactUndo.bits30 (fun HT_ HW_ => ?_)
        generalize w130.drew = w131 at HO_172002 HO_181002 HO_188002 BK155 BK171 BK180 BK187 HB hHeld ⊢
        refine pure_ (i := 0) (N := some 93) (v := ?_) (a' := ?_) #[true, false, false, false, false, false, false, false, false, false, false] rfl rfl (any_of HT_.out (by kernel_rfl)) (fun _ _ _ h => h) (Or.inl ⟨by rfl, ?_⟩) ?_ ?_
        rotate_left
        ·
         intro w'
         go_simp
         with_reducible rfl
        rotate_left
        ·
         simp only [Act.put, c4_, c5_, c6_, i64_w, i32_w]
         rfl
        refine take_ (i := 2) (N := some 95) (v := ?_) (a' := ?_) #[true, false, true, false, false, false, false, false, false, false, false] rfl rfl (take_ofW HT_.out HW_.out (by kernel_rfl)) (fun _ _ _ h => h) (Or.inl ⟨by rfl, ?_⟩) hHeld ?_ ?_
        rotate_left
        ·
         rintro w' ⟨s0, s1, s2⟩
         go_simp
         with_reducible rfl
        rotate_left
        ·
         simp only [Act.put, c4_, c5_, c6_, i64_w, i32_w]
         rfl
        refine join_ (σ := Value × Value × Value × Nat) 2 #[true, true, true, true, true, true, true, true, true, false, false] (fun s_ => [(94, s_.1), (96, .agg #[.int .i64 t210, .int .i64 t211, s_.2.1]), (97, .tuple #[.agg #[.int .i64 t215, .int .i64 t216, s_.2.2.1], .bool t220]), (15, .pointer (some ⟨s_.2.2.2, 0, none⟩)), (92, .tuple #[.agg #[.int .i64 t215, .int .i64 t216, s_.2.2.1], .bool t220]), (98, .agg #[.int .i64 t215, .int .i64 t216, s_.2.2.1]), (99, .bool t220)]) (fun s_ w' => (w'.cell? ⟨gb155, 0, none⟩ = some (.int .i64 a1_0) ∧ w'.cell? ⟨gb155, 1, none⟩ = some (.int .i64 a1_1) ∧ w'.cell? ⟨gb155, 2, none⟩ = some (.slice A1_2 l1_2.length c1_2)) ∧ (Kd.R (Kd.int .i64) 3 w' w.heap.size (fun k_ => some k_ ≠ (s_.2.1 : Value).ownBlock ∧ some k_ ≠ (s_.2.2.1 : Value).ownBlock ∧ some k_ ≠ (.slice Ao30 t167.length co30 : Value).ownBlock ∧ some k_ ≠ (.slice Ao40 t202.length co40 : Value).ownBlock ∧ some k_ ≠ (.slice Ao48 t183.length co48 : Value).ownBlock) s_.1 t207) ∧ (Kd.R (Kd.int .i64) 3 w' w.heap.size (fun k_ => some k_ ≠ (s_.1 : Value).ownBlock ∧ some k_ ≠ (s_.2.2.1 : Value).ownBlock ∧ some k_ ≠ (.slice Ao30 t167.length co30 : Value).ownBlock ∧ some k_ ≠ (.slice Ao40 t202.length co40 : Value).ownBlock ∧ some k_ ≠ (.slice Ao48 t183.length co48 : Value).ownBlock) s_.2.1 t212) ∧ (Kd.R (Kd.int .i64) 3 w' w.heap.size (fun k_ => some k_ ≠ (s_.1 : Value).ownBlock ∧ some k_ ≠ (s_.2.1 : Value).ownBlock ∧ some k_ ≠ (.slice Ao30 t167.length co30 : Value).ownBlock ∧ some k_ ≠ (.slice Ao40 t202.length co40 : Value).ownBlock ∧ some k_ ≠ (.slice Ao48 t183.length co48 : Value).ownBlock) s_.2.2.1 t217) ∧ (Kd.R (Kd.int .i64) 3 w' w.heap.size (fun k_ => some k_ ≠ (s_.1 : Value).ownBlock ∧ some k_ ≠ (s_.2.1 : Value).ownBlock ∧ some k_ ≠ (s_.2.2.1 : Value).ownBlock ∧ some k_ ≠ (.slice Ao40 t202.length co40 : Value).ownBlock ∧ some k_ ≠ (.slice Ao48 t183.length co48 : Value).ownBlock) (.slice Ao30 t167.length co30) t167) ∧ (Kd.R (Kd.int .i64) 3 w' w.heap.size (fun k_ => some k_ ≠ (s_.1 : Value).ownBlock ∧ some k_ ≠ (s_.2.1 : Value).ownBlock ∧ some k_ ≠ (s_.2.2.1 : Value).ownBlock ∧ some k_ ≠ (.slice Ao30 t167.length co30 : Value).ownBlock ∧ some k_ ≠ (.slice Ao48 t183.length co48 : Value).ownBlock) (.slice Ao40 t202.length co40) t202) ∧ (Kd.R (Kd.int .i64) 3 w' w.heap.size (fun k_ => some k_ ≠ (s_.1 : Value).ownBlock ∧ some k_ ≠ (s_.2.1 : Value).ownBlock ∧ some k_ ≠ (s_.2.2.1 : Value).ownBlock ∧ some k_ ≠ (.slice Ao30 t167.length co30 : Value).ownBlock ∧ some k_ ≠ (.slice Ao40 t202.length co40 : Value).ownBlock) (.slice Ao48 t183.length co48) t205) ∧ (w'.heap[gb155]? = some (.cells #[.int .i64 a1_0, .int .i64 a1_1, .slice A1_2 l1_2.length c1_2] 24 (0, 0))) ∧ (w'.heap[gb171]? = some (.cells #[.int .i64 t165, .int .i64 t166, .slice Ao30 t167.length co30] 28 (0, 0))) ∧ (w'.heap[gb180]? = some (.cells #[.int .i64 t175, .int .i64 t176, .slice Ao40 t202.length co40] 28 (0, 0))) ∧ (w'.heap[gb187]? = some (.cells #[.int .i64 t181, .int .i64 t182, .slice Ao48 t183.length co48] 28 (0, 0))) ∧ (w'.heap[s_.2.2.2]? = some (.cells #[.int .i64 0, .int .i64 0, .slice none 0 0] 28 (0, 0))) ∧ (w.heap.size ≤ s_.2.2.2) ∧ (w.heap.size ≤ s_.2.2.2) ∧ (gb155 ≠ s_.2.2.2) ∧ (s_.2.2.2 ≠ gb155) ∧ (gb171 ≠ s_.2.2.2) ∧ (s_.2.2.2 ≠ gb171) ∧ (gb180 ≠ s_.2.2.2) ∧ (s_.2.2.2 ≠ gb180) ∧ (gb187 ≠ s_.2.2.2) ∧ (s_.2.2.2 ≠ gb187) ∧ (Below w.heap.size w w')) ?_ ?_
        rotate_left
        ·
         intro hCont
         refine two_ (i := 1) (j := 8) (Ni := some 94) (Nj := some 15) #[true, true, true, false, false, false, false, false, false, false, false] #[true, false, true, false, false, false, false, false, true, false, false] rfl rfl rfl rfl (two_of HT_.out (by kernel_rfl)) (by decide) (by decide) (fun K hK => ?_) (fun K hK => ?_)
         ·
          skip
          refine goes_ Try.func16 (by kernel_rfl) rfl #[.slice A0 l0.length c0] (by rfl) rfl rfl (by (try simp only [List.map_toArray, List.map_cons, List.map_nil]); first | done | rfl | (simp only [List.length_drop, List.length_take]; rfl)) ?_
          with_reducible refine (laws_toIntS.calls kj75 _ _ l0 t207 _ ?side1 ?side2 A120.out).mono ?_
          (case side1 => repeat (first | exact (Kd.C_below HR0.out HB.out) | (with_reducible refine Kd.C_alloc ?_ _) | (with_reducible refine Kd.C_drewN ?_ _) | (with_reducible refine Kd.C_drew ?_)))
          (case side2 => exact HC0.out)
          rintro e w132 ⟨v208, rfl, ho0, hb⟩
          refine ⟨_, rfl, ?_⟩
          have n0_ := c7_ (c8_ (by (with_reducible repeat (first | apply b4 | apply b5 | apply b6)); exact HO_172002.out) (Kd.R_base ho0) hb)
          have n1_ := c7_ (c8_ (by (with_reducible repeat (first | apply b4 | apply b5 | apply b6)); exact HO_181002.out) (Kd.R_base ho0) hb)
          have n2_ := c7_ (c8_ (by (with_reducible repeat (first | apply b4 | apply b5 | apply b6)); exact HO_188002.out) (Kd.R_base ho0) hb)
          have n3_ := c7_ (Kd.R_lower (Kd.R_new' (Kd.R_new' (Kd.R_new' ho0 (Kd.R_lt (by (with_reducible repeat (first | apply b4 | apply b5 | apply b6)); exact HO_172002.out))) (Kd.R_lt (by (with_reducible repeat (first | apply b4 | apply b5 | apply b6)); exact HO_181002.out))) (Kd.R_lt (by (with_reducible repeat (first | apply b4 | apply b5 | apply b6)); exact HO_188002.out))) (below_size (by repeat (first | (with_reducible first | exact HB.out | apply c1_ | apply b8 | apply b9 | refine b7 ?_ GE155.out | refine b7 ?_ GE171.out | refine b7 ?_ GE180.out | refine b7 ?_ GE187.out) | exact HB.out))))
          have n4_ := c7_ (c3_ (g := gb155) (o := .cells #[.int .i64 a1_0, .int .i64 a1_1, .slice A1_2 l1_2.length c1_2] 24 (0, 0)) (by (with_reducible repeat (first | refine b1 ?_ _ | refine b3 ?_ | refine b2 ?_ _)); exact BK155.out) hb)
          have n5_ := c7_ (c3_ (g := gb171) (o := .cells #[.int .i64 t165, .int .i64 t166, .slice Ao30 t167.length co30] 28 (0, 0)) (by (with_reducible repeat (first | refine b1 ?_ _ | refine b3 ?_ | refine b2 ?_ _)); exact BK171.out) hb)
          have n6_ := c7_ (c3_ (g := gb180) (o := .cells #[.int .i64 t175, .int .i64 t176, .slice Ao40 t202.length co40] 28 (0, 0)) (by (with_reducible repeat (first | refine b1 ?_ _ | refine b3 ?_ | refine b2 ?_ _)); exact BK180.out) hb)
          have n7_ := c7_ (c3_ (g := gb187) (o := .cells #[.int .i64 t181, .int .i64 t182, .slice Ao48 t183.length co48] 28 (0, 0)) (by (with_reducible repeat (first | refine b1 ?_ _ | refine b3 ?_ | refine b2 ?_ _)); exact BK187.out) hb)
          have n8_ := c7_ (below_step (by repeat (first | (with_reducible first | exact HB.out | apply c1_ | apply b8 | apply b9 | refine b7 ?_ GE155.out | refine b7 ?_ GE171.out | refine b7 ?_ GE180.out | refine b7 ?_ GE187.out) | exact HB.out)) hb)
          clear HO_172002
          clear HO_181002
          clear HO_188002
          clear BK155
          clear BK171
          clear BK180
          clear BK187
          clear HB
          have HO_172002 := n0_
          have HO_181002 := n1_
          have HO_188002 := n2_
          have HO209 := n3_
          have BK155 := n4_
          have BK171 := n5_
          have BK180 := n6_
          have BK187 := n7_
          have HB := n8_
          clear n0_ n1_ n2_ n3_ n4_ n5_ n6_ n7_ n8_
          (try clear hb)
          (try clear hb2)
          (try clear hk)
          (try clear hi)
          (try clear ho0)
          refine hK.out _ _ ⟨(c2_ BK155.out 0).trans rfl, (c2_ BK155.out 1).trans rfl, (c2_ BK155.out 2).trans rfl⟩ (fun hHeld => ?_)
          clear hK K
          refine norm_ (a' := ?_) ?_ ?_
          rotate_left
          ·
           show Act.put _ (some 94) _ = _
           simp only [Act.put, c4_, c5_, c6_, i64_w, i32_w]
           rfl
          refine two_ (i := 3) (j := 8) (Ni := some 96) (Nj := some 15) #[true, true, true, true, false, false, false, false, false, false, false] #[true, true, true, false, false, false, false, false, true, false, false] rfl rfl rfl rfl (two_of HT_.out (by kernel_rfl)) (by decide) (by decide) (fun K hK => ?_) (fun K hK => ?_)
          ·
           skip
           refine goes_ Try.func17 (by kernel_rfl) rfl #[.agg #[.int .i64 a1_0, .int .i64 a1_1, .slice A1_2 l1_2.length c1_2]] (by rfl) rfl rfl (by (try simp only [List.map_toArray, List.map_cons, List.map_nil]); first | done | rfl | (simp only [List.length_drop, List.length_take]; rfl)) ?_
           with_reducible refine (laws_toAmend.calls kj75 a1_0 a1_1 _ _ l1_2 t210 t211 t212 _ ?side1 ?side2 A121.out).mono ?_
           (case side1 => repeat (first | exact (Kd.C_below HR1_2.out HB.out) | (with_reducible refine Kd.C_alloc ?_ _) | (with_reducible refine Kd.C_drewN ?_ _) | (with_reducible refine Kd.C_drew ?_)))
           (case side2 => exact HC1_2.out)
           rintro e w133 ⟨v213, rfl, ho0, hb⟩
           refine ⟨_, rfl, ?_⟩
           have n0_ := c7_ (c8_ (by (with_reducible repeat (first | apply b4 | apply b5 | apply b6)); exact HO_172002.out) (Kd.R_base ho0) hb)
           have n1_ := c7_ (c8_ (by (with_reducible repeat (first | apply b4 | apply b5 | apply b6)); exact HO_181002.out) (Kd.R_base ho0) hb)
           have n2_ := c7_ (c8_ (by (with_reducible repeat (first | apply b4 | apply b5 | apply b6)); exact HO_188002.out) (Kd.R_base ho0) hb)
           have n3_ := c7_ (c8_ (by (with_reducible repeat (first | apply b4 | apply b5 | apply b6)); exact HO209.out) (Kd.R_base ho0) hb)
           have n4_ := c7_ (Kd.R_lower (Kd.R_new' (Kd.R_new' (Kd.R_new' (Kd.R_new' ho0 (Kd.R_lt (by (with_reducible repeat (first | apply b4 | apply b5 | apply b6)); exact HO_172002.out))) (Kd.R_lt (by (with_reducible repeat (first | apply b4 | apply b5 | apply b6)); exact HO_181002.out))) (Kd.R_lt (by (with_reducible repeat (first | apply b4 | apply b5 | apply b6)); exact HO_188002.out))) (Kd.R_lt (by (with_reducible repeat (first | apply b4 | apply b5 | apply b6)); exact HO209.out))) (below_size (by repeat (first | (with_reducible first | exact HB.out | apply c1_ | apply b8 | apply b9 | refine b7 ?_ GE155.out | refine b7 ?_ GE171.out | refine b7 ?_ GE180.out | refine b7 ?_ GE187.out) | exact HB.out))))
           have n5_ := c7_ (c3_ (g := gb155) (o := .cells #[.int .i64 a1_0, .int .i64 a1_1, .slice A1_2 l1_2.length c1_2] 24 (0, 0)) (by (with_reducible repeat (first | refine b1 ?_ _ | refine b3 ?_ | refine b2 ?_ _)); exact BK155.out) hb)
           have n6_ := c7_ (c3_ (g := gb171) (o := .cells #[.int .i64 t165, .int .i64 t166, .slice Ao30 t167.length co30] 28 (0, 0)) (by (with_reducible repeat (first | refine b1 ?_ _ | refine b3 ?_ | refine b2 ?_ _)); exact BK171.out) hb)
           have n7_ := c7_ (c3_ (g := gb180) (o := .cells #[.int .i64 t175, .int .i64 t176, .slice Ao40 t202.length co40] 28 (0, 0)) (by (with_reducible repeat (first | refine b1 ?_ _ | refine b3 ?_ | refine b2 ?_ _)); exact BK180.out) hb)
           have n8_ := c7_ (c3_ (g := gb187) (o := .cells #[.int .i64 t181, .int .i64 t182, .slice Ao48 t183.length co48] 28 (0, 0)) (by (with_reducible repeat (first | refine b1 ?_ _ | refine b3 ?_ | refine b2 ?_ _)); exact BK187.out) hb)
           have n9_ := c7_ (below_step (by repeat (first | (with_reducible first | exact HB.out | apply c1_ | apply b8 | apply b9 | refine b7 ?_ GE155.out | refine b7 ?_ GE171.out | refine b7 ?_ GE180.out | refine b7 ?_ GE187.out) | exact HB.out)) hb)
           clear HO_172002
           clear HO_181002
           clear HO_188002
           clear HO209
           clear BK155
           clear BK171
           clear BK180
           clear BK187
           clear HB
           have HO_172002 := n0_
           have HO_181002 := n1_
           have HO_188002 := n2_
           have HO209 := n3_
           have HO214 := n4_
           have BK155 := n5_
           have BK171 := n6_
           have BK180 := n7_
           have BK187 := n8_
           have HB := n9_
           clear n0_ n1_ n2_ n3_ n4_ n5_ n6_ n7_ n8_ n9_
           (try clear hb)
           (try clear hb2)
           (try clear hk)
           (try clear hi)
           (try clear ho0)
           obtain ⟨Ao134, co134, eo134⟩ := Kd.R_slice HO209.out
           (first | subst eo134 | (injection eo134 with f1_ f2_ f3_; have f4_ := f1_.symm; have f5_ := f3_.symm; clear f1_ f2_ f3_; subst f4_; subst f5_))
           obtain ⟨Ao135, co135, eo135⟩ := Kd.R_slice HO214.out
           (first | subst eo135 | (injection eo135 with f1_ f2_ f3_; have f4_ := f1_.symm; have f5_ := f3_.symm; clear f1_ f2_ f3_; subst f4_; subst f5_))
           refine hK.out _ _ ⟨(c2_ BK155.out 0).trans rfl, (c2_ BK155.out 1).trans rfl, (c2_ BK155.out 2).trans rfl⟩ (fun hHeld => ?_)
           clear hK K
           refine norm_ (a' := ?_) ?_ ?_
           rotate_left
           ·
            show Act.put _ (some 96) _ = _
            simp only [Act.put, c4_, c5_, c6_, i64_w, i32_w]
            rfl
           refine two_ (i := 4) (j := 8) (Ni := some 97) (Nj := some 15) #[true, true, true, true, true, false, false, false, false, false, false] #[true, true, true, true, false, false, false, false, true, false, false] rfl rfl rfl rfl (two_of HT_.out (by kernel_rfl)) (by decide) (by decide) (fun K hK => ?_) (fun K hK => ?_)
           ·
            skip
            refine goes_ Try.func29 (by kernel_rfl) rfl #[.slice Ao134 t207.length co134, .agg #[.int .i64 t210, .int .i64 t211, .slice Ao135 t212.length co135]] (by rfl) rfl rfl (by (try simp only [List.map_toArray, List.map_cons, List.map_nil]); first | done | rfl | (simp only [List.length_drop, List.length_take]; rfl)) ?_
            with_reducible refine (impl_Undo.calls _ _ t207 t210 t211 _ _ t212 t215 t216 t217 t220 _ ?side1 ?side2 ?side3 ?side4 A122.out).mono ?_
            (case side1 => repeat (first | exact (Kd.R_reads' HO209.out).2.2 | (with_reducible refine Kd.C_alloc ?_ _) | (with_reducible refine Kd.C_drewN ?_ _) | (with_reducible refine Kd.C_drew ?_)))
            (case side2 => exact (Kd.R_reads' HO209.out).2.1)
            (case side3 => repeat (first | exact (Kd.R_reads' HO214.out).2.2 | (with_reducible refine Kd.C_alloc ?_ _) | (with_reducible refine Kd.C_drewN ?_ _) | (with_reducible refine Kd.C_drew ?_)))
            (case side4 => exact (Kd.R_reads' HO214.out).2.1)
            rintro e w136 ⟨v218, rfl, ho0, hb⟩
            refine ⟨_, rfl, ?_⟩
            have n0_ := c7_ (c8_ (by (with_reducible repeat (first | apply b4 | apply b5 | apply b6)); exact HO_172002.out) (Kd.R_base ho0) hb)
            have n1_ := c7_ (c8_ (by (with_reducible repeat (first | apply b4 | apply b5 | apply b6)); exact HO_181002.out) (Kd.R_base ho0) hb)
            have n2_ := c7_ (c8_ (by (with_reducible repeat (first | apply b4 | apply b5 | apply b6)); exact HO_188002.out) (Kd.R_base ho0) hb)
            have n3_ := c7_ (c8_ (by (with_reducible repeat (first | apply b4 | apply b5 | apply b6)); exact HO209.out) (Kd.R_base ho0) hb)
            have n4_ := c7_ (c8_ (by (with_reducible repeat (first | apply b4 | apply b5 | apply b6)); exact HO214.out) (Kd.R_base ho0) hb)
            have n5_ := c7_ (Kd.R_lower (Kd.R_new' (Kd.R_new' (Kd.R_new' (Kd.R_new' (Kd.R_new' ho0 (Kd.R_lt (by (with_reducible repeat (first | apply b4 | apply b5 | apply b6)); exact HO_172002.out))) (Kd.R_lt (by (with_reducible repeat (first | apply b4 | apply b5 | apply b6)); exact HO_181002.out))) (Kd.R_lt (by (with_reducible repeat (first | apply b4 | apply b5 | apply b6)); exact HO_188002.out))) (Kd.R_lt (by (with_reducible repeat (first | apply b4 | apply b5 | apply b6)); exact HO209.out))) (Kd.R_lt (by (with_reducible repeat (first | apply b4 | apply b5 | apply b6)); exact HO214.out))) (below_size (by repeat (first | (with_reducible first | exact HB.out | apply c1_ | apply b8 | apply b9 | refine b7 ?_ GE155.out | refine b7 ?_ GE171.out | refine b7 ?_ GE180.out | refine b7 ?_ GE187.out) | exact HB.out))))
            have n6_ := c7_ (c3_ (g := gb155) (o := .cells #[.int .i64 a1_0, .int .i64 a1_1, .slice A1_2 l1_2.length c1_2] 24 (0, 0)) (by (with_reducible repeat (first | refine b1 ?_ _ | refine b3 ?_ | refine b2 ?_ _)); exact BK155.out) hb)
            have n7_ := c7_ (c3_ (g := gb171) (o := .cells #[.int .i64 t165, .int .i64 t166, .slice Ao30 t167.length co30] 28 (0, 0)) (by (with_reducible repeat (first | refine b1 ?_ _ | refine b3 ?_ | refine b2 ?_ _)); exact BK171.out) hb)
            have n8_ := c7_ (c3_ (g := gb180) (o := .cells #[.int .i64 t175, .int .i64 t176, .slice Ao40 t202.length co40] 28 (0, 0)) (by (with_reducible repeat (first | refine b1 ?_ _ | refine b3 ?_ | refine b2 ?_ _)); exact BK180.out) hb)
            have n9_ := c7_ (c3_ (g := gb187) (o := .cells #[.int .i64 t181, .int .i64 t182, .slice Ao48 t183.length co48] 28 (0, 0)) (by (with_reducible repeat (first | refine b1 ?_ _ | refine b3 ?_ | refine b2 ?_ _)); exact BK187.out) hb)
            have n10_ := c7_ (below_step (by repeat (first | (with_reducible first | exact HB.out | apply c1_ | apply b8 | apply b9 | refine b7 ?_ GE155.out | refine b7 ?_ GE171.out | refine b7 ?_ GE180.out | refine b7 ?_ GE187.out) | exact HB.out)) hb)
            clear HO_172002
            clear HO_181002
            clear HO_188002
            clear HO209
            clear HO214
            clear BK155
            clear BK171
            clear BK180
            clear BK187
            clear HB
            have HO_172002 := n0_
            have HO_181002 := n1_
            have HO_188002 := n2_
            have HO209 := n3_
            have HO214 := n4_
            have HO219 := n5_
            have BK155 := n6_
            have BK171 := n7_
            have BK180 := n8_
            have BK187 := n9_
            have HB := n10_
            clear n0_ n1_ n2_ n3_ n4_ n5_ n6_ n7_ n8_ n9_ n10_
            (try clear hb)
            (try clear hb2)
            (try clear hk)
            (try clear hi)
            (try clear ho0)
            refine hK.out _ _ ⟨(c2_ BK155.out 0).trans rfl, (c2_ BK155.out 1).trans rfl, (c2_ BK155.out 2).trans rfl⟩ (fun hHeld => ?_)
            clear hK K
            refine norm_ (a' := ?_) ?_ ?_
            rotate_left
            ·
             show Act.put _ (some 97) _ = _
             simp only [Act.put, c4_, c5_, c6_, i64_w, i32_w]
             rfl
            refine pure_ (i := 5) (N := some 92) (v := ?_) (a' := ?_) #[true, true, true, true, true, true, false, false, false, false, false] rfl rfl (any_of HT_.out (by kernel_rfl)) (fun _ _ _ h => h) (Or.inl ⟨by rfl, ?_⟩) ?_ ?_
            rotate_left
            ·
             intro w'
             go_simp
             with_reducible rfl
            rotate_left
            ·
             simp only [Act.put, c4_, c5_, c6_, i64_w, i32_w]
             rfl
            refine pure_ (i := 6) (N := some 98) (v := ?_) (a' := ?_) #[true, true, true, true, true, true, true, false, false, false, false] rfl rfl (any_of HT_.out (by kernel_rfl)) (fun _ _ _ h => h) (Or.inl ⟨by rfl, ?_⟩) ?_ ?_
            rotate_left
            ·
             intro w'
             go_simp
             with_reducible rfl
            rotate_left
            ·
             simp only [Act.put, c4_, c5_, c6_, i64_w, i32_w]
             rfl
            refine pure_ (i := 7) (N := some 99) (v := ?_) (a' := ?_) #[true, true, true, true, true, true, true, true, false, false, false] rfl rfl (any_of HT_.out (by kernel_rfl)) (fun _ _ _ h => h) (Or.inl ⟨by rfl, ?_⟩) ?_ ?_
            rotate_left
            ·
             intro w'
             go_simp
             with_reducible rfl
            rotate_left
            ·
             simp only [Act.put, c4_, c5_, c6_, i64_w, i32_w]
             rfl
            refine one_ (i := 8) (N := some 15) #[true, true, true, true, true, true, true, true, true, false, false] rfl rfl (one_of HT_.out (by kernel_rfl)) (by decide) (fun K hK => ?_)
            refine box_step ?hg (N := 15) ?hd (cs := #[.int .i64 0, .int .i64 0, .slice none 0 0]) (t := 28) ?hr ?_; (case hd => rfl); (case hg => rfl); (case hr => first | (go_simp; done) | (go_simp; rfl))
            intro gb221 hg w137 hbox hb
            have n0_ := c7_ (c9_ (by (with_reducible repeat (first | apply b4 | apply b5 | apply b6)); exact HO_172002.out) hb)
            have n1_ := c7_ (c9_ (by (with_reducible repeat (first | apply b4 | apply b5 | apply b6)); exact HO_181002.out) hb)
            have n2_ := c7_ (c9_ (by (with_reducible repeat (first | apply b4 | apply b5 | apply b6)); exact HO_188002.out) hb)
            have n3_ := c7_ (c9_ (by (with_reducible repeat (first | apply b4 | apply b5 | apply b6)); exact HO209.out) hb)
            have n4_ := c7_ (c9_ (by (with_reducible repeat (first | apply b4 | apply b5 | apply b6)); exact HO214.out) hb)
            have n5_ := c7_ (c9_ (by (with_reducible repeat (first | apply b4 | apply b5 | apply b6)); exact HO219.out) hb)
            have n6_ := c7_ (c3_ (g := gb155) (o := .cells #[.int .i64 a1_0, .int .i64 a1_1, .slice A1_2 l1_2.length c1_2] 24 (0, 0)) (by (with_reducible repeat (first | refine b1 ?_ _ | refine b3 ?_ | refine b2 ?_ _)); exact BK155.out) hb)
            have n7_ := c7_ (c3_ (g := gb171) (o := .cells #[.int .i64 t165, .int .i64 t166, .slice Ao30 t167.length co30] 28 (0, 0)) (by (with_reducible repeat (first | refine b1 ?_ _ | refine b3 ?_ | refine b2 ?_ _)); exact BK171.out) hb)
            have n8_ := c7_ (c3_ (g := gb180) (o := .cells #[.int .i64 t175, .int .i64 t176, .slice Ao40 t202.length co40] 28 (0, 0)) (by (with_reducible repeat (first | refine b1 ?_ _ | refine b3 ?_ | refine b2 ?_ _)); exact BK180.out) hb)
            have n9_ := c7_ (c3_ (g := gb187) (o := .cells #[.int .i64 t181, .int .i64 t182, .slice Ao48 t183.length co48] 28 (0, 0)) (by (with_reducible repeat (first | refine b1 ?_ _ | refine b3 ?_ | refine b2 ?_ _)); exact BK187.out) hb)
            have n10_ := c7_ (below_step (by repeat (first | (with_reducible first | exact HB.out | apply c1_ | apply b8 | apply b9 | refine b7 ?_ GE155.out | refine b7 ?_ GE171.out | refine b7 ?_ GE180.out | refine b7 ?_ GE187.out) | exact HB.out)) hb)
            have n11_ := c7_ (hbox)
            have n12_ := c7_ ((by rw [hg]; exact (below_size (by repeat (first | (with_reducible first | exact HB.out | apply c1_ | apply b8 | apply b9 | refine b7 ?_ GE155.out | refine b7 ?_ GE171.out | refine b7 ?_ GE180.out | refine b7 ?_ GE187.out) | exact HB.out))) : w.heap.size ≤ gb221))
            have n13_ := c7_ ((by rw [hg]; exact (below_size (by repeat (first | (with_reducible first | exact HB.out | apply c1_ | apply b8 | apply b9 | refine b7 ?_ GE155.out | refine b7 ?_ GE171.out | refine b7 ?_ GE180.out | refine b7 ?_ GE187.out) | exact HB.out))) : w.heap.size ≤ gb221))
            have n14_ := c7_ ((by rw [hg]; exact d4_ (blk_lt (g := gb155) (o := .cells #[.int .i64 a1_0, .int .i64 a1_1, .slice A1_2 l1_2.length c1_2] 24 (0, 0)) (by (with_reducible repeat (first | refine b1 ?_ _ | refine b3 ?_ | refine b2 ?_ _)); exact BK155.out)) : gb155 ≠ gb221))
            have n15_ := c7_ ((by rw [hg]; exact d5_ (blk_lt (g := gb155) (o := .cells #[.int .i64 a1_0, .int .i64 a1_1, .slice A1_2 l1_2.length c1_2] 24 (0, 0)) (by (with_reducible repeat (first | refine b1 ?_ _ | refine b3 ?_ | refine b2 ?_ _)); exact BK155.out)) : gb221 ≠ gb155))
            have n16_ := c7_ ((by rw [hg]; exact d4_ (blk_lt (g := gb171) (o := .cells #[.int .i64 t165, .int .i64 t166, .slice Ao30 t167.length co30] 28 (0, 0)) (by (with_reducible repeat (first | refine b1 ?_ _ | refine b3 ?_ | refine b2 ?_ _)); exact BK171.out)) : gb171 ≠ gb221))
            have n17_ := c7_ ((by rw [hg]; exact d5_ (blk_lt (g := gb171) (o := .cells #[.int .i64 t165, .int .i64 t166, .slice Ao30 t167.length co30] 28 (0, 0)) (by (with_reducible repeat (first | refine b1 ?_ _ | refine b3 ?_ | refine b2 ?_ _)); exact BK171.out)) : gb221 ≠ gb171))
            have n18_ := c7_ ((by rw [hg]; exact d4_ (blk_lt (g := gb180) (o := .cells #[.int .i64 t175, .int .i64 t176, .slice Ao40 t202.length co40] 28 (0, 0)) (by (with_reducible repeat (first | refine b1 ?_ _ | refine b3 ?_ | refine b2 ?_ _)); exact BK180.out)) : gb180 ≠ gb221))
            have n19_ := c7_ ((by rw [hg]; exact d5_ (blk_lt (g := gb180) (o := .cells #[.int .i64 t175, .int .i64 t176, .slice Ao40 t202.length co40] 28 (0, 0)) (by (with_reducible repeat (first | refine b1 ?_ _ | refine b3 ?_ | refine b2 ?_ _)); exact BK180.out)) : gb221 ≠ gb180))
            have n20_ := c7_ ((by rw [hg]; exact d4_ (blk_lt (g := gb187) (o := .cells #[.int .i64 t181, .int .i64 t182, .slice Ao48 t183.length co48] 28 (0, 0)) (by (with_reducible repeat (first | refine b1 ?_ _ | refine b3 ?_ | refine b2 ?_ _)); exact BK187.out)) : gb187 ≠ gb221))
            have n21_ := c7_ ((by rw [hg]; exact d5_ (blk_lt (g := gb187) (o := .cells #[.int .i64 t181, .int .i64 t182, .slice Ao48 t183.length co48] 28 (0, 0)) (by (with_reducible repeat (first | refine b1 ?_ _ | refine b3 ?_ | refine b2 ?_ _)); exact BK187.out)) : gb221 ≠ gb187))
            clear HO_172002
            clear HO_181002
            clear HO_188002
            clear HO209
            clear HO214
            clear HO219
            clear BK155
            clear BK171
            clear BK180
            clear BK187
            clear HB
            have HO_172002 := n0_
            have HO_181002 := n1_
            have HO_188002 := n2_
            have HO209 := n3_
            have HO214 := n4_
            have HO219 := n5_
            have BK155 := n6_
            have BK171 := n7_
            have BK180 := n8_
            have BK187 := n9_
            have HB := n10_
            have BK221 := n11_
            have GW221 := n12_
            have GE221 := n13_
            have NB155_221 := n14_
            have NB221_155 := n15_
            have NB171_221 := n16_
            have NB221_171 := n17_
            have NB180_221 := n18_
            have NB221_180 := n19_
            have NB187_221 := n20_
            have NB221_187 := n21_
            clear n0_ n1_ n2_ n3_ n4_ n5_ n6_ n7_ n8_ n9_ n10_ n11_ n12_ n13_ n14_ n15_ n16_ n17_ n18_ n19_ n20_ n21_
            clear hb hbox hg
            refine hK.out _ _ ⟨(c2_ BK155.out 0).trans rfl, (c2_ BK155.out 1).trans rfl, (c2_ BK155.out 2).trans rfl⟩ (fun hHeld => ?_)
            clear hK K
            refine norm_ (a' := ?_) ?_ ?_
            rotate_left
            ·
             show Act.put _ (some 15) _ = _
             simp only [Act.put, c4_, c5_, c6_, i64_w, i32_w]
             rfl
            exact norm_ (by simp only [putAll, Act.put, c4_, c5_, c6_]) (hCont (.slice Ao134 t207.length co134, .slice Ao135 t212.length co135, v218, gb221) _ ⟨hHeld, (by (with_reducible repeat (first | apply b4 | apply b5 | apply b6)); exact d2_ HO209.out (fun _ hk => ⟨hk.1.2, ⟨hk.2, ⟨hk.1.1.1.1.2, ⟨hk.1.1.1.2, hk.1.1.2⟩⟩⟩⟩)), (by (with_reducible repeat (first | apply b4 | apply b5 | apply b6)); exact d2_ HO214.out (fun _ hk => ⟨hk.1.2, ⟨hk.2, ⟨hk.1.1.1.1.2, ⟨hk.1.1.1.2, hk.1.1.2⟩⟩⟩⟩)), (by (with_reducible repeat (first | apply b4 | apply b5 | apply b6)); exact d2_ HO219.out (fun _ hk => ⟨hk.1.2, ⟨hk.2, ⟨hk.1.1.1.1.2, ⟨hk.1.1.1.2, hk.1.1.2⟩⟩⟩⟩)), (by (with_reducible repeat (first | apply b4 | apply b5 | apply b6)); exact d2_ HO_172002.out (fun _ hk => ⟨hk.1.1.2, ⟨hk.1.2, ⟨hk.2, ⟨hk.1.1.1.1, hk.1.1.1.2⟩⟩⟩⟩)), (by (with_reducible repeat (first | apply b4 | apply b5 | apply b6)); exact d2_ HO_181002.out (fun _ hk => ⟨hk.1.1.2, ⟨hk.1.2, ⟨hk.2, ⟨hk.1.1.1.1, hk.1.1.1.2⟩⟩⟩⟩)), (by (with_reducible repeat (first | apply b4 | apply b5 | apply b6)); exact d2_ HO_188002.out (fun _ hk => ⟨hk.1.1.2, ⟨hk.1.2, ⟨hk.2, ⟨hk.1.1.1.1, hk.1.1.1.2⟩⟩⟩⟩)), (by (with_reducible repeat (first | refine b1 ?_ _ | refine b3 ?_ | refine b2 ?_ _)); exact BK155.out), (by (with_reducible repeat (first | refine b1 ?_ _ | refine b3 ?_ | refine b2 ?_ _)); exact BK171.out), (by (with_reducible repeat (first | refine b1 ?_ _ | refine b3 ?_ | refine b2 ?_ _)); exact BK180.out), (by (with_reducible repeat (first | refine b1 ?_ _ | refine b3 ?_ | refine b2 ?_ _)); exact BK187.out), (by (with_reducible repeat (first | refine b1 ?_ _ | refine b3 ?_ | refine b2 ?_ _)); exact BK221.out), GW221.out, GE221.out, NB155_221.out, NB221_155.out, NB171_221.out, NB221_171.out, NB180_221.out, NB221_180.out, NB187_221.out, NB221_187.out, (by repeat (first | (with_reducible first | exact HB.out | apply c1_ | apply b8 | apply b9 | refine b7 ?_ GE155.out | refine b7 ?_ GE171.out | refine b7 ?_ GE180.out | refine b7 ?_ GE187.out | refine b7 ?_ GE221.out) | exact HB.out))⟩)
           skip
           refine box_step ?hg (N := 15) ?hd (cs := #[.int .i64 0, .int .i64 0, .slice none 0 0]) (t := 28) ?hr ?_; (case hd => rfl); (case hg => rfl); (case hr => first | (go_simp; done) | (go_simp; rfl))
           intro gb221 hg w134 hbox hb
           have n0_ := c7_ (c9_ (by (with_reducible repeat (first | apply b4 | apply b5 | apply b6)); exact HO_172002.out) hb)
           have n1_ := c7_ (c9_ (by (with_reducible repeat (first | apply b4 | apply b5 | apply b6)); exact HO_181002.out) hb)
           have n2_ := c7_ (c9_ (by (with_reducible repeat (first | apply b4 | apply b5 | apply b6)); exact HO_188002.out) hb)
           have n3_ := c7_ (c9_ (by (with_reducible repeat (first | apply b4 | apply b5 | apply b6)); exact HO209.out) hb)
           have n4_ := c7_ (c9_ (by (with_reducible repeat (first | apply b4 | apply b5 | apply b6)); exact HO214.out) hb)
           have n5_ := c7_ (c3_ (g := gb155) (o := .cells #[.int .i64 a1_0, .int .i64 a1_1, .slice A1_2 l1_2.length c1_2] 24 (0, 0)) (by (with_reducible repeat (first | refine b1 ?_ _ | refine b3 ?_ | refine b2 ?_ _)); exact BK155.out) hb)
           have n6_ := c7_ (c3_ (g := gb171) (o := .cells #[.int .i64 t165, .int .i64 t166, .slice Ao30 t167.length co30] 28 (0, 0)) (by (with_reducible repeat (first | refine b1 ?_ _ | refine b3 ?_ | refine b2 ?_ _)); exact BK171.out) hb)
           have n7_ := c7_ (c3_ (g := gb180) (o := .cells #[.int .i64 t175, .int .i64 t176, .slice Ao40 t202.length co40] 28 (0, 0)) (by (with_reducible repeat (first | refine b1 ?_ _ | refine b3 ?_ | refine b2 ?_ _)); exact BK180.out) hb)
           have n8_ := c7_ (c3_ (g := gb187) (o := .cells #[.int .i64 t181, .int .i64 t182, .slice Ao48 t183.length co48] 28 (0, 0)) (by (with_reducible repeat (first | refine b1 ?_ _ | refine b3 ?_ | refine b2 ?_ _)); exact BK187.out) hb)
           have n9_ := c7_ (below_step (by repeat (first | (with_reducible first | exact HB.out | apply c1_ | apply b8 | apply b9 | refine b7 ?_ GE155.out | refine b7 ?_ GE171.out | refine b7 ?_ GE180.out | refine b7 ?_ GE187.out) | exact HB.out)) hb)
           have n10_ := c7_ (hbox)
           have n11_ := c7_ ((by rw [hg]; exact (below_size (by repeat (first | (with_reducible first | exact HB.out | apply c1_ | apply b8 | apply b9 | refine b7 ?_ GE155.out | refine b7 ?_ GE171.out | refine b7 ?_ GE180.out | refine b7 ?_ GE187.out) | exact HB.out))) : w.heap.size ≤ gb221))
           have n12_ := c7_ ((by rw [hg]; exact (below_size (by repeat (first | (with_reducible first | exact HB.out | apply c1_ | apply b8 | apply b9 | refine b7 ?_ GE155.out | refine b7 ?_ GE171.out | refine b7 ?_ GE180.out | refine b7 ?_ GE187.out) | exact HB.out))) : w.heap.size ≤ gb221))
           have n13_ := c7_ ((by rw [hg]; exact d4_ (blk_lt (g := gb155) (o := .cells #[.int .i64 a1_0, .int .i64 a1_1, .slice A1_2 l1_2.length c1_2] 24 (0, 0)) (by (with_reducible repeat (first | refine b1 ?_ _ | refine b3 ?_ | refine b2 ?_ _)); exact BK155.out)) : gb155 ≠ gb221))
           have n14_ := c7_ ((by rw [hg]; exact d5_ (blk_lt (g := gb155) (o := .cells #[.int .i64 a1_0, .int .i64 a1_1, .slice A1_2 l1_2.length c1_2] 24 (0, 0)) (by (with_reducible repeat (first | refine b1 ?_ _ | refine b3 ?_ | refine b2 ?_ _)); exact BK155.out)) : gb221 ≠ gb155))
           have n15_ := c7_ ((by rw [hg]; exact d4_ (blk_lt (g := gb171) (o := .cells #[.int .i64 t165, .int .i64 t166, .slice Ao30 t167.length co30] 28 (0, 0)) (by (with_reducible repeat (first | refine b1 ?_ _ | refine b3 ?_ | refine b2 ?_ _)); exact BK171.out)) : gb171 ≠ gb221))
           have n16_ := c7_ ((by rw [hg]; exact d5_ (blk_lt (g := gb171) (o := .cells #[.int .i64 t165, .int .i64 t166, .slice Ao30 t167.length co30] 28 (0, 0)) (by (with_reducible repeat (first | refine b1 ?_ _ | refine b3 ?_ | refine b2 ?_ _)); exact BK171.out)) : gb221 ≠ gb171))
           have n17_ := c7_ ((by rw [hg]; exact d4_ (blk_lt (g := gb180) (o := .cells #[.int .i64 t175, .int .i64 t176, .slice Ao40 t202.length co40] 28 (0, 0)) (by (with_reducible repeat (first | refine b1 ?_ _ | refine b3 ?_ | refine b2 ?_ _)); exact BK180.out)) : gb180 ≠ gb221))
           have n18_ := c7_ ((by rw [hg]; exact d5_ (blk_lt (g := gb180) (o := .cells #[.int .i64 t175, .int .i64 t176, .slice Ao40 t202.length co40] 28 (0, 0)) (by (with_reducible repeat (first | refine b1 ?_ _ | refine b3 ?_ | refine b2 ?_ _)); exact BK180.out)) : gb221 ≠ gb180))
           have n19_ := c7_ ((by rw [hg]; exact d4_ (blk_lt (g := gb187) (o := .cells #[.int .i64 t181, .int .i64 t182, .slice Ao48 t183.length co48] 28 (0, 0)) (by (with_reducible repeat (first | refine b1 ?_ _ | refine b3 ?_ | refine b2 ?_ _)); exact BK187.out)) : gb187 ≠ gb221))
           have n20_ := c7_ ((by rw [hg]; exact d5_ (blk_lt (g := gb187) (o := .cells #[.int .i64 t181, .int .i64 t182, .slice Ao48 t183.length co48] 28 (0, 0)) (by (with_reducible repeat (first | refine b1 ?_ _ | refine b3 ?_ | refine b2 ?_ _)); exact BK187.out)) : gb221 ≠ gb187))
           clear HO_172002
           clear HO_181002
           clear HO_188002
           clear HO209
           clear HO214
           clear BK155
           clear BK171
           clear BK180
           clear BK187
           clear HB
           have HO_172002 := n0_
           have HO_181002 := n1_
           have HO_188002 := n2_
           have HO209 := n3_
           have HO214 := n4_
           have BK155 := n5_
           have BK171 := n6_
           have BK180 := n7_
           have BK187 := n8_
           have HB := n9_
           have BK221 := n10_
           have GW221 := n11_
           have GE221 := n12_
           have NB155_221 := n13_
           have NB221_155 := n14_
           have NB171_221 := n15_
           have NB221_171 := n16_
           have NB180_221 := n17_
           have NB221_180 := n18_
           have NB187_221 := n19_
           have NB221_187 := n20_
           clear n0_ n1_ n2_ n3_ n4_ n5_ n6_ n7_ n8_ n9_ n10_ n11_ n12_ n13_ n14_ n15_ n16_ n17_ n18_ n19_ n20_
           clear hb hbox hg
           obtain ⟨Ao135, co135, eo135⟩ := Kd.R_slice HO209.out
           (first | subst eo135 | (injection eo135 with f1_ f2_ f3_; have f4_ := f1_.symm; have f5_ := f3_.symm; clear f1_ f2_ f3_; subst f4_; subst f5_))
           obtain ⟨Ao136, co136, eo136⟩ := Kd.R_slice HO214.out
           (first | subst eo136 | (injection eo136 with f1_ f2_ f3_; have f4_ := f1_.symm; have f5_ := f3_.symm; clear f1_ f2_ f3_; subst f4_; subst f5_))
           refine hK.out _ _ ⟨(c2_ BK155.out 0).trans rfl, (c2_ BK155.out 1).trans rfl, (c2_ BK155.out 2).trans rfl⟩ (fun hHeld => ?_)
           clear hK K
           refine norm_ (a' := ?_) ?_ ?_
           rotate_left
           ·
            show Act.put _ (some 15) _ = _
            simp only [Act.put, c4_, c5_, c6_, i64_w, i32_w]
            rfl
           refine one_ (i := 4) (N := some 97) #[true, true, true, true, true, false, false, false, true, false, false] rfl rfl (one_of HT_.out (by kernel_rfl)) (by decide) (fun K hK => ?_)
           refine goes_ Try.func29 (by kernel_rfl) rfl #[.slice Ao135 t207.length co135, .agg #[.int .i64 t210, .int .i64 t211, .slice Ao136 t212.length co136]] (by rfl) rfl rfl (by (try simp only [List.map_toArray, List.map_cons, List.map_nil]); first | done | rfl | (simp only [List.length_drop, List.length_take]; rfl)) ?_
           with_reducible refine (impl_Undo.calls _ _ t207 t210 t211 _ _ t212 t215 t216 t217 t220 _ ?side1 ?side2 ?side3 ?side4 A122.out).mono ?_
           (case side1 => repeat (first | exact (Kd.R_reads' HO209.out).2.2 | (with_reducible refine Kd.C_alloc ?_ _) | (with_reducible refine Kd.C_drewN ?_ _) | (with_reducible refine Kd.C_drew ?_)))
           (case side2 => exact (Kd.R_reads' HO209.out).2.1)
           (case side3 => repeat (first | exact (Kd.R_reads' HO214.out).2.2 | (with_reducible refine Kd.C_alloc ?_ _) | (with_reducible refine Kd.C_drewN ?_ _) | (with_reducible refine Kd.C_drew ?_)))
           (case side4 => exact (Kd.R_reads' HO214.out).2.1)
           rintro e w137 ⟨v218, rfl, ho0, hb⟩
           refine ⟨_, rfl, ?_⟩
           have n0_ := c7_ (c8_ (by (with_reducible repeat (first | apply b4 | apply b5 | apply b6)); exact HO_172002.out) (Kd.R_base ho0) hb)
           have n1_ := c7_ (c8_ (by (with_reducible repeat (first | apply b4 | apply b5 | apply b6)); exact HO_181002.out) (Kd.R_base ho0) hb)
           have n2_ := c7_ (c8_ (by (with_reducible repeat (first | apply b4 | apply b5 | apply b6)); exact HO_188002.out) (Kd.R_base ho0) hb)
           have n3_ := c7_ (c8_ (by (with_reducible repeat (first | apply b4 | apply b5 | apply b6)); exact HO209.out) (Kd.R_base ho0) hb)
           have n4_ := c7_ (c8_ (by (with_reducible repeat (first | apply b4 | apply b5 | apply b6)); exact HO214.out) (Kd.R_base ho0) hb)
           have n5_ := c7_ (Kd.R_lower (Kd.R_new' (Kd.R_new' (Kd.R_new' (Kd.R_new' (Kd.R_new' ho0 (Kd.R_lt (by (with_reducible repeat (first | apply b4 | apply b5 | apply b6)); exact HO_172002.out))) (Kd.R_lt (by (with_reducible repeat (first | apply b4 | apply b5 | apply b6)); exact HO_181002.out))) (Kd.R_lt (by (with_reducible repeat (first | apply b4 | apply b5 | apply b6)); exact HO_188002.out))) (Kd.R_lt (by (with_reducible repeat (first | apply b4 | apply b5 | apply b6)); exact HO209.out))) (Kd.R_lt (by (with_reducible repeat (first | apply b4 | apply b5 | apply b6)); exact HO214.out))) (below_size (by repeat (first | (with_reducible first | exact HB.out | apply c1_ | apply b8 | apply b9 | refine b7 ?_ GE155.out | refine b7 ?_ GE171.out | refine b7 ?_ GE180.out | refine b7 ?_ GE187.out | refine b7 ?_ GE221.out) | exact HB.out))))
           have n6_ := c7_ (c3_ (g := gb155) (o := .cells #[.int .i64 a1_0, .int .i64 a1_1, .slice A1_2 l1_2.length c1_2] 24 (0, 0)) (by (with_reducible repeat (first | refine b1 ?_ _ | refine b3 ?_ | refine b2 ?_ _)); exact BK155.out) hb)
           have n7_ := c7_ (c3_ (g := gb171) (o := .cells #[.int .i64 t165, .int .i64 t166, .slice Ao30 t167.length co30] 28 (0, 0)) (by (with_reducible repeat (first | refine b1 ?_ _ | refine b3 ?_ | refine b2 ?_ _)); exact BK171.out) hb)
           have n8_ := c7_ (c3_ (g := gb180) (o := .cells #[.int .i64 t175, .int .i64 t176, .slice Ao40 t202.length co40] 28 (0, 0)) (by (with_reducible repeat (first | refine b1 ?_ _ | refine b3 ?_ | refine b2 ?_ _)); exact BK180.out) hb)
           have n9_ := c7_ (c3_ (g := gb187) (o := .cells #[.int .i64 t181, .int .i64 t182, .slice Ao48 t183.length co48] 28 (0, 0)) (by (with_reducible repeat (first | refine b1 ?_ _ | refine b3 ?_ | refine b2 ?_ _)); exact BK187.out) hb)
           have n10_ := c7_ (c3_ (g := gb221) (o := .cells #[.int .i64 0, .int .i64 0, .slice none 0 0] 28 (0, 0)) (by (with_reducible repeat (first | refine b1 ?_ _ | refine b3 ?_ | refine b2 ?_ _)); exact BK221.out) hb)
           have n11_ := c7_ (below_step (by repeat (first | (with_reducible first | exact HB.out | apply c1_ | apply b8 | apply b9 | refine b7 ?_ GE155.out | refine b7 ?_ GE171.out | refine b7 ?_ GE180.out | refine b7 ?_ GE187.out | refine b7 ?_ GE221.out) | exact HB.out)) hb)
           clear HO_172002
           clear HO_181002
           clear HO_188002
           clear HO209
           clear HO214
           clear BK155
           clear BK171
           clear BK180
           clear BK187
           clear BK221
           clear HB
           have HO_172002 := n0_
           have HO_181002 := n1_
           have HO_188002 := n2_
           have HO209 := n3_
           have HO214 := n4_
           have HO219 := n5_
           have BK155 := n6_
           have BK171 := n7_
           have BK180 := n8_
           have BK187 := n9_
           have BK221 := n10_
           have HB := n11_
           clear n0_ n1_ n2_ n3_ n4_ n5_ n6_ n7_ n8_ n9_ n10_ n11_
           (try clear hb)
           (try clear hb2)
           (try clear hk)
           (try clear hi)
           (try clear ho0)
           refine hK.out _ _ ⟨(c2_ BK155.out 0).trans rfl, (c2_ BK155.out 1).trans rfl, (c2_ BK155.out 2).trans rfl⟩ (fun hHeld => ?_)
           clear hK K
           refine norm_ (a' := ?_) ?_ ?_
           rotate_left
           ·
            show Act.put _ (some 97) _ = _
            simp only [Act.put, c4_, c5_, c6_, i64_w, i32_w]
            rfl
           refine pure_ (i := 5) (N := some 92) (v := ?_) (a' := ?_) #[true, true, true, true, true, true, false, false, true, false, false] rfl rfl (any_of HT_.out (by kernel_rfl)) (fun _ _ _ h => h) (Or.inl ⟨by rfl, ?_⟩) ?_ ?_
           rotate_left
           ·
            intro w'
            go_simp
            with_reducible rfl
           rotate_left
           ·
            simp only [Act.put, c4_, c5_, c6_, i64_w, i32_w]
            rfl
           refine pure_ (i := 6) (N := some 98) (v := ?_) (a' := ?_) #[true, true, true, true, true, true, true, false, true, false, false] rfl rfl (any_of HT_.out (by kernel_rfl)) (fun _ _ _ h => h) (Or.inl ⟨by rfl, ?_⟩) ?_ ?_
           rotate_left
           ·
            intro w'
            go_simp
            with_reducible rfl
           rotate_left
           ·
            simp only [Act.put, c4_, c5_, c6_, i64_w, i32_w]
            rfl
           refine pure_ (i := 7) (N := some 99) (v := ?_) (a' := ?_) #[true, true, true, true, true, true, true, true, true, false, false] rfl rfl (any_of HT_.out (by kernel_rfl)) (fun _ _ _ h => h) (Or.inl ⟨by rfl, ?_⟩) ?_ ?_
           rotate_left
           ·
            intro w'
            go_simp
            with_reducible rfl
           rotate_left
           ·
            simp only [Act.put, c4_, c5_, c6_, i64_w, i32_w]
            rfl
           exact norm_ (by simp only [putAll, Act.put, c4_, c5_, c6_]) (hCont (.slice Ao135 t207.length co135, .slice Ao136 t212.length co136, v218, gb221) _ ⟨hHeld, (by (with_reducible repeat (first | apply b4 | apply b5 | apply b6)); exact d2_ HO209.out (fun _ hk => ⟨hk.1.2, ⟨hk.2, ⟨hk.1.1.1.1.2, ⟨hk.1.1.1.2, hk.1.1.2⟩⟩⟩⟩)), (by (with_reducible repeat (first | apply b4 | apply b5 | apply b6)); exact d2_ HO214.out (fun _ hk => ⟨hk.1.2, ⟨hk.2, ⟨hk.1.1.1.1.2, ⟨hk.1.1.1.2, hk.1.1.2⟩⟩⟩⟩)), (by (with_reducible repeat (first | apply b4 | apply b5 | apply b6)); exact d2_ HO219.out (fun _ hk => ⟨hk.1.2, ⟨hk.2, ⟨hk.1.1.1.1.2, ⟨hk.1.1.1.2, hk.1.1.2⟩⟩⟩⟩)), (by (with_reducible repeat (first | apply b4 | apply b5 | apply b6)); exact d2_ HO_172002.out (fun _ hk => ⟨hk.1.1.2, ⟨hk.1.2, ⟨hk.2, ⟨hk.1.1.1.1, hk.1.1.1.2⟩⟩⟩⟩)), (by (with_reducible repeat (first | apply b4 | apply b5 | apply b6)); exact d2_ HO_181002.out (fun _ hk => ⟨hk.1.1.2, ⟨hk.1.2, ⟨hk.2, ⟨hk.1.1.1.1, hk.1.1.1.2⟩⟩⟩⟩)), (by (with_reducible repeat (first | apply b4 | apply b5 | apply b6)); exact d2_ HO_188002.out (fun _ hk => ⟨hk.1.1.2, ⟨hk.1.2, ⟨hk.2, ⟨hk.1.1.1.1, hk.1.1.1.2⟩⟩⟩⟩)), (by (with_reducible repeat (first | refine b1 ?_ _ | refine b3 ?_ | refine b2 ?_ _)); exact BK155.out), (by (with_reducible repeat (first | refine b1 ?_ _ | refine b3 ?_ | refine b2 ?_ _)); exact BK171.out), (by (with_reducible repeat (first | refine b1 ?_ _ | refine b3 ?_ | refine b2 ?_ _)); exact BK180.out), (by (with_reducible repeat (first | refine b1 ?_ _ | refine b3 ?_ | refine b2 ?_ _)); exact BK187.out), (by (with_reducible repeat (first | refine b1 ?_ _ | refine b3 ?_ | refine b2 ?_ _)); exact BK221.out), GW221.out, GE221.out, NB155_221.out, NB221_155.out, NB171_221.out, NB221_171.out, NB180_221.out, NB221_180.out, NB187_221.out, NB221_187.out, (by repeat (first | (with_reducible first | exact HB.out | apply c1_ | apply b8 | apply b9 | refine b7 ?_ GE155.out | refine b7 ?_ GE171.out | refine b7 ?_ GE180.out | refine b7 ?_ GE187.out | refine b7 ?_ GE221.out) | exact HB.out))⟩)
          skip
          refine box_step ?hg (N := 15) ?hd (cs := #[.int .i64 0, .int .i64 0, .slice none 0 0]) (t := 28) ?hr ?_; (case hd => rfl); (case hg => rfl); (case hr => first | (go_simp; done) | (go_simp; rfl))
          intro gb221 hg w133 hbox hb
          have n0_ := c7_ (c9_ (by (with_reducible repeat (first | apply b4 | apply b5 | apply b6)); exact HO_172002.out) hb)
          have n1_ := c7_ (c9_ (by (with_reducible repeat (first | apply b4 | apply b5 | apply b6)); exact HO_181002.out) hb)
          have n2_ := c7_ (c9_ (by (with_reducible repeat (first | apply b4 | apply b5 | apply b6)); exact HO_188002.out) hb)
          have n3_ := c7_ (c9_ (by (with_reducible repeat (first | apply b4 | apply b5 | apply b6)); exact HO209.out) hb)
          have n4_ := c7_ (c3_ (g := gb155) (o := .cells #[.int .i64 a1_0, .int .i64 a1_1, .slice A1_2 l1_2.length c1_2] 24 (0, 0)) (by (with_reducible repeat (first | refine b1 ?_ _ | refine b3 ?_ | refine b2 ?_ _)); exact BK155.out) hb)
          have n5_ := c7_ (c3_ (g := gb171) (o := .cells #[.int .i64 t165, .int .i64 t166, .slice Ao30 t167.length co30] 28 (0, 0)) (by (with_reducible repeat (first | refine b1 ?_ _ | refine b3 ?_ | refine b2 ?_ _)); exact BK171.out) hb)
          have n6_ := c7_ (c3_ (g := gb180) (o := .cells #[.int .i64 t175, .int .i64 t176, .slice Ao40 t202.length co40] 28 (0, 0)) (by (with_reducible repeat (first | refine b1 ?_ _ | refine b3 ?_ | refine b2 ?_ _)); exact BK180.out) hb)
          have n7_ := c7_ (c3_ (g := gb187) (o := .cells #[.int .i64 t181, .int .i64 t182, .slice Ao48 t183.length co48] 28 (0, 0)) (by (with_reducible repeat (first | refine b1 ?_ _ | refine b3 ?_ | refine b2 ?_ _)); exact BK187.out) hb)
          have n8_ := c7_ (below_step (by repeat (first | (with_reducible first | exact HB.out | apply c1_ | apply b8 | apply b9 | refine b7 ?_ GE155.out | refine b7 ?_ GE171.out | refine b7 ?_ GE180.out | refine b7 ?_ GE187.out) | exact HB.out)) hb)
          have n9_ := c7_ (hbox)
          have n10_ := c7_ ((by rw [hg]; exact (below_size (by repeat (first | (with_reducible first | exact HB.out | apply c1_ | apply b8 | apply b9 | refine b7 ?_ GE155.out | refine b7 ?_ GE171.out | refine b7 ?_ GE180.out | refine b7 ?_ GE187.out) | exact HB.out))) : w.heap.size ≤ gb221))
          have n11_ := c7_ ((by rw [hg]; exact (below_size (by repeat (first | (with_reducible first | exact HB.out | apply c1_ | apply b8 | apply b9 | refine b7 ?_ GE155.out | refine b7 ?_ GE171.out | refine b7 ?_ GE180.out | refine b7 ?_ GE187.out) | exact HB.out))) : w.heap.size ≤ gb221))
          have n12_ := c7_ ((by rw [hg]; exact d4_ (blk_lt (g := gb155) (o := .cells #[.int .i64 a1_0, .int .i64 a1_1, .slice A1_2 l1_2.length c1_2] 24 (0, 0)) (by (with_reducible repeat (first | refine b1 ?_ _ | refine b3 ?_ | refine b2 ?_ _)); exact BK155.out)) : gb155 ≠ gb221))
          have n13_ := c7_ ((by rw [hg]; exact d5_ (blk_lt (g := gb155) (o := .cells #[.int .i64 a1_0, .int .i64 a1_1, .slice A1_2 l1_2.length c1_2] 24 (0, 0)) (by (with_reducible repeat (first | refine b1 ?_ _ | refine b3 ?_ | refine b2 ?_ _)); exact BK155.out)) : gb221 ≠ gb155))
          have n14_ := c7_ ((by rw [hg]; exact d4_ (blk_lt (g := gb171) (o := .cells #[.int .i64 t165, .int .i64 t166, .slice Ao30 t167.length co30] 28 (0, 0)) (by (with_reducible repeat (first | refine b1 ?_ _ | refine b3 ?_ | refine b2 ?_ _)); exact BK171.out)) : gb171 ≠ gb221))
          have n15_ := c7_ ((by rw [hg]; exact d5_ (blk_lt (g := gb171) (o := .cells #[.int .i64 t165, .int .i64 t166, .slice Ao30 t167.length co30] 28 (0, 0)) (by (with_reducible repeat (first | refine b1 ?_ _ | refine b3 ?_ | refine b2 ?_ _)); exact BK171.out)) : gb221 ≠ gb171))
          have n16_ := c7_ ((by rw [hg]; exact d4_ (blk_lt (g := gb180) (o := .cells #[.int .i64 t175, .int .i64 t176, .slice Ao40 t202.length co40] 28 (0, 0)) (by (with_reducible repeat (first | refine b1 ?_ _ | refine b3 ?_ | refine b2 ?_ _)); exact BK180.out)) : gb180 ≠ gb221))
          have n17_ := c7_ ((by rw [hg]; exact d5_ (blk_lt (g := gb180) (o := .cells #[.int .i64 t175, .int .i64 t176, .slice Ao40 t202.length co40] 28 (0, 0)) (by (with_reducible repeat (first | refine b1 ?_ _ | refine b3 ?_ | refine b2 ?_ _)); exact BK180.out)) : gb221 ≠ gb180))
          have n18_ := c7_ ((by rw [hg]; exact d4_ (blk_lt (g := gb187) (o := .cells #[.int .i64 t181, .int .i64 t182, .slice Ao48 t183.length co48] 28 (0, 0)) (by (with_reducible repeat (first | refine b1 ?_ _ | refine b3 ?_ | refine b2 ?_ _)); exact BK187.out)) : gb187 ≠ gb221))
          have n19_ := c7_ ((by rw [hg]; exact d5_ (blk_lt (g := gb187) (o := .cells #[.int .i64 t181, .int .i64 t182, .slice Ao48 t183.length co48] 28 (0, 0)) (by (with_reducible repeat (first | refine b1 ?_ _ | refine b3 ?_ | refine b2 ?_ _)); exact BK187.out)) : gb221 ≠ gb187))
          clear HO_172002
          clear HO_181002
          clear HO_188002
          clear HO209
          clear BK155
          clear BK171
          clear BK180
          clear BK187
          clear HB
          have HO_172002 := n0_
          have HO_181002 := n1_
          have HO_188002 := n2_
          have HO209 := n3_
          have BK155 := n4_
          have BK171 := n5_
          have BK180 := n6_
          have BK187 := n7_
          have HB := n8_
          have BK221 := n9_
          have GW221 := n10_
          have GE221 := n11_
          have NB155_221 := n12_
          have NB221_155 := n13_
          have NB171_221 := n14_
          have NB221_171 := n15_
          have NB180_221 := n16_
          have NB221_180 := n17_
          have NB187_221 := n18_
          have NB221_187 := n19_
          clear n0_ n1_ n2_ n3_ n4_ n5_ n6_ n7_ n8_ n9_ n10_ n11_ n12_ n13_ n14_ n15_ n16_ n17_ n18_ n19_
          clear hb hbox hg
          refine hK.out _ _ ⟨(c2_ BK155.out 0).trans rfl, (c2_ BK155.out 1).trans rfl, (c2_ BK155.out 2).trans rfl⟩ (fun hHeld => ?_)
          clear hK K
          refine norm_ (a' := ?_) ?_ ?_
          rotate_left
          ·
           show Act.put _ (some 15) _ = _
           simp only [Act.put, c4_, c5_, c6_, i64_w, i32_w]
           rfl
          refine one_ (i := 3) (N := some 96) #[true, true, true, true, false, false, false, false, true, false, false] rfl rfl (one_of HT_.out (by kernel_rfl)) (by decide) (fun K hK => ?_)
          refine goes_ Try.func17 (by kernel_rfl) rfl #[.agg #[.int .i64 a1_0, .int .i64 a1_1, .slice A1_2 l1_2.length c1_2]] (by rfl) rfl rfl (by (try simp only [List.map_toArray, List.map_cons, List.map_nil]); first | done | rfl | (simp only [List.length_drop, List.length_take]; rfl)) ?_
          with_reducible refine (laws_toAmend.calls kj75 a1_0 a1_1 _ _ l1_2 t210 t211 t212 _ ?side1 ?side2 A121.out).mono ?_
          (case side1 => repeat (first | exact (Kd.C_below HR1_2.out HB.out) | (with_reducible refine Kd.C_alloc ?_ _) | (with_reducible refine Kd.C_drewN ?_ _) | (with_reducible refine Kd.C_drew ?_)))
          (case side2 => exact HC1_2.out)
          rintro e w134 ⟨v213, rfl, ho0, hb⟩
          refine ⟨_, rfl, ?_⟩
          have n0_ := c7_ (c8_ (by (with_reducible repeat (first | apply b4 | apply b5 | apply b6)); exact HO_172002.out) (Kd.R_base ho0) hb)
          have n1_ := c7_ (c8_ (by (with_reducible repeat (first | apply b4 | apply b5 | apply b6)); exact HO_181002.out) (Kd.R_base ho0) hb)
          have n2_ := c7_ (c8_ (by (with_reducible repeat (first | apply b4 | apply b5 | apply b6)); exact HO_188002.out) (Kd.R_base ho0) hb)
          have n3_ := c7_ (c8_ (by (with_reducible repeat (first | apply b4 | apply b5 | apply b6)); exact HO209.out) (Kd.R_base ho0) hb)
          have n4_ := c7_ (Kd.R_lower (Kd.R_new' (Kd.R_new' (Kd.R_new' (Kd.R_new' ho0 (Kd.R_lt (by (with_reducible repeat (first | apply b4 | apply b5 | apply b6)); exact HO_172002.out))) (Kd.R_lt (by (with_reducible repeat (first | apply b4 | apply b5 | apply b6)); exact HO_181002.out))) (Kd.R_lt (by (with_reducible repeat (first | apply b4 | apply b5 | apply b6)); exact HO_188002.out))) (Kd.R_lt (by (with_reducible repeat (first | apply b4 | apply b5 | apply b6)); exact HO209.out))) (below_size (by repeat (first | (with_reducible first | exact HB.out | apply c1_ | apply b8 | apply b9 | refine b7 ?_ GE155.out | refine b7 ?_ GE171.out | refine b7 ?_ GE180.out | refine b7 ?_ GE187.out | refine b7 ?_ GE221.out) | exact HB.out))))
          have n5_ := c7_ (c3_ (g := gb155) (o := .cells #[.int .i64 a1_0, .int .i64 a1_1, .slice A1_2 l1_2.length c1_2] 24 (0, 0)) (by (with_reducible repeat (first | refine b1 ?_ _ | refine b3 ?_ | refine b2 ?_ _)); exact BK155.out) hb)
          have n6_ := c7_ (c3_ (g := gb171) (o := .cells #[.int .i64 t165, .int .i64 t166, .slice Ao30 t167.length co30] 28 (0, 0)) (by (with_reducible repeat (first | refine b1 ?_ _ | refine b3 ?_ | refine b2 ?_ _)); exact BK171.out) hb)
          have n7_ := c7_ (c3_ (g := gb180) (o := .cells #[.int .i64 t175, .int .i64 t176, .slice Ao40 t202.length co40] 28 (0, 0)) (by (with_reducible repeat (first | refine b1 ?_ _ | refine b3 ?_ | refine b2 ?_ _)); exact BK180.out) hb)
          have n8_ := c7_ (c3_ (g := gb187) (o := .cells #[.int .i64 t181, .int .i64 t182, .slice Ao48 t183.length co48] 28 (0, 0)) (by (with_reducible repeat (first | refine b1 ?_ _ | refine b3 ?_ | refine b2 ?_ _)); exact BK187.out) hb)
          have n9_ := c7_ (c3_ (g := gb221) (o := .cells #[.int .i64 0, .int .i64 0, .slice none 0 0] 28 (0, 0)) (by (with_reducible repeat (first | refine b1 ?_ _ | refine b3 ?_ | refine b2 ?_ _)); exact BK221.out) hb)
          have n10_ := c7_ (below_step (by repeat (first | (with_reducible first | exact HB.out | apply c1_ | apply b8 | apply b9 | refine b7 ?_ GE155.out | refine b7 ?_ GE171.out | refine b7 ?_ GE180.out | refine b7 ?_ GE187.out | refine b7 ?_ GE221.out) | exact HB.out)) hb)
          clear HO_172002
          clear HO_181002
          clear HO_188002
          clear HO209
          clear BK155
          clear BK171
          clear BK180
          clear BK187
          clear BK221
          clear HB
          have HO_172002 := n0_
          have HO_181002 := n1_
          have HO_188002 := n2_
          have HO209 := n3_
          have HO214 := n4_
          have BK155 := n5_
          have BK171 := n6_
          have BK180 := n7_
          have BK187 := n8_
          have BK221 := n9_
          have HB := n10_
          clear n0_ n1_ n2_ n3_ n4_ n5_ n6_ n7_ n8_ n9_ n10_
          (try clear hb)
          (try clear hb2)
          (try clear hk)
          (try clear hi)
          (try clear ho0)
          obtain ⟨Ao135, co135, eo135⟩ := Kd.R_slice HO209.out
          (first | subst eo135 | (injection eo135 with f1_ f2_ f3_; have f4_ := f1_.symm; have f5_ := f3_.symm; clear f1_ f2_ f3_; subst f4_; subst f5_))
          obtain ⟨Ao136, co136, eo136⟩ := Kd.R_slice HO214.out
          (first | subst eo136 | (injection eo136 with f1_ f2_ f3_; have f4_ := f1_.symm; have f5_ := f3_.symm; clear f1_ f2_ f3_; subst f4_; subst f5_))
          refine hK.out _ _ ⟨(c2_ BK155.out 0).trans rfl, (c2_ BK155.out 1).trans rfl, (c2_ BK155.out 2).trans rfl⟩ (fun hHeld => ?_)
          clear hK K
          refine norm_ (a' := ?_) ?_ ?_
          rotate_left
          ·
           show Act.put _ (some 96) _ = _
           simp only [Act.put, c4_, c5_, c6_, i64_w, i32_w]
           rfl
          refine one_ (i := 4) (N := some 97) #[true, true, true, true, true, false, false, false, true, false, false] rfl rfl (one_of HT_.out (by kernel_rfl)) (by decide) (fun K hK => ?_)
          refine goes_ Try.func29 (by kernel_rfl) rfl #[.slice Ao135 t207.length co135, .agg #[.int .i64 t210, .int .i64 t211, .slice Ao136 t212.length co136]] (by rfl) rfl rfl (by (try simp only [List.map_toArray, List.map_cons, List.map_nil]); first | done | rfl | (simp only [List.length_drop, List.length_take]; rfl)) ?_
          with_reducible refine (impl_Undo.calls _ _ t207 t210 t211 _ _ t212 t215 t216 t217 t220 _ ?side1 ?side2 ?side3 ?side4 A122.out).mono ?_
          (case side1 => repeat (first | exact (Kd.R_reads' HO209.out).2.2 | (with_reducible refine Kd.C_alloc ?_ _) | (with_reducible refine Kd.C_drewN ?_ _) | (with_reducible refine Kd.C_drew ?_)))
          (case side2 => exact (Kd.R_reads' HO209.out).2.1)
          (case side3 => repeat (first | exact (Kd.R_reads' HO214.out).2.2 | (with_reducible refine Kd.C_alloc ?_ _) | (with_reducible refine Kd.C_drewN ?_ _) | (with_reducible refine Kd.C_drew ?_)))
          (case side4 => exact (Kd.R_reads' HO214.out).2.1)
          rintro e w137 ⟨v218, rfl, ho0, hb⟩
          refine ⟨_, rfl, ?_⟩
          have n0_ := c7_ (c8_ (by (with_reducible repeat (first | apply b4 | apply b5 | apply b6)); exact HO_172002.out) (Kd.R_base ho0) hb)
          have n1_ := c7_ (c8_ (by (with_reducible repeat (first | apply b4 | apply b5 | apply b6)); exact HO_181002.out) (Kd.R_base ho0) hb)
          have n2_ := c7_ (c8_ (by (with_reducible repeat (first | apply b4 | apply b5 | apply b6)); exact HO_188002.out) (Kd.R_base ho0) hb)
          have n3_ := c7_ (c8_ (by (with_reducible repeat (first | apply b4 | apply b5 | apply b6)); exact HO209.out) (Kd.R_base ho0) hb)
          have n4_ := c7_ (c8_ (by (with_reducible repeat (first | apply b4 | apply b5 | apply b6)); exact HO214.out) (Kd.R_base ho0) hb)
          have n5_ := c7_ (Kd.R_lower (Kd.R_new' (Kd.R_new' (Kd.R_new' (Kd.R_new' (Kd.R_new' ho0 (Kd.R_lt (by (with_reducible repeat (first | apply b4 | apply b5 | apply b6)); exact HO_172002.out))) (Kd.R_lt (by (with_reducible repeat (first | apply b4 | apply b5 | apply b6)); exact HO_181002.out))) (Kd.R_lt (by (with_reducible repeat (first | apply b4 | apply b5 | apply b6)); exact HO_188002.out))) (Kd.R_lt (by (with_reducible repeat (first | apply b4 | apply b5 | apply b6)); exact HO209.out))) (Kd.R_lt (by (with_reducible repeat (first | apply b4 | apply b5 | apply b6)); exact HO214.out))) (below_size (by repeat (first | (with_reducible first | exact HB.out | apply c1_ | apply b8 | apply b9 | refine b7 ?_ GE155.out | refine b7 ?_ GE171.out | refine b7 ?_ GE180.out | refine b7 ?_ GE187.out | refine b7 ?_ GE221.out) | exact HB.out))))
          have n6_ := c7_ (c3_ (g := gb155) (o := .cells #[.int .i64 a1_0, .int .i64 a1_1, .slice A1_2 l1_2.length c1_2] 24 (0, 0)) (by (with_reducible repeat (first | refine b1 ?_ _ | refine b3 ?_ | refine b2 ?_ _)); exact BK155.out) hb)
          have n7_ := c7_ (c3_ (g := gb171) (o := .cells #[.int .i64 t165, .int .i64 t166, .slice Ao30 t167.length co30] 28 (0, 0)) (by (with_reducible repeat (first | refine b1 ?_ _ | refine b3 ?_ | refine b2 ?_ _)); exact BK171.out) hb)
          have n8_ := c7_ (c3_ (g := gb180) (o := .cells #[.int .i64 t175, .int .i64 t176, .slice Ao40 t202.length co40] 28 (0, 0)) (by (with_reducible repeat (first | refine b1 ?_ _ | refine b3 ?_ | refine b2 ?_ _)); exact BK180.out) hb)
          have n9_ := c7_ (c3_ (g := gb187) (o := .cells #[.int .i64 t181, .int .i64 t182, .slice Ao48 t183.length co48] 28 (0, 0)) (by (with_reducible repeat (first | refine b1 ?_ _ | refine b3 ?_ | refine b2 ?_ _)); exact BK187.out) hb)
          have n10_ := c7_ (c3_ (g := gb221) (o := .cells #[.int .i64 0, .int .i64 0, .slice none 0 0] 28 (0, 0)) (by (with_reducible repeat (first | refine b1 ?_ _ | refine b3 ?_ | refine b2 ?_ _)); exact BK221.out) hb)
          have n11_ := c7_ (below_step (by repeat (first | (with_reducible first | exact HB.out | apply c1_ | apply b8 | apply b9 | refine b7 ?_ GE155.out | refine b7 ?_ GE171.out | refine b7 ?_ GE180.out | refine b7 ?_ GE187.out | refine b7 ?_ GE221.out) | exact HB.out)) hb)
          clear HO_172002
          clear HO_181002
          clear HO_188002
          clear HO209
          clear HO214
          clear BK155
          clear BK171
          clear BK180
          clear BK187
          clear BK221
          clear HB
          have HO_172002 := n0_
          have HO_181002 := n1_
          have HO_188002 := n2_
          have HO209 := n3_
          have HO214 := n4_
          have HO219 := n5_
          have BK155 := n6_
          have BK171 := n7_
          have BK180 := n8_
          have BK187 := n9_
          have BK221 := n10_
          have HB := n11_
          clear n0_ n1_ n2_ n3_ n4_ n5_ n6_ n7_ n8_ n9_ n10_ n11_
          (try clear hb)
          (try clear hb2)
          (try clear hk)
          (try clear hi)
          (try clear ho0)
          refine hK.out _ _ ⟨(c2_ BK155.out 0).trans rfl, (c2_ BK155.out 1).trans rfl, (c2_ BK155.out 2).trans rfl⟩ (fun hHeld => ?_)
          clear hK K
          refine norm_ (a' := ?_) ?_ ?_
          rotate_left
          ·
           show Act.put _ (some 97) _ = _
           simp only [Act.put, c4_, c5_, c6_, i64_w, i32_w]
           rfl
          refine pure_ (i := 5) (N := some 92) (v := ?_) (a' := ?_) #[true, true, true, true, true, true, false, false, true, false, false] rfl rfl (any_of HT_.out (by kernel_rfl)) (fun _ _ _ h => h) (Or.inl ⟨by rfl, ?_⟩) ?_ ?_
          rotate_left
          ·
           intro w'
           go_simp
           with_reducible rfl
          rotate_left
          ·
           simp only [Act.put, c4_, c5_, c6_, i64_w, i32_w]
           rfl
          refine pure_ (i := 6) (N := some 98) (v := ?_) (a' := ?_) #[true, true, true, true, true, true, true, false, true, false, false] rfl rfl (any_of HT_.out (by kernel_rfl)) (fun _ _ _ h => h) (Or.inl ⟨by rfl, ?_⟩) ?_ ?_
          rotate_left
          ·
           intro w'
           go_simp
           with_reducible rfl
          rotate_left
          ·
           simp only [Act.put, c4_, c5_, c6_, i64_w, i32_w]
           rfl
          refine pure_ (i := 7) (N := some 99) (v := ?_) (a' := ?_) #[true, true, true, true, true, true, true, true, true, false, false] rfl rfl (any_of HT_.out (by kernel_rfl)) (fun _ _ _ h => h) (Or.inl ⟨by rfl, ?_⟩) ?_ ?_
          rotate_left
          ·
           intro w'
           go_simp
           with_reducible rfl
          rotate_left
          ·
           simp only [Act.put, c4_, c5_, c6_, i64_w, i32_w]
           rfl
          exact norm_ (by simp only [putAll, Act.put, c4_, c5_, c6_]) (hCont (.slice Ao135 t207.length co135, .slice Ao136 t212.length co136, v218, gb221) _ ⟨hHeld, (by (with_reducible repeat (first | apply b4 | apply b5 | apply b6)); exact d2_ HO209.out (fun _ hk => ⟨hk.1.2, ⟨hk.2, ⟨hk.1.1.1.1.2, ⟨hk.1.1.1.2, hk.1.1.2⟩⟩⟩⟩)), (by (with_reducible repeat (first | apply b4 | apply b5 | apply b6)); exact d2_ HO214.out (fun _ hk => ⟨hk.1.2, ⟨hk.2, ⟨hk.1.1.1.1.2, ⟨hk.1.1.1.2, hk.1.1.2⟩⟩⟩⟩)), (by (with_reducible repeat (first | apply b4 | apply b5 | apply b6)); exact d2_ HO219.out (fun _ hk => ⟨hk.1.2, ⟨hk.2, ⟨hk.1.1.1.1.2, ⟨hk.1.1.1.2, hk.1.1.2⟩⟩⟩⟩)), (by (with_reducible repeat (first | apply b4 | apply b5 | apply b6)); exact d2_ HO_172002.out (fun _ hk => ⟨hk.1.1.2, ⟨hk.1.2, ⟨hk.2, ⟨hk.1.1.1.1, hk.1.1.1.2⟩⟩⟩⟩)), (by (with_reducible repeat (first | apply b4 | apply b5 | apply b6)); exact d2_ HO_181002.out (fun _ hk => ⟨hk.1.1.2, ⟨hk.1.2, ⟨hk.2, ⟨hk.1.1.1.1, hk.1.1.1.2⟩⟩⟩⟩)), (by (with_reducible repeat (first | apply b4 | apply b5 | apply b6)); exact d2_ HO_188002.out (fun _ hk => ⟨hk.1.1.2, ⟨hk.1.2, ⟨hk.2, ⟨hk.1.1.1.1, hk.1.1.1.2⟩⟩⟩⟩)), (by (with_reducible repeat (first | refine b1 ?_ _ | refine b3 ?_ | refine b2 ?_ _)); exact BK155.out), (by (with_reducible repeat (first | refine b1 ?_ _ | refine b3 ?_ | refine b2 ?_ _)); exact BK171.out), (by (with_reducible repeat (first | refine b1 ?_ _ | refine b3 ?_ | refine b2 ?_ _)); exact BK180.out), (by (with_reducible repeat (first | refine b1 ?_ _ | refine b3 ?_ | refine b2 ?_ _)); exact BK187.out), (by (with_reducible repeat (first | refine b1 ?_ _ | refine b3 ?_ | refine b2 ?_ _)); exact BK221.out), GW221.out, GE221.out, NB155_221.out, NB221_155.out, NB171_221.out, NB221_171.out, NB180_221.out, NB221_180.out, NB187_221.out, NB221_187.out, (by repeat (first | (with_reducible first | exact HB.out | apply c1_ | apply b8 | apply b9 | refine b7 ?_ GE155.out | refine b7 ?_ GE171.out | refine b7 ?_ GE180.out | refine b7 ?_ GE187.out | refine b7 ?_ GE221.out) | exact HB.out))⟩)
         skip
         refine box_step ?hg (N := 15) ?hd (cs := #[.int .i64 0, .int .i64 0, .slice none 0 0]) (t := 28) ?hr ?_; (case hd => rfl); (case hg => rfl); (case hr => first | (go_simp; done) | (go_simp; rfl))
         intro gb221 hg w132 hbox hb
         have n0_ := c7_ (c9_ (by (with_reducible repeat (first | apply b4 | apply b5 | apply b6)); exact HO_172002.out) hb)
         have n1_ := c7_ (c9_ (by (with_reducible repeat (first | apply b4 | apply b5 | apply b6)); exact HO_181002.out) hb)
         have n2_ := c7_ (c9_ (by (with_reducible repeat (first | apply b4 | apply b5 | apply b6)); exact HO_188002.out) hb)
         have n3_ := c7_ (c3_ (g := gb155) (o := .cells #[.int .i64 a1_0, .int .i64 a1_1, .slice A1_2 l1_2.length c1_2] 24 (0, 0)) (by (with_reducible repeat (first | refine b1 ?_ _ | refine b3 ?_ | refine b2 ?_ _)); exact BK155.out) hb)
         have n4_ := c7_ (c3_ (g := gb171) (o := .cells #[.int .i64 t165, .int .i64 t166, .slice Ao30 t167.length co30] 28 (0, 0)) (by (with_reducible repeat (first | refine b1 ?_ _ | refine b3 ?_ | refine b2 ?_ _)); exact BK171.out) hb)
         have n5_ := c7_ (c3_ (g := gb180) (o := .cells #[.int .i64 t175, .int .i64 t176, .slice Ao40 t202.length co40] 28 (0, 0)) (by (with_reducible repeat (first | refine b1 ?_ _ | refine b3 ?_ | refine b2 ?_ _)); exact BK180.out) hb)
         have n6_ := c7_ (c3_ (g := gb187) (o := .cells #[.int .i64 t181, .int .i64 t182, .slice Ao48 t183.length co48] 28 (0, 0)) (by (with_reducible repeat (first | refine b1 ?_ _ | refine b3 ?_ | refine b2 ?_ _)); exact BK187.out) hb)
         have n7_ := c7_ (below_step (by repeat (first | (with_reducible first | exact HB.out | apply c1_ | apply b8 | apply b9 | refine b7 ?_ GE155.out | refine b7 ?_ GE171.out | refine b7 ?_ GE180.out | refine b7 ?_ GE187.out) | exact HB.out)) hb)
         have n8_ := c7_ (hbox)
         have n9_ := c7_ ((by rw [hg]; exact (below_size (by repeat (first | (with_reducible first | exact HB.out | apply c1_ | apply b8 | apply b9 | refine b7 ?_ GE155.out | refine b7 ?_ GE171.out | refine b7 ?_ GE180.out | refine b7 ?_ GE187.out) | exact HB.out))) : w.heap.size ≤ gb221))
         have n10_ := c7_ ((by rw [hg]; exact (below_size (by repeat (first | (with_reducible first | exact HB.out | apply c1_ | apply b8 | apply b9 | refine b7 ?_ GE155.out | refine b7 ?_ GE171.out | refine b7 ?_ GE180.out | refine b7 ?_ GE187.out) | exact HB.out))) : w.heap.size ≤ gb221))
         have n11_ := c7_ ((by rw [hg]; exact d4_ (blk_lt (g := gb155) (o := .cells #[.int .i64 a1_0, .int .i64 a1_1, .slice A1_2 l1_2.length c1_2] 24 (0, 0)) (by (with_reducible repeat (first | refine b1 ?_ _ | refine b3 ?_ | refine b2 ?_ _)); exact BK155.out)) : gb155 ≠ gb221))
         have n12_ := c7_ ((by rw [hg]; exact d5_ (blk_lt (g := gb155) (o := .cells #[.int .i64 a1_0, .int .i64 a1_1, .slice A1_2 l1_2.length c1_2] 24 (0, 0)) (by (with_reducible repeat (first | refine b1 ?_ _ | refine b3 ?_ | refine b2 ?_ _)); exact BK155.out)) : gb221 ≠ gb155))
         have n13_ := c7_ ((by rw [hg]; exact d4_ (blk_lt (g := gb171) (o := .cells #[.int .i64 t165, .int .i64 t166, .slice Ao30 t167.length co30] 28 (0, 0)) (by (with_reducible repeat (first | refine b1 ?_ _ | refine b3 ?_ | refine b2 ?_ _)); exact BK171.out)) : gb171 ≠ gb221))
         have n14_ := c7_ ((by rw [hg]; exact d5_ (blk_lt (g := gb171) (o := .cells #[.int .i64 t165, .int .i64 t166, .slice Ao30 t167.length co30] 28 (0, 0)) (by (with_reducible repeat (first | refine b1 ?_ _ | refine b3 ?_ | refine b2 ?_ _)); exact BK171.out)) : gb221 ≠ gb171))
         have n15_ := c7_ ((by rw [hg]; exact d4_ (blk_lt (g := gb180) (o := .cells #[.int .i64 t175, .int .i64 t176, .slice Ao40 t202.length co40] 28 (0, 0)) (by (with_reducible repeat (first | refine b1 ?_ _ | refine b3 ?_ | refine b2 ?_ _)); exact BK180.out)) : gb180 ≠ gb221))
         have n16_ := c7_ ((by rw [hg]; exact d5_ (blk_lt (g := gb180) (o := .cells #[.int .i64 t175, .int .i64 t176, .slice Ao40 t202.length co40] 28 (0, 0)) (by (with_reducible repeat (first | refine b1 ?_ _ | refine b3 ?_ | refine b2 ?_ _)); exact BK180.out)) : gb221 ≠ gb180))
         have n17_ := c7_ ((by rw [hg]; exact d4_ (blk_lt (g := gb187) (o := .cells #[.int .i64 t181, .int .i64 t182, .slice Ao48 t183.length co48] 28 (0, 0)) (by (with_reducible repeat (first | refine b1 ?_ _ | refine b3 ?_ | refine b2 ?_ _)); exact BK187.out)) : gb187 ≠ gb221))
         have n18_ := c7_ ((by rw [hg]; exact d5_ (blk_lt (g := gb187) (o := .cells #[.int .i64 t181, .int .i64 t182, .slice Ao48 t183.length co48] 28 (0, 0)) (by (with_reducible repeat (first | refine b1 ?_ _ | refine b3 ?_ | refine b2 ?_ _)); exact BK187.out)) : gb221 ≠ gb187))
         clear HO_172002
         clear HO_181002
         clear HO_188002
         clear BK155
         clear BK171
         clear BK180
         clear BK187
         clear HB
         have HO_172002 := n0_
         have HO_181002 := n1_
         have HO_188002 := n2_
         have BK155 := n3_
         have BK171 := n4_
         have BK180 := n5_
         have BK187 := n6_
         have HB := n7_
         have BK221 := n8_
         have GW221 := n9_
         have GE221 := n10_
         have NB155_221 := n11_
         have NB221_155 := n12_
         have NB171_221 := n13_
         have NB221_171 := n14_
         have NB180_221 := n15_
         have NB221_180 := n16_
         have NB187_221 := n17_
         have NB221_187 := n18_
         clear n0_ n1_ n2_ n3_ n4_ n5_ n6_ n7_ n8_ n9_ n10_ n11_ n12_ n13_ n14_ n15_ n16_ n17_ n18_
         clear hb hbox hg
         refine hK.out _ _ ⟨(c2_ BK155.out 0).trans rfl, (c2_ BK155.out 1).trans rfl, (c2_ BK155.out 2).trans rfl⟩ (fun hHeld => ?_)
         clear hK K
         refine norm_ (a' := ?_) ?_ ?_
         rotate_left
         ·
          show Act.put _ (some 15) _ = _
          simp only [Act.put, c4_, c5_, c6_, i64_w, i32_w]
          rfl
         refine one_ (i := 1) (N := some 94) #[true, true, true, false, false, false, false, false, true, false, false] rfl rfl (one_of HT_.out (by kernel_rfl)) (by decide) (fun K hK => ?_)
         refine goes_ Try.func16 (by kernel_rfl) rfl #[.slice A0 l0.length c0] (by rfl) rfl rfl (by (try simp only [List.map_toArray, List.map_cons, List.map_nil]); first | done | rfl | (simp only [List.length_drop, List.length_take]; rfl)) ?_
         with_reducible refine (laws_toIntS.calls kj75 _ _ l0 t207 _ ?side1 ?side2 A120.out).mono ?_
         (case side1 => repeat (first | exact (Kd.C_below HR0.out HB.out) | (with_reducible refine Kd.C_alloc ?_ _) | (with_reducible refine Kd.C_drewN ?_ _) | (with_reducible refine Kd.C_drew ?_)))
         (case side2 => exact HC0.out)
         rintro e w133 ⟨v208, rfl, ho0, hb⟩
         refine ⟨_, rfl, ?_⟩
         have n0_ := c7_ (c8_ (by (with_reducible repeat (first | apply b4 | apply b5 | apply b6)); exact HO_172002.out) (Kd.R_base ho0) hb)
         have n1_ := c7_ (c8_ (by (with_reducible repeat (first | apply b4 | apply b5 | apply b6)); exact HO_181002.out) (Kd.R_base ho0) hb)
         have n2_ := c7_ (c8_ (by (with_reducible repeat (first | apply b4 | apply b5 | apply b6)); exact HO_188002.out) (Kd.R_base ho0) hb)
         have n3_ := c7_ (Kd.R_lower (Kd.R_new' (Kd.R_new' (Kd.R_new' ho0 (Kd.R_lt (by (with_reducible repeat (first | apply b4 | apply b5 | apply b6)); exact HO_172002.out))) (Kd.R_lt (by (with_reducible repeat (first | apply b4 | apply b5 | apply b6)); exact HO_181002.out))) (Kd.R_lt (by (with_reducible repeat (first | apply b4 | apply b5 | apply b6)); exact HO_188002.out))) (below_size (by repeat (first | (with_reducible first | exact HB.out | apply c1_ | apply b8 | apply b9 | refine b7 ?_ GE155.out | refine b7 ?_ GE171.out | refine b7 ?_ GE180.out | refine b7 ?_ GE187.out | refine b7 ?_ GE221.out) | exact HB.out))))
         have n4_ := c7_ (c3_ (g := gb155) (o := .cells #[.int .i64 a1_0, .int .i64 a1_1, .slice A1_2 l1_2.length c1_2] 24 (0, 0)) (by (with_reducible repeat (first | refine b1 ?_ _ | refine b3 ?_ | refine b2 ?_ _)); exact BK155.out) hb)
         have n5_ := c7_ (c3_ (g := gb171) (o := .cells #[.int .i64 t165, .int .i64 t166, .slice Ao30 t167.length co30] 28 (0, 0)) (by (with_reducible repeat (first | refine b1 ?_ _ | refine b3 ?_ | refine b2 ?_ _)); exact BK171.out) hb)
         have n6_ := c7_ (c3_ (g := gb180) (o := .cells #[.int .i64 t175, .int .i64 t176, .slice Ao40 t202.length co40] 28 (0, 0)) (by (with_reducible repeat (first | refine b1 ?_ _ | refine b3 ?_ | refine b2 ?_ _)); exact BK180.out) hb)
         have n7_ := c7_ (c3_ (g := gb187) (o := .cells #[.int .i64 t181, .int .i64 t182, .slice Ao48 t183.length co48] 28 (0, 0)) (by (with_reducible repeat (first | refine b1 ?_ _ | refine b3 ?_ | refine b2 ?_ _)); exact BK187.out) hb)
         have n8_ := c7_ (c3_ (g := gb221) (o := .cells #[.int .i64 0, .int .i64 0, .slice none 0 0] 28 (0, 0)) (by (with_reducible repeat (first | refine b1 ?_ _ | refine b3 ?_ | refine b2 ?_ _)); exact BK221.out) hb)
         have n9_ := c7_ (below_step (by repeat (first | (with_reducible first | exact HB.out | apply c1_ | apply b8 | apply b9 | refine b7 ?_ GE155.out | refine b7 ?_ GE171.out | refine b7 ?_ GE180.out | refine b7 ?_ GE187.out | refine b7 ?_ GE221.out) | exact HB.out)) hb)
         clear HO_172002
         clear HO_181002
         clear HO_188002
         clear BK155
         clear BK171
         clear BK180
         clear BK187
         clear BK221
         clear HB
         have HO_172002 := n0_
         have HO_181002 := n1_
         have HO_188002 := n2_
         have HO209 := n3_
         have BK155 := n4_
         have BK171 := n5_
         have BK180 := n6_
         have BK187 := n7_
         have BK221 := n8_
         have HB := n9_
         clear n0_ n1_ n2_ n3_ n4_ n5_ n6_ n7_ n8_ n9_
         (try clear hb)
         (try clear hb2)
         (try clear hk)
         (try clear hi)
         (try clear ho0)
         refine hK.out _ _ ⟨(c2_ BK155.out 0).trans rfl, (c2_ BK155.out 1).trans rfl, (c2_ BK155.out 2).trans rfl⟩ (fun hHeld => ?_)
         clear hK K
         refine norm_ (a' := ?_) ?_ ?_
         rotate_left
         ·
          show Act.put _ (some 94) _ = _
          simp only [Act.put, c4_, c5_, c6_, i64_w, i32_w]
          rfl
         refine one_ (i := 3) (N := some 96) #[true, true, true, true, false, false, false, false, true, false, false] rfl rfl (one_of HT_.out (by kernel_rfl)) (by decide) (fun K hK => ?_)
         refine goes_ Try.func17 (by kernel_rfl) rfl #[.agg #[.int .i64 a1_0, .int .i64 a1_1, .slice A1_2 l1_2.length c1_2]] (by rfl) rfl rfl (by (try simp only [List.map_toArray, List.map_cons, List.map_nil]); first | done | rfl | (simp only [List.length_drop, List.length_take]; rfl)) ?_
         with_reducible refine (laws_toAmend.calls kj75 a1_0 a1_1 _ _ l1_2 t210 t211 t212 _ ?side1 ?side2 A121.out).mono ?_
         (case side1 => repeat (first | exact (Kd.C_below HR1_2.out HB.out) | (with_reducible refine Kd.C_alloc ?_ _) | (with_reducible refine Kd.C_drewN ?_ _) | (with_reducible refine Kd.C_drew ?_)))
         (case side2 => exact HC1_2.out)
         rintro e w134 ⟨v213, rfl, ho0, hb⟩
         refine ⟨_, rfl, ?_⟩
         have n0_ := c7_ (c8_ (by (with_reducible repeat (first | apply b4 | apply b5 | apply b6)); exact HO_172002.out) (Kd.R_base ho0) hb)
         have n1_ := c7_ (c8_ (by (with_reducible repeat (first | apply b4 | apply b5 | apply b6)); exact HO_181002.out) (Kd.R_base ho0) hb)
         have n2_ := c7_ (c8_ (by (with_reducible repeat (first | apply b4 | apply b5 | apply b6)); exact HO_188002.out) (Kd.R_base ho0) hb)
         have n3_ := c7_ (c8_ (by (with_reducible repeat (first | apply b4 | apply b5 | apply b6)); exact HO209.out) (Kd.R_base ho0) hb)
         have n4_ := c7_ (Kd.R_lower (Kd.R_new' (Kd.R_new' (Kd.R_new' (Kd.R_new' ho0 (Kd.R_lt (by (with_reducible repeat (first | apply b4 | apply b5 | apply b6)); exact HO_172002.out))) (Kd.R_lt (by (with_reducible repeat (first | apply b4 | apply b5 | apply b6)); exact HO_181002.out))) (Kd.R_lt (by (with_reducible repeat (first | apply b4 | apply b5 | apply b6)); exact HO_188002.out))) (Kd.R_lt (by (with_reducible repeat (first | apply b4 | apply b5 | apply b6)); exact HO209.out))) (below_size (by repeat (first | (with_reducible first | exact HB.out | apply c1_ | apply b8 | apply b9 | refine b7 ?_ GE155.out | refine b7 ?_ GE171.out | refine b7 ?_ GE180.out | refine b7 ?_ GE187.out | refine b7 ?_ GE221.out) | exact HB.out))))
         have n5_ := c7_ (c3_ (g := gb155) (o := .cells #[.int .i64 a1_0, .int .i64 a1_1, .slice A1_2 l1_2.length c1_2] 24 (0, 0)) (by (with_reducible repeat (first | refine b1 ?_ _ | refine b3 ?_ | refine b2 ?_ _)); exact BK155.out) hb)
         have n6_ := c7_ (c3_ (g := gb171) (o := .cells #[.int .i64 t165, .int .i64 t166, .slice Ao30 t167.length co30] 28 (0, 0)) (by (with_reducible repeat (first | refine b1 ?_ _ | refine b3 ?_ | refine b2 ?_ _)); exact BK171.out) hb)
         have n7_ := c7_ (c3_ (g := gb180) (o := .cells #[.int .i64 t175, .int .i64 t176, .slice Ao40 t202.length co40] 28 (0, 0)) (by (with_reducible repeat (first | refine b1 ?_ _ | refine b3 ?_ | refine b2 ?_ _)); exact BK180.out) hb)
         have n8_ := c7_ (c3_ (g := gb187) (o := .cells #[.int .i64 t181, .int .i64 t182, .slice Ao48 t183.length co48] 28 (0, 0)) (by (with_reducible repeat (first | refine b1 ?_ _ | refine b3 ?_ | refine b2 ?_ _)); exact BK187.out) hb)
         have n9_ := c7_ (c3_ (g := gb221) (o := .cells #[.int .i64 0, .int .i64 0, .slice none 0 0] 28 (0, 0)) (by (with_reducible repeat (first | refine b1 ?_ _ | refine b3 ?_ | refine b2 ?_ _)); exact BK221.out) hb)
         have n10_ := c7_ (below_step (by repeat (first | (with_reducible first | exact HB.out | apply c1_ | apply b8 | apply b9 | refine b7 ?_ GE155.out | refine b7 ?_ GE171.out | refine b7 ?_ GE180.out | refine b7 ?_ GE187.out | refine b7 ?_ GE221.out) | exact HB.out)) hb)
         clear HO_172002
         clear HO_181002
         clear HO_188002
         clear HO209
         clear BK155
         clear BK171
         clear BK180
         clear BK187
         clear BK221
         clear HB
         have HO_172002 := n0_
         have HO_181002 := n1_
         have HO_188002 := n2_
         have HO209 := n3_
         have HO214 := n4_
         have BK155 := n5_
         have BK171 := n6_
         have BK180 := n7_
         have BK187 := n8_
         have BK221 := n9_
         have HB := n10_
         clear n0_ n1_ n2_ n3_ n4_ n5_ n6_ n7_ n8_ n9_ n10_
         (try clear hb)
         (try clear hb2)
         (try clear hk)
         (try clear hi)
         (try clear ho0)
         obtain ⟨Ao135, co135, eo135⟩ := Kd.R_slice HO209.out
         (first | subst eo135 | (injection eo135 with f1_ f2_ f3_; have f4_ := f1_.symm; have f5_ := f3_.symm; clear f1_ f2_ f3_; subst f4_; subst f5_))
         obtain ⟨Ao136, co136, eo136⟩ := Kd.R_slice HO214.out
         (first | subst eo136 | (injection eo136 with f1_ f2_ f3_; have f4_ := f1_.symm; have f5_ := f3_.symm; clear f1_ f2_ f3_; subst f4_; subst f5_))
         refine hK.out _ _ ⟨(c2_ BK155.out 0).trans rfl, (c2_ BK155.out 1).trans rfl, (c2_ BK155.out 2).trans rfl⟩ (fun hHeld => ?_)
         clear hK K
         refine norm_ (a' := ?_) ?_ ?_
         rotate_left
         ·
          show Act.put _ (some 96) _ = _
          simp only [Act.put, c4_, c5_, c6_, i64_w, i32_w]
          rfl
         refine one_ (i := 4) (N := some 97) #[true, true, true, true, true, false, false, false, true, false, false] rfl rfl (one_of HT_.out (by kernel_rfl)) (by decide) (fun K hK => ?_)
         refine goes_ Try.func29 (by kernel_rfl) rfl #[.slice Ao135 t207.length co135, .agg #[.int .i64 t210, .int .i64 t211, .slice Ao136 t212.length co136]] (by rfl) rfl rfl (by (try simp only [List.map_toArray, List.map_cons, List.map_nil]); first | done | rfl | (simp only [List.length_drop, List.length_take]; rfl)) ?_
         with_reducible refine (impl_Undo.calls _ _ t207 t210 t211 _ _ t212 t215 t216 t217 t220 _ ?side1 ?side2 ?side3 ?side4 A122.out).mono ?_
         (case side1 => repeat (first | exact (Kd.R_reads' HO209.out).2.2 | (with_reducible refine Kd.C_alloc ?_ _) | (with_reducible refine Kd.C_drewN ?_ _) | (with_reducible refine Kd.C_drew ?_)))
         (case side2 => exact (Kd.R_reads' HO209.out).2.1)
         (case side3 => repeat (first | exact (Kd.R_reads' HO214.out).2.2 | (with_reducible refine Kd.C_alloc ?_ _) | (with_reducible refine Kd.C_drewN ?_ _) | (with_reducible refine Kd.C_drew ?_)))
         (case side4 => exact (Kd.R_reads' HO214.out).2.1)
         rintro e w137 ⟨v218, rfl, ho0, hb⟩
         refine ⟨_, rfl, ?_⟩
         have n0_ := c7_ (c8_ (by (with_reducible repeat (first | apply b4 | apply b5 | apply b6)); exact HO_172002.out) (Kd.R_base ho0) hb)
         have n1_ := c7_ (c8_ (by (with_reducible repeat (first | apply b4 | apply b5 | apply b6)); exact HO_181002.out) (Kd.R_base ho0) hb)
         have n2_ := c7_ (c8_ (by (with_reducible repeat (first | apply b4 | apply b5 | apply b6)); exact HO_188002.out) (Kd.R_base ho0) hb)
         have n3_ := c7_ (c8_ (by (with_reducible repeat (first | apply b4 | apply b5 | apply b6)); exact HO209.out) (Kd.R_base ho0) hb)
         have n4_ := c7_ (c8_ (by (with_reducible repeat (first | apply b4 | apply b5 | apply b6)); exact HO214.out) (Kd.R_base ho0) hb)
         have n5_ := c7_ (Kd.R_lower (Kd.R_new' (Kd.R_new' (Kd.R_new' (Kd.R_new' (Kd.R_new' ho0 (Kd.R_lt (by (with_reducible repeat (first | apply b4 | apply b5 | apply b6)); exact HO_172002.out))) (Kd.R_lt (by (with_reducible repeat (first | apply b4 | apply b5 | apply b6)); exact HO_181002.out))) (Kd.R_lt (by (with_reducible repeat (first | apply b4 | apply b5 | apply b6)); exact HO_188002.out))) (Kd.R_lt (by (with_reducible repeat (first | apply b4 | apply b5 | apply b6)); exact HO209.out))) (Kd.R_lt (by (with_reducible repeat (first | apply b4 | apply b5 | apply b6)); exact HO214.out))) (below_size (by repeat (first | (with_reducible first | exact HB.out | apply c1_ | apply b8 | apply b9 | refine b7 ?_ GE155.out | refine b7 ?_ GE171.out | refine b7 ?_ GE180.out | refine b7 ?_ GE187.out | refine b7 ?_ GE221.out) | exact HB.out))))
         have n6_ := c7_ (c3_ (g := gb155) (o := .cells #[.int .i64 a1_0, .int .i64 a1_1, .slice A1_2 l1_2.length c1_2] 24 (0, 0)) (by (with_reducible repeat (first | refine b1 ?_ _ | refine b3 ?_ | refine b2 ?_ _)); exact BK155.out) hb)
         have n7_ := c7_ (c3_ (g := gb171) (o := .cells #[.int .i64 t165, .int .i64 t166, .slice Ao30 t167.length co30] 28 (0, 0)) (by (with_reducible repeat (first | refine b1 ?_ _ | refine b3 ?_ | refine b2 ?_ _)); exact BK171.out) hb)
         have n8_ := c7_ (c3_ (g := gb180) (o := .cells #[.int .i64 t175, .int .i64 t176, .slice Ao40 t202.length co40] 28 (0, 0)) (by (with_reducible repeat (first | refine b1 ?_ _ | refine b3 ?_ | refine b2 ?_ _)); exact BK180.out) hb)
         have n9_ := c7_ (c3_ (g := gb187) (o := .cells #[.int .i64 t181, .int .i64 t182, .slice Ao48 t183.length co48] 28 (0, 0)) (by (with_reducible repeat (first | refine b1 ?_ _ | refine b3 ?_ | refine b2 ?_ _)); exact BK187.out) hb)
         have n10_ := c7_ (c3_ (g := gb221) (o := .cells #[.int .i64 0, .int .i64 0, .slice none 0 0] 28 (0, 0)) (by (with_reducible repeat (first | refine b1 ?_ _ | refine b3 ?_ | refine b2 ?_ _)); exact BK221.out) hb)
         have n11_ := c7_ (below_step (by repeat (first | (with_reducible first | exact HB.out | apply c1_ | apply b8 | apply b9 | refine b7 ?_ GE155.out | refine b7 ?_ GE171.out | refine b7 ?_ GE180.out | refine b7 ?_ GE187.out | refine b7 ?_ GE221.out) | exact HB.out)) hb)
         clear HO_172002
         clear HO_181002
         clear HO_188002
         clear HO209
         clear HO214
         clear BK155
         clear BK171
         clear BK180
         clear BK187
         clear BK221
         clear HB
         have HO_172002 := n0_
         have HO_181002 := n1_
         have HO_188002 := n2_
         have HO209 := n3_
         have HO214 := n4_
         have HO219 := n5_
         have BK155 := n6_
         have BK171 := n7_
         have BK180 := n8_
         have BK187 := n9_
         have BK221 := n10_
         have HB := n11_
         clear n0_ n1_ n2_ n3_ n4_ n5_ n6_ n7_ n8_ n9_ n10_ n11_
         (try clear hb)
         (try clear hb2)
         (try clear hk)
         (try clear hi)
         (try clear ho0)
         refine hK.out _ _ ⟨(c2_ BK155.out 0).trans rfl, (c2_ BK155.out 1).trans rfl, (c2_ BK155.out 2).trans rfl⟩ (fun hHeld => ?_)
         clear hK K
         refine norm_ (a' := ?_) ?_ ?_
         rotate_left
         ·
          show Act.put _ (some 97) _ = _
          simp only [Act.put, c4_, c5_, c6_, i64_w, i32_w]
          rfl
         refine pure_ (i := 5) (N := some 92) (v := ?_) (a' := ?_) #[true, true, true, true, true, true, false, false, true, false, false] rfl rfl (any_of HT_.out (by kernel_rfl)) (fun _ _ _ h => h) (Or.inl ⟨by rfl, ?_⟩) ?_ ?_
         rotate_left
         ·
          intro w'
          go_simp
          with_reducible rfl
         rotate_left
         ·
          simp only [Act.put, c4_, c5_, c6_, i64_w, i32_w]
          rfl
         refine pure_ (i := 6) (N := some 98) (v := ?_) (a' := ?_) #[true, true, true, true, true, true, true, false, true, false, false] rfl rfl (any_of HT_.out (by kernel_rfl)) (fun _ _ _ h => h) (Or.inl ⟨by rfl, ?_⟩) ?_ ?_
         rotate_left
         ·
          intro w'
          go_simp
          with_reducible rfl
         rotate_left
         ·
          simp only [Act.put, c4_, c5_, c6_, i64_w, i32_w]
          rfl
         refine pure_ (i := 7) (N := some 99) (v := ?_) (a' := ?_) #[true, true, true, true, true, true, true, true, true, false, false] rfl rfl (any_of HT_.out (by kernel_rfl)) (fun _ _ _ h => h) (Or.inl ⟨by rfl, ?_⟩) ?_ ?_
         rotate_left
         ·
          intro w'
          go_simp
          with_reducible rfl
         rotate_left
         ·
          simp only [Act.put, c4_, c5_, c6_, i64_w, i32_w]
          rfl
         exact norm_ (by simp only [putAll, Act.put, c4_, c5_, c6_]) (hCont (.slice Ao135 t207.length co135, .slice Ao136 t212.length co136, v218, gb221) _ ⟨hHeld, (by (with_reducible repeat (first | apply b4 | apply b5 | apply b6)); exact d2_ HO209.out (fun _ hk => ⟨hk.1.2, ⟨hk.2, ⟨hk.1.1.1.1.2, ⟨hk.1.1.1.2, hk.1.1.2⟩⟩⟩⟩)), (by (with_reducible repeat (first | apply b4 | apply b5 | apply b6)); exact d2_ HO214.out (fun _ hk => ⟨hk.1.2, ⟨hk.2, ⟨hk.1.1.1.1.2, ⟨hk.1.1.1.2, hk.1.1.2⟩⟩⟩⟩)), (by (with_reducible repeat (first | apply b4 | apply b5 | apply b6)); exact d2_ HO219.out (fun _ hk => ⟨hk.1.2, ⟨hk.2, ⟨hk.1.1.1.1.2, ⟨hk.1.1.1.2, hk.1.1.2⟩⟩⟩⟩)), (by (with_reducible repeat (first | apply b4 | apply b5 | apply b6)); exact d2_ HO_172002.out (fun _ hk => ⟨hk.1.1.2, ⟨hk.1.2, ⟨hk.2, ⟨hk.1.1.1.1, hk.1.1.1.2⟩⟩⟩⟩)), (by (with_reducible repeat (first | apply b4 | apply b5 | apply b6)); exact d2_ HO_181002.out (fun _ hk => ⟨hk.1.1.2, ⟨hk.1.2, ⟨hk.2, ⟨hk.1.1.1.1, hk.1.1.1.2⟩⟩⟩⟩)), (by (with_reducible repeat (first | apply b4 | apply b5 | apply b6)); exact d2_ HO_188002.out (fun _ hk => ⟨hk.1.1.2, ⟨hk.1.2, ⟨hk.2, ⟨hk.1.1.1.1, hk.1.1.1.2⟩⟩⟩⟩)), (by (with_reducible repeat (first | refine b1 ?_ _ | refine b3 ?_ | refine b2 ?_ _)); exact BK155.out), (by (with_reducible repeat (first | refine b1 ?_ _ | refine b3 ?_ | refine b2 ?_ _)); exact BK171.out), (by (with_reducible repeat (first | refine b1 ?_ _ | refine b3 ?_ | refine b2 ?_ _)); exact BK180.out), (by (with_reducible repeat (first | refine b1 ?_ _ | refine b3 ?_ | refine b2 ?_ _)); exact BK187.out), (by (with_reducible repeat (first | refine b1 ?_ _ | refine b3 ?_ | refine b2 ?_ _)); exact BK221.out), GW221.out, GE221.out, NB155_221.out, NB221_155.out, NB171_221.out, NB221_171.out, NB180_221.out, NB221_180.out, NB187_221.out, NB221_187.out, (by repeat (first | (with_reducible first | exact HB.out | apply c1_ | apply b8 | apply b9 | refine b7 ?_ GE155.out | refine b7 ?_ GE171.out | refine b7 ?_ GE180.out | refine b7 ?_ GE187.out | refine b7 ?_ GE221.out) | exact HB.out))⟩)
        rintro ⟨v208, v213, v218, gb221⟩ w138 ⟨hS_, h0_, h1_, h2_, h3_, h4_, h5_, h6_, h7_, h8_, h9_, h10_, h11_, h12_, h13_, h14_, h15_, h16_, h17_, h18_, h19_, h20_, h21_⟩
        have n0_ : Aside0 (Kd.R (Kd.int .i64) 3 w138 w.heap.size (fun k_ => some k_ ≠ (v213 : Value).ownBlock ∧ some k_ ≠ (v218 : Value).ownBlock ∧ some k_ ≠ (.slice Ao30 t167.length co30 : Value).ownBlock ∧ some k_ ≠ (.slice Ao40 t202.length co40 : Value).ownBlock ∧ some k_ ≠ (.slice Ao48 t183.length co48 : Value).ownBlock) v208 t207) := ⟨h0_⟩
        have n1_ : Aside0 (Kd.R (Kd.int .i64) 3 w138 w.heap.size (fun k_ => some k_ ≠ (v208 : Value).ownBlock ∧ some k_ ≠ (v218 : Value).ownBlock ∧ some k_ ≠ (.slice Ao30 t167.length co30 : Value).ownBlock ∧ some k_ ≠ (.slice Ao40 t202.length co40 : Value).ownBlock ∧ some k_ ≠ (.slice Ao48 t183.length co48 : Value).ownBlock) v213 t212) := ⟨h1_⟩
        have n2_ : Aside0 (Kd.R (Kd.int .i64) 3 w138 w.heap.size (fun k_ => some k_ ≠ (v208 : Value).ownBlock ∧ some k_ ≠ (v213 : Value).ownBlock ∧ some k_ ≠ (.slice Ao30 t167.length co30 : Value).ownBlock ∧ some k_ ≠ (.slice Ao40 t202.length co40 : Value).ownBlock ∧ some k_ ≠ (.slice Ao48 t183.length co48 : Value).ownBlock) v218 t217) := ⟨h2_⟩
        have n3_ : Aside0 (Kd.R (Kd.int .i64) 3 w138 w.heap.size (fun k_ => some k_ ≠ (v208 : Value).ownBlock ∧ some k_ ≠ (v213 : Value).ownBlock ∧ some k_ ≠ (v218 : Value).ownBlock ∧ some k_ ≠ (.slice Ao40 t202.length co40 : Value).ownBlock ∧ some k_ ≠ (.slice Ao48 t183.length co48 : Value).ownBlock) (.slice Ao30 t167.length co30) t167) := ⟨h3_⟩
        have n4_ : Aside0 (Kd.R (Kd.int .i64) 3 w138 w.heap.size (fun k_ => some k_ ≠ (v208 : Value).ownBlock ∧ some k_ ≠ (v213 : Value).ownBlock ∧ some k_ ≠ (v218 : Value).ownBlock ∧ some k_ ≠ (.slice Ao30 t167.length co30 : Value).ownBlock ∧ some k_ ≠ (.slice Ao48 t183.length co48 : Value).ownBlock) (.slice Ao40 t202.length co40) t202) := ⟨h4_⟩
        have n5_ : Aside0 (Kd.R (Kd.int .i64) 3 w138 w.heap.size (fun k_ => some k_ ≠ (v208 : Value).ownBlock ∧ some k_ ≠ (v213 : Value).ownBlock ∧ some k_ ≠ (v218 : Value).ownBlock ∧ some k_ ≠ (.slice Ao30 t167.length co30 : Value).ownBlock ∧ some k_ ≠ (.slice Ao40 t202.length co40 : Value).ownBlock) (.slice Ao48 t183.length co48) t205) := ⟨h5_⟩
        have n6_ : Aside0 (w138.heap[gb155]? = some (.cells #[.int .i64 a1_0, .int .i64 a1_1, .slice A1_2 l1_2.length c1_2] 24 (0, 0))) := ⟨h6_⟩
        have n7_ : Aside0 (w138.heap[gb171]? = some (.cells #[.int .i64 t165, .int .i64 t166, .slice Ao30 t167.length co30] 28 (0, 0))) := ⟨h7_⟩
        have n8_ : Aside0 (w138.heap[gb180]? = some (.cells #[.int .i64 t175, .int .i64 t176, .slice Ao40 t202.length co40] 28 (0, 0))) := ⟨h8_⟩
        have n9_ : Aside0 (w138.heap[gb187]? = some (.cells #[.int .i64 t181, .int .i64 t182, .slice Ao48 t183.length co48] 28 (0, 0))) := ⟨h9_⟩
        have n10_ : Aside0 (w138.heap[gb221]? = some (.cells #[.int .i64 0, .int .i64 0, .slice none 0 0] 28 (0, 0))) := ⟨h10_⟩
        have n11_ : Aside0 (w.heap.size ≤ gb221) := ⟨h11_⟩
        have n12_ : Aside0 (w.heap.size ≤ gb221) := ⟨h12_⟩
        have n13_ : Aside0 (gb155 ≠ gb221) := ⟨h13_⟩
        have n14_ : Aside0 (gb221 ≠ gb155) := ⟨h14_⟩
        have n15_ : Aside0 (gb171 ≠ gb221) := ⟨h15_⟩
        have n16_ : Aside0 (gb221 ≠ gb171) := ⟨h16_⟩
        have n17_ : Aside0 (gb180 ≠ gb221) := ⟨h17_⟩
        have n18_ : Aside0 (gb221 ≠ gb180) := ⟨h18_⟩
        have n19_ : Aside0 (gb187 ≠ gb221) := ⟨h19_⟩
        have n20_ : Aside0 (gb221 ≠ gb187) := ⟨h20_⟩
        have n21_ : Aside0 (Below w.heap.size w w138) := ⟨h21_⟩
        clear HO_172002
        clear HO_181002
        clear HO_188002
        clear BK155
        clear BK171
        clear BK180
        clear BK187
        clear HB
        clear h0_ h1_ h2_ h3_ h4_ h5_ h6_ h7_ h8_ h9_ h10_ h11_ h12_ h13_ h14_ h15_ h16_ h17_ h18_ h19_ h20_ h21_
        have HO209 := n0_
        have HO214 := n1_
        have HO219 := n2_
        have HO_172002 := n3_
        have HO_181002 := n4_
        have HO_188002 := n5_
        have BK155 := n6_
        have BK171 := n7_
        have BK180 := n8_
        have BK187 := n9_
        have BK221 := n10_
        have GW221 := n11_
        have GE221 := n12_
        have NB155_221 := n13_
        have NB221_155 := n14_
        have NB171_221 := n15_
        have NB221_171 := n16_
        have NB180_221 := n17_
        have NB221_180 := n18_
        have NB187_221 := n19_
        have NB221_187 := n20_
        have HB := n21_
        clear n0_ n1_ n2_ n3_ n4_ n5_ n6_ n7_ n8_ n9_ n10_ n11_ n12_ n13_ n14_ n15_ n16_ n17_ n18_ n19_ n20_ n21_
        have hHeld : w138.cell? ⟨gb155, 0, none⟩ = some (.int .i64 a1_0) ∧ w138.cell? ⟨gb155, 1, none⟩ = some (.int .i64 a1_1) ∧ w138.cell? ⟨gb155, 2, none⟩ = some (.slice A1_2 l1_2.length c1_2) := hS_
        obtain ⟨Ao141, co141, eo141⟩ := Kd.R_slice HO219.out
        (first | subst eo141 | (injection eo141 with f1_ f2_ f3_; have f4_ := f1_.symm; have f5_ := f3_.symm; clear f1_ f2_ f3_; subst f4_; subst f5_))
        refine norm_ (a' := ?_) ?_ ?_
        rotate_left
        ·
         simp only [putAll, Act.put, c4_, c5_, c6_]
         rfl
        refine one_ (i := 9) (N := none) #[true, true, true, true, true, true, true, true, true, true, false] rfl rfl (one_of HT_.out (by kernel_rfl)) (by decide) (fun K hK => ?_)
        have hs139 : w138.cell? ⟨gb221, 0, none⟩ = some (.int .i64 0) := (c2_ BK221.out 0).trans rfl
        have hfs139 := blk_frozen BK221.out 0
        have hns139_0 := NB155_221.out
        have hns139_1 := NB171_221.out
        have hns139_2 := NB180_221.out
        have hns139_3 := NB187_221.out
        have hms139_0 := NB221_155.out
        have hms139_1 := NB221_171.out
        have hms139_2 := NB221_180.out
        have hms139_3 := NB221_187.out
        have hs140 : w138.cell? ⟨gb221, 1, none⟩ = some (.int .i64 0) := (c2_ BK221.out 1).trans rfl
        have hfs140 := blk_frozen BK221.out 1
        have hns140_0 := NB155_221.out
        have hns140_1 := NB171_221.out
        have hns140_2 := NB180_221.out
        have hns140_3 := NB187_221.out
        have hms140_0 := NB221_155.out
        have hms140_1 := NB221_171.out
        have hms140_2 := NB221_180.out
        have hms140_3 := NB221_187.out
        have hs142 : w138.cell? ⟨gb221, 2, none⟩ = some (.slice none 0 0) := (c2_ BK221.out 2).trans rfl
        have hfs142 := blk_frozen BK221.out 2
        have hns142_0 := NB155_221.out
        have hns142_1 := NB171_221.out
        have hns142_2 := NB180_221.out
        have hns142_3 := NB187_221.out
        have hms142_0 := NB221_155.out
        have hms142_1 := NB221_171.out
        have hms142_2 := NB221_180.out
        have hms142_3 := NB221_187.out
        refine skip_ (w1 := ?_) (by rfl) rfl ?_ ?_
        rotate_left
        ·
         go_simp
         rfl
        refine hK.out _ _ ⟨((cell_far (p := ⟨gb221, _, none⟩) NB155_221.out _).trans (((cell_far (p := ⟨gb221, _, none⟩) NB155_221.out _).trans (((cell_far (p := ⟨gb221, _, none⟩) NB155_221.out _).trans (hHeld.1)))))), ((cell_far (p := ⟨gb221, _, none⟩) NB155_221.out _).trans (((cell_far (p := ⟨gb221, _, none⟩) NB155_221.out _).trans (((cell_far (p := ⟨gb221, _, none⟩) NB155_221.out _).trans (hHeld.2.1)))))), ((cell_far (p := ⟨gb221, _, none⟩) NB155_221.out _).trans (((cell_far (p := ⟨gb221, _, none⟩) NB155_221.out _).trans (((cell_far (p := ⟨gb221, _, none⟩) NB155_221.out _).trans (hHeld.2.2))))))⟩ (fun hHeld => ?_)
        clear hK K
        refine pure_ (i := 10) (N := some 16) (v := ?_) (a' := ?_) #[true, true, true, true, true, true, true, true, true, true, true] rfl rfl (any_of HT_.out (by kernel_rfl)) (fun _ _ _ h => h) (Or.inl ⟨by rfl, ?_⟩) ?_ ?_
        rotate_left
        ·
         intro w'
         go_simp
         with_reducible rfl
        rotate_left
        ·
         simp only [Act.put, c4_, c5_, c6_, i64_w, i32_w]
         rfl
        refine done_ (done_of HT_.out (by kernel_rfl)) ?_
        go_upto_region 31 with (fail)
        go_cut [108] (fun v108 wc => ∃ (kq : Nat) (x108_122 : Bool), v108 = .bool x108_122 ∧ Aside0 (laws_FnExactUndo.j2 kq t204 x108_122 t181 t182 t205 = some r) ∧ Aside0 (kq ≤ kj75) ∧ Aside0 (Kd.R (Kd.int .i64) 3 wc w.heap.size (fun k_ => some k_ ≠ ((.slice Ao40 t202.length co40) : Value).ownBlock ∧ some k_ ≠ ((.slice Ao48 t183.length co48) : Value).ownBlock ∧ some k_ ≠ ((.slice Ao141 t217.length co141) : Value).ownBlock) (.slice Ao30 t167.length co30) t167) ∧ Aside0 (Kd.R (Kd.int .i64) 3 wc w.heap.size (fun k_ => some k_ ≠ ((.slice Ao30 t167.length co30) : Value).ownBlock ∧ some k_ ≠ ((.slice Ao48 t183.length co48) : Value).ownBlock ∧ some k_ ≠ ((.slice Ao141 t217.length co141) : Value).ownBlock) (.slice Ao40 t202.length co40) t202) ∧ Aside0 (Kd.R (Kd.int .i64) 3 wc w.heap.size (fun k_ => some k_ ≠ ((.slice Ao30 t167.length co30) : Value).ownBlock ∧ some k_ ≠ ((.slice Ao40 t202.length co40) : Value).ownBlock ∧ some k_ ≠ ((.slice Ao141 t217.length co141) : Value).ownBlock) (.slice Ao48 t183.length co48) t205) ∧ Aside0 (Kd.R (Kd.int .i64) 3 wc w.heap.size (fun k_ => some k_ ≠ ((.slice Ao30 t167.length co30) : Value).ownBlock ∧ some k_ ≠ ((.slice Ao40 t202.length co40) : Value).ownBlock ∧ some k_ ≠ ((.slice Ao48 t183.length co48) : Value).ownBlock) (.slice Ao141 t217.length co141) t217) ∧ Aside0 (wc.heap[gb155]? = some (.cells #[.int .i64 a1_0, .int .i64 a1_1, (.slice A1_2 l1_2.length c1_2)] 24 (0, 0))) ∧ Aside0 (wc.heap[gb171]? = some (.cells #[.int .i64 t165, .int .i64 t166, (.slice Ao30 t167.length co30)] 28 (0, 0))) ∧ Aside0 (wc.heap[gb180]? = some (.cells #[.int .i64 t175, .int .i64 t176, (.slice Ao40 t202.length co40)] 28 (0, 0))) ∧ Aside0 (wc.heap[gb187]? = some (.cells #[.int .i64 t181, .int .i64 t182, (.slice Ao48 t183.length co48)] 28 (0, 0))) ∧ Aside0 (wc.heap[gb221]? = some (.cells #[.int .i64 t215, .int .i64 t216, (.slice Ao141 t217.length co141)] 28 (0, 0))) ∧ Aside0 (Below w.heap.size w wc))
        case first =>
         have H := HC123.out
         clear HC123
         replace H := Option.bind_eq_some_iff.mp H
         obtain ⟨t222, A1430, H⟩ := H
         try dsimp only at H
         have A143 := c7_ A1430
         clear A1430
         by_cases c144 : t222 = true
         ·
          subst c144
          rw [if_pos rfl] at H
          have H' := c7_ H
          clear H
          have hnb145 := NB221_155.out
          have hnc145 := NB155_221.out
          have hnb146 := NB221_171.out
          have hnc146 := NB171_221.out
          have hnb147 := NB221_180.out
          have hnc147 := NB180_221.out
          have hnb148 := NB221_187.out
          have hnc148 := NB187_221.out
          have hcz149_0 : w138.cell? ⟨gb221, 0, none⟩ = some (.int .i64 0) := (c2_ BK221.out 0).trans rfl
          have hcz149_1 : w138.cell? ⟨gb221, 1, none⟩ = some (.int .i64 0) := (c2_ BK221.out 1).trans rfl
          have hcz149_2 : w138.cell? ⟨gb221, 2, none⟩ = some (.slice none 0 0) := (c2_ BK221.out 2).trans rfl
          have hfz149_0 := blk_frozen BK221.out 0
          have hfz149_1 := blk_frozen BK221.out 1
          have hfz149_2 := blk_frozen BK221.out 2
          have hnb150 := NB171_155.out
          have hnc150 := NB155_171.out
          have hnb151 := NB171_180.out
          have hnc151 := NB180_171.out
          have hnb152 := NB171_187.out
          have hnc152 := NB187_171.out
          have hcz153_0 : w138.cell? ⟨gb171, 0, none⟩ = some (.int .i64 t165) := (c2_ BK171.out 0).trans rfl
          have hcz153_1 : w138.cell? ⟨gb171, 1, none⟩ = some (.int .i64 t166) := (c2_ BK171.out 1).trans rfl
          have hcz153_2 : w138.cell? ⟨gb171, 2, none⟩ = some (.slice Ao30 t167.length co30) := (c2_ BK171.out 2).trans rfl
          have hfz153_0 := blk_frozen BK171.out 0
          have hfz153_1 := blk_frozen BK171.out 1
          have hfz153_2 := blk_frozen BK171.out 2
          go_wp2_with (first | ((with_reducible refine gate_callee (f := 20) rfl ?_); refine goesL_ (some 102) rfl rfl Try.func20 (by kernel_rfl) rfl #[.agg #[.int .i64 t215, .int .i64 t216, .slice Ao141 t217.length co141], .agg #[.int .i64 t165, .int .i64 t166, .slice Ao30 t167.length co30]] rfl (by (try simp only [List.map_toArray, List.map_cons, List.map_nil]); first | done | rfl | (simp only [List.length_drop, List.length_take]; rfl)) ?_; (with_reducible refine (laws_eqAmend.calls kj75 t215 t216 _ _ t217 t165 t166 _ _ t167 true _ ?side1 ?side2 ?side3 ?side4 A143.out).mono ?_); (case side1 => refine (Kd.R_reads' (e := 3) (base := w.heap.size) (ok := fun k_ => (some k_ ≠ (v208 : Value).ownBlock ∧ (some k_ ≠ (v213 : Value).ownBlock ∧ (some k_ ≠ (.slice Ao30 t167.length co30 : Value).ownBlock ∧ (some k_ ≠ (.slice Ao40 t202.length co40 : Value).ownBlock ∧ some k_ ≠ (.slice Ao48 t183.length co48 : Value).ownBlock))))) (n := t217.length) (c := co141) ?_).2.2; exact (by (with_reducible repeat (first | apply b4 | apply b5 | apply b6)); exact (d2_ (Kd.R_far (p := ⟨gb221, 2, none⟩) (Kd.R_far (p := ⟨gb221, 1, none⟩) (Kd.R_far (p := ⟨gb221, 0, none⟩) (Kd.R_types HO219.out BK221.out (by decide)) (fun _ hk => hk.2) (.int .i64 t215)) (fun _ hk => hk.2) (.int .i64 t216)) (fun _ hk => hk.2) (.slice Ao141 t217.length co141)) (fun _ h_ => h_.1)))); (case side2 => exact (Kd.R_reads' HO219.out).2.1); (case side3 => refine (Kd.R_reads' (e := 3) (base := w.heap.size) (ok := fun k_ => (some k_ ≠ (v208 : Value).ownBlock ∧ (some k_ ≠ (v213 : Value).ownBlock ∧ (some k_ ≠ (.slice Ao141 t217.length co141 : Value).ownBlock ∧ (some k_ ≠ (.slice Ao40 t202.length co40 : Value).ownBlock ∧ some k_ ≠ (.slice Ao48 t183.length co48 : Value).ownBlock))))) (n := t167.length) (c := co30) ?_).2.2; exact (by (with_reducible repeat (first | apply b4 | apply b5 | apply b6)); exact (d2_ (Kd.R_far (p := ⟨gb221, 2, none⟩) (Kd.R_far (p := ⟨gb221, 1, none⟩) (Kd.R_far (p := ⟨gb221, 0, none⟩) (Kd.R_types HO_172002.out BK221.out (by decide)) (fun _ hk => hk.2) (.int .i64 t215)) (fun _ hk => hk.2) (.int .i64 t216)) (fun _ hk => hk.2) (.slice Ao141 t217.length co141)) (fun _ h_ => h_.1)))); (case side4 => exact (Kd.R_reads' HO_172002.out).2.1); rintro e w154 ⟨rfl, hb⟩; refine ⟨_, rfl, ?_⟩; have n0_ := c7_ (c9_ (by (with_reducible repeat (first | apply b4 | apply b5 | apply b6)); exact (d2_ (Kd.R_far (p := ⟨gb221, 2, none⟩) (Kd.R_far (p := ⟨gb221, 1, none⟩) (Kd.R_far (p := ⟨gb221, 0, none⟩) (Kd.R_types HO_172002.out BK221.out (by decide)) (fun _ hk => hk.2) (.int .i64 t215)) (fun _ hk => hk.2) (.int .i64 t216)) (fun _ hk => hk.2) (.slice Ao141 t217.length co141)) (fun _ h_ => h_.1))) hb); have n1_ := c7_ (c9_ (by (with_reducible repeat (first | apply b4 | apply b5 | apply b6)); exact (d2_ (Kd.R_far (p := ⟨gb221, 2, none⟩) (Kd.R_far (p := ⟨gb221, 1, none⟩) (Kd.R_far (p := ⟨gb221, 0, none⟩) (Kd.R_types HO_181002.out BK221.out (by decide)) (fun _ hk => hk.2) (.int .i64 t215)) (fun _ hk => hk.2) (.int .i64 t216)) (fun _ hk => hk.2) (.slice Ao141 t217.length co141)) (fun _ h_ => h_.1))) hb); have n2_ := c7_ (c9_ (by (with_reducible repeat (first | apply b4 | apply b5 | apply b6)); exact (d2_ (Kd.R_far (p := ⟨gb221, 2, none⟩) (Kd.R_far (p := ⟨gb221, 1, none⟩) (Kd.R_far (p := ⟨gb221, 0, none⟩) (Kd.R_types HO_188002.out BK221.out (by decide)) (fun _ hk => hk.2) (.int .i64 t215)) (fun _ hk => hk.2) (.int .i64 t216)) (fun _ hk => hk.2) (.slice Ao141 t217.length co141)) (fun _ h_ => h_.1))) hb); have n3_ := c7_ (c9_ (by (with_reducible repeat (first | apply b4 | apply b5 | apply b6)); exact (d2_ (Kd.R_far (p := ⟨gb221, 2, none⟩) (Kd.R_far (p := ⟨gb221, 1, none⟩) (Kd.R_far (p := ⟨gb221, 0, none⟩) (Kd.R_types HO209.out BK221.out (by decide)) (fun _ hk => hk.2) (.int .i64 t215)) (fun _ hk => hk.2) (.int .i64 t216)) (fun _ hk => hk.2) (.slice Ao141 t217.length co141)) (fun _ h_ => h_.1))) hb); have n4_ := c7_ (c9_ (by (with_reducible repeat (first | apply b4 | apply b5 | apply b6)); exact (d2_ (Kd.R_far (p := ⟨gb221, 2, none⟩) (Kd.R_far (p := ⟨gb221, 1, none⟩) (Kd.R_far (p := ⟨gb221, 0, none⟩) (Kd.R_types HO214.out BK221.out (by decide)) (fun _ hk => hk.2) (.int .i64 t215)) (fun _ hk => hk.2) (.int .i64 t216)) (fun _ hk => hk.2) (.slice Ao141 t217.length co141)) (fun _ h_ => h_.1))) hb); have n5_ := c7_ (c9_ (by (with_reducible repeat (first | apply b4 | apply b5 | apply b6)); exact (d2_ (Kd.R_far (p := ⟨gb221, 2, none⟩) (Kd.R_far (p := ⟨gb221, 1, none⟩) (Kd.R_far (p := ⟨gb221, 0, none⟩) (Kd.R_types HO219.out BK221.out (by decide)) (fun _ hk => hk.2) (.int .i64 t215)) (fun _ hk => hk.2) (.int .i64 t216)) (fun _ hk => hk.2) (.slice Ao141 t217.length co141)) (fun _ h_ => h_.1))) hb); have n6_ := c7_ (c3_ (g := gb155) (o := .cells #[.int .i64 a1_0, .int .i64 a1_1, .slice A1_2 l1_2.length c1_2] 24 (0, 0)) (by (with_reducible repeat (first | refine b1 ?_ _ | refine b3 ?_ | refine b2 ?_ _)); refine blk_far ?_ NB155_221.out _; (with_reducible repeat (first | refine b1 ?_ _ | refine b3 ?_ | refine b2 ?_ _)); refine blk_far ?_ NB155_221.out _; (with_reducible repeat (first | refine b1 ?_ _ | refine b3 ?_ | refine b2 ?_ _)); refine blk_far ?_ NB155_221.out _; (with_reducible repeat (first | refine b1 ?_ _ | refine b3 ?_ | refine b2 ?_ _)); exact BK155.out) hb); have n7_ := c7_ (c3_ (g := gb171) (o := .cells #[.int .i64 t165, .int .i64 t166, .slice Ao30 t167.length co30] 28 (0, 0)) (by (with_reducible repeat (first | refine b1 ?_ _ | refine b3 ?_ | refine b2 ?_ _)); refine blk_far ?_ NB171_221.out _; (with_reducible repeat (first | refine b1 ?_ _ | refine b3 ?_ | refine b2 ?_ _)); refine blk_far ?_ NB171_221.out _; (with_reducible repeat (first | refine b1 ?_ _ | refine b3 ?_ | refine b2 ?_ _)); refine blk_far ?_ NB171_221.out _; (with_reducible repeat (first | refine b1 ?_ _ | refine b3 ?_ | refine b2 ?_ _)); exact BK171.out) hb); have n8_ := c7_ (c3_ (g := gb180) (o := .cells #[.int .i64 t175, .int .i64 t176, .slice Ao40 t202.length co40] 28 (0, 0)) (by (with_reducible repeat (first | refine b1 ?_ _ | refine b3 ?_ | refine b2 ?_ _)); refine blk_far ?_ NB180_221.out _; (with_reducible repeat (first | refine b1 ?_ _ | refine b3 ?_ | refine b2 ?_ _)); refine blk_far ?_ NB180_221.out _; (with_reducible repeat (first | refine b1 ?_ _ | refine b3 ?_ | refine b2 ?_ _)); refine blk_far ?_ NB180_221.out _; (with_reducible repeat (first | refine b1 ?_ _ | refine b3 ?_ | refine b2 ?_ _)); exact BK180.out) hb); have n9_ := c7_ (c3_ (g := gb187) (o := .cells #[.int .i64 t181, .int .i64 t182, .slice Ao48 t183.length co48] 28 (0, 0)) (by (with_reducible repeat (first | refine b1 ?_ _ | refine b3 ?_ | refine b2 ?_ _)); refine blk_far ?_ NB187_221.out _; (with_reducible repeat (first | refine b1 ?_ _ | refine b3 ?_ | refine b2 ?_ _)); refine blk_far ?_ NB187_221.out _; (with_reducible repeat (first | refine b1 ?_ _ | refine b3 ?_ | refine b2 ?_ _)); refine blk_far ?_ NB187_221.out _; (with_reducible repeat (first | refine b1 ?_ _ | refine b3 ?_ | refine b2 ?_ _)); exact BK187.out) hb); have n10_ := c7_ (c3_ (g := gb221) (o := .cells #[.int .i64 t215, .int .i64 t216, .slice Ao141 t217.length co141] 28 (0, 0)) (by (with_reducible repeat (first | refine b1 ?_ _ | refine b3 ?_ | refine b2 ?_ _)); refine blk_put (cs := #[.int .i64 t215, .int .i64 t216, .slice none 0 0]) ?_ 2 _ rfl; (with_reducible repeat (first | refine b1 ?_ _ | refine b3 ?_ | refine b2 ?_ _)); refine blk_put (cs := #[.int .i64 t215, .int .i64 0, .slice none 0 0]) ?_ 1 _ rfl; (with_reducible repeat (first | refine b1 ?_ _ | refine b3 ?_ | refine b2 ?_ _)); refine blk_put (cs := #[.int .i64 0, .int .i64 0, .slice none 0 0]) ?_ 0 _ rfl; (with_reducible repeat (first | refine b1 ?_ _ | refine b3 ?_ | refine b2 ?_ _)); exact BK221.out) hb); have n11_ := c7_ (below_step (by repeat (first | (with_reducible first | exact HB.out | apply c1_ | apply b8 | apply b9 | refine b7 ?_ GE155.out | refine b7 ?_ GE171.out | refine b7 ?_ GE180.out | refine b7 ?_ GE187.out | refine b7 ?_ GE221.out) | exact HB.out)) hb); clear HO_172002; clear HO_181002; clear HO_188002; clear HO209; clear HO214; clear HO219; clear BK155; clear BK171; clear BK180; clear BK187; clear BK221; clear HB; have HO_172002 := n0_; have HO_181002 := n1_; have HO_188002 := n2_; have HO209 := n3_; have HO214 := n4_; have HO219 := n5_; have BK155 := n6_; have BK171 := n7_; have BK180 := n8_; have BK187 := n9_; have BK221 := n10_; have HB := n11_; clear n0_ n1_ n2_ n3_ n4_ n5_ n6_ n7_ n8_ n9_ n10_ n11_; (try clear hb); (try clear hb2); (try clear hk); (try clear hi)))
          go_meet
          case rel => exact ⟨_, ((t220 != t170)), (by first | rfl | (simp; done) | (simp [*]; done)), H', ⟨by have := HJ15.out; have := HJ75.out; first | omega | exact Nat.le_refl _⟩, ⟨by (try simp only [hl181002_75]); (with_reducible repeat (first | apply b4 | apply b5 | apply b6)); exact d2_ HO_172002.out (fun _ hk => ⟨hk.2.2.2.1, ⟨hk.2.2.2.2, hk.2.2.1⟩⟩)⟩, ⟨by (try simp only [hl181002_75]); (with_reducible repeat (first | apply b4 | apply b5 | apply b6)); exact d2_ HO_181002.out (fun _ hk => ⟨hk.2.2.2.1, ⟨hk.2.2.2.2, hk.2.2.1⟩⟩)⟩, ⟨by (try simp only [hl181002_75]); (with_reducible repeat (first | apply b4 | apply b5 | apply b6)); exact d2_ HO_188002.out (fun _ hk => ⟨hk.2.2.2.1, ⟨hk.2.2.2.2, hk.2.2.1⟩⟩)⟩, ⟨by (try simp only [hl181002_75]); (with_reducible repeat (first | apply b4 | apply b5 | apply b6)); exact d2_ HO219.out (fun _ hk => ⟨hk.2.2.1, ⟨hk.2.2.2.1, hk.2.2.2.2⟩⟩)⟩, ⟨by (try simp only [hl181002_75]); (with_reducible repeat (first | refine b1 ?_ _ | refine b3 ?_ | refine b2 ?_ _)); exact BK155.out⟩, ⟨by (try simp only [hl181002_75]); (with_reducible repeat (first | refine b1 ?_ _ | refine b3 ?_ | refine b2 ?_ _)); exact BK171.out⟩, ⟨by (try simp only [hl181002_75]); (with_reducible repeat (first | refine b1 ?_ _ | refine b3 ?_ | refine b2 ?_ _)); exact BK180.out⟩, ⟨by (try simp only [hl181002_75]); (with_reducible repeat (first | refine b1 ?_ _ | refine b3 ?_ | refine b2 ?_ _)); exact BK187.out⟩, ⟨by (try simp only [hl181002_75]); (with_reducible repeat (first | refine b1 ?_ _ | refine b3 ?_ | refine b2 ?_ _)); exact BK221.out⟩, ⟨by repeat (first | (with_reducible first | exact HB.out | apply c1_ | apply b8 | apply b9 | refine b7 ?_ GE155.out | refine b7 ?_ GE171.out | refine b7 ?_ GE180.out | refine b7 ?_ GE187.out | refine b7 ?_ GE221.out) | exact HB.out)⟩⟩
         replace c144 := Bool.eq_false_iff.mpr c144
         subst c144
         have H1 : (laws_FnExactUndo.j2 kj75 t204 true t181 t182 t205) = some r := by rw [if_neg (show ¬ (false = true) by decide)] at H; exact H
         clear H
         have H := H1
         clear H1
         exact absurd (H.trans (congrArg some hr_)) (fun h_ => laws_FnExactUndo.j2_no _ _ _ _ _ h_)
        case rest =>
         clear HC123
         try clear c1
         try clear c2
         try clear p2
         try clear c14
         try clear c15
         try clear c16
         try clear c17
         try clear c20
         try clear c29
         try clear c144
         try clear c145
         try clear c146
         try clear c147
         try clear c148
         try clear c150
         try clear c151
         try clear c152
         try clear c155
         try clear c156
         try clear c157
         try clear c158
         try clear c160
         try clear c161
         try clear c162
         try clear hcz149_0
         try clear hcz149_1
         try clear hcz149_2
         try clear hcz153_0
         try clear hcz153_1
         try clear hcz153_2
         try clear hcz159_0
         try clear hcz159_1
         try clear hcz159_2
         try clear hcz163_0
         try clear hcz163_1
         try clear hcz163_2
         try clear hfz149_0
         try clear hfz149_1
         try clear hfz149_2
         try clear hfz153_0
         try clear hfz153_1
         try clear hfz153_2
         try clear hfz159_0
         try clear hfz159_1
         try clear hfz159_2
         try clear hfz163_0
         try clear hfz163_1
         try clear hfz163_2
         obtain ⟨kq, x108_122, rfl, HA, HJ122, HO_172002, HO_181002, HO_188002, HO_222002, BK155, BK171, BK180, BK187, BK221, HB⟩ := hcut
         have hl188002_122 := (Kd.R_reads' HO_188002.out).1
         rw [hl188002_122] at HO_188002
         (try simp only [hl188002_122])
         (try simp only [hl188002_122] at BK155)
         (try simp only [hl188002_122] at BK171)
         (try simp only [hl188002_122] at BK180)
         (try simp only [hl188002_122] at BK187)
         (try simp only [hl188002_122] at BK221)
         (try simp only [hl188002_122] at HO_172002)
         (try simp only [hl188002_122] at HO_181002)
         (try simp only [hl188002_122] at HO_222002)
         cases kq with
         | zero => exact absurd HA.out (by simp [laws_FnExactUndo.j2])
         | succ kj122 =>
          have H := HA.out
          clear HA
          simp only [laws_FnExactUndo.j2] at H
          by_cases c165 : x108_122 = true
          ·
           subst c165
           rw [if_pos rfl] at H
           exact absurd ((Option.some.inj H).trans hr_) (by decide)
          replace c165 := Bool.eq_false_iff.mpr c165
          subst c165
          have H1 : ((laws_heldAmend.f kj122 t181 t182 t205 1).bind fun t223 => (if t223 < 0 then (some false) else (if t223 = t204 then (some true) else (some false)))) = some r := by rw [if_neg (show ¬ (false = true) by decide)] at H; exact H
          clear H
          have H := H1
          clear H1
          replace H := Option.bind_eq_some_iff.mp H
          obtain ⟨t223, A1660, H⟩ := H
          try dsimp only at H
          have A166 := c7_ A1660
          clear A1660
          by_cases c167 : t223 < 0
          ·
           rw [if_pos c167] at H
           have c167b0 : decide (t223 < 0) = true := decide_eq_true c167
           clear c167
           exact absurd ((Option.some.inj H).trans hr_) (by decide)
          rw [if_neg c167] at H
          have c167b0 : decide (t223 < 0) = false := decide_eq_false c167
          clear c167
          by_cases c174 : t223 = t204
          ·
           rw [if_pos c174] at H
           have c174b0 : (t223 == t204) = true := beq_iff_eq.mpr c174
           have c174b1 : (t223 != t204) = false := bne_eq_false_iff_eq.mpr c174
           clear c174
           obtain rfl := Option.some.inj H
           have hnb175 := NB187_155.out
           have hnc175 := NB155_187.out
           have hnb176 := NB187_171.out
           have hnc176 := NB171_187.out
           have hnb177 := NB187_180.out
           have hnc177 := NB180_187.out
           have hnb178 := NB187_221.out
           have hnc178 := NB221_187.out
           have hcz179_0 : wc.cell? ⟨gb187, 0, none⟩ = some (.int .i64 t181) := (c2_ BK187.out 0).trans rfl
           have hcz179_1 : wc.cell? ⟨gb187, 1, none⟩ = some (.int .i64 t182) := (c2_ BK187.out 1).trans rfl
           have hcz179_2 : wc.cell? ⟨gb187, 2, none⟩ = some (.slice Ao48 t205.length co48) := (c2_ BK187.out 2).trans rfl
           have hfz179_0 := blk_frozen BK187.out 0
           have hfz179_1 := blk_frozen BK187.out 1
           have hfz179_2 := blk_frozen BK187.out 2
           go_wp2_with (first | ((with_reducible refine gate_callee (f := 27) rfl ?_); refine goesL_ (some 111) rfl rfl Try.func27 (by kernel_rfl) rfl #[.agg #[.int .i64 t181, .int .i64 t182, .slice Ao48 t205.length co48], .int .i64 1] rfl (by (try simp only [List.map_toArray, List.map_cons, List.map_nil]); first | done | rfl | (simp only [List.length_drop, List.length_take]; rfl)) ?_; (with_reducible refine (laws_heldAmend.calls kj122 t181 t182 _ _ t205 1 t223 _ ?side1 ?side2 A166.out).mono ?_); (case side1 => repeat (first | exact (Kd.R_reads' HO_188002.out).2.2 | (with_reducible refine Kd.C_alloc ?_ _) | (with_reducible refine Kd.C_drewN ?_ _) | (with_reducible refine Kd.C_drew ?_))); (case side2 => exact (Kd.R_reads' HO_188002.out).2.1); rintro e w180 ⟨rfl, hb⟩; refine ⟨_, rfl, ?_⟩; have n0_ := c7_ (c9_ (by (with_reducible repeat (first | apply b4 | apply b5 | apply b6)); exact HO_172002.out) hb); have n1_ := c7_ (c9_ (by (with_reducible repeat (first | apply b4 | apply b5 | apply b6)); exact HO_181002.out) hb); have n2_ := c7_ (c9_ (by (with_reducible repeat (first | apply b4 | apply b5 | apply b6)); exact HO_188002.out) hb); have n3_ := c7_ (c9_ (by (with_reducible repeat (first | apply b4 | apply b5 | apply b6)); exact HO_222002.out) hb); have n4_ := c7_ (c3_ (g := gb155) (o := .cells #[.int .i64 a1_0, .int .i64 a1_1, .slice A1_2 l1_2.length c1_2] 24 (0, 0)) (by (with_reducible repeat (first | refine b1 ?_ _ | refine b3 ?_ | refine b2 ?_ _)); exact BK155.out) hb); have n5_ := c7_ (c3_ (g := gb171) (o := .cells #[.int .i64 t165, .int .i64 t166, .slice Ao30 t167.length co30] 28 (0, 0)) (by (with_reducible repeat (first | refine b1 ?_ _ | refine b3 ?_ | refine b2 ?_ _)); exact BK171.out) hb); have n6_ := c7_ (c3_ (g := gb180) (o := .cells #[.int .i64 t175, .int .i64 t176, .slice Ao40 t202.length co40] 28 (0, 0)) (by (with_reducible repeat (first | refine b1 ?_ _ | refine b3 ?_ | refine b2 ?_ _)); exact BK180.out) hb); have n7_ := c7_ (c3_ (g := gb187) (o := .cells #[.int .i64 t181, .int .i64 t182, .slice Ao48 t205.length co48] 28 (0, 0)) (by (with_reducible repeat (first | refine b1 ?_ _ | refine b3 ?_ | refine b2 ?_ _)); exact BK187.out) hb); have n8_ := c7_ (c3_ (g := gb221) (o := .cells #[.int .i64 t215, .int .i64 t216, .slice Ao141 t217.length co141] 28 (0, 0)) (by (with_reducible repeat (first | refine b1 ?_ _ | refine b3 ?_ | refine b2 ?_ _)); exact BK221.out) hb); have n9_ := c7_ (below_step (by repeat (first | (with_reducible first | exact HB.out | apply c1_ | apply b8 | apply b9 | refine b7 ?_ GE155.out | refine b7 ?_ GE171.out | refine b7 ?_ GE180.out | refine b7 ?_ GE187.out | refine b7 ?_ GE221.out) | exact HB.out)) hb); clear HO_172002; clear HO_181002; clear HO_188002; clear HO_222002; clear BK155; clear BK171; clear BK180; clear BK187; clear BK221; clear HB; have HO_172002 := n0_; have HO_181002 := n1_; have HO_188002 := n2_; have HO_222002 := n3_; have BK155 := n4_; have BK171 := n5_; have BK180 := n6_; have BK187 := n7_; have BK221 := n8_; have HB := n9_; clear n0_ n1_ n2_ n3_ n4_ n5_ n6_ n7_ n8_ n9_; (try clear hb); (try clear hb2); (try clear hk); (try clear hi)))
           go_ret
           exact ⟨by first | rfl | (simp [errW_none, errW_some] <;> rfl) | (simp [*, errW_none, errW_some] <;> rfl), by repeat (first | (with_reducible first | exact HB.out | apply c1_ | apply b8 | apply b9 | refine b7 ?_ GE155.out | refine b7 ?_ GE171.out | refine b7 ?_ GE180.out | refine b7 ?_ GE187.out | refine b7 ?_ GE221.out) | exact HB.out)⟩
          rw [if_neg c174] at H
          have c174b0 : (t223 == t204) = false := beq_eq_false_iff_ne.mpr c174
          have c174b1 : (t223 != t204) = true := bne_iff_ne.mpr c174
          exact absurd ((Option.some.inj H).trans hr_) (by decide)
       rw [if_neg c119] at H
       have c119b0 : (t206 == t204) = false := beq_eq_false_iff_ne.mpr c119
       have c119b1 : (t206 != t204) = true := bne_iff_ne.mpr c119
       exact absurd ((Option.some.inj H).trans hr_) (by decide)
    replace c73 := Bool.eq_false_iff.mpr c73
    subst c73
    have H1 : (some false) = some r := by rw [if_neg (show ¬ (false = true) by decide)] at H; exact H
    clear H
    have H := H1
    clear H1
    exact absurd ((Option.some.inj H).trans hr_) (by decide)
   replace c70 := Bool.eq_false_iff.mpr c70
   subst c70
   have H1 : (some false) = some r := by rw [if_neg (show ¬ (false = true) by decide)] at H; exact H
   clear H
   have H := H1
   clear H1
   exact absurd ((Option.some.inj H).trans hr_) (by decide)

end Go.Proofs.Ytfdalcklgfdadaa.QFnExactUndo
