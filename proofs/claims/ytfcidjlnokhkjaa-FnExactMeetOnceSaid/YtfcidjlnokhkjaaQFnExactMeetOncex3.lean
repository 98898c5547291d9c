-- Laid by this session's own program (wip/myprint.py), the kit's printer its engine; turned by hand where that fell. Lean checks it.
import Derived.Test.YtfcidjlnokhkjaaQFnExactMeetOncex0
import Derived.Test.YtfcidjlnokhkjaaQFnExactMeetOncex1
import Derived.Test.YtfcidjlnokhkjaaQFnExactMeetOncex2
namespace Go.Proofs.Ytfcidjlnokhkjaa.QFnExactMeetOnce
open Go.RowKit Go.Proofs.YtfcidjlnokhkjaaW.PrintWords Go.Proofs.YtfcidjlnokhkjaaW.PrintLast Go.Proofs.YtfcidjlnokhkjaaW.PrintMore
attribute [local go_sem] max2_int min2_int max_two min_two max_three min_three max_four min_four   -- for this text's walks alone
set_option linter.unusedVariables false
set_option linter.unusedSimpArgs false

/-! ### spec_MeetOnce: function 56 -/
mutual
def spec_MeetOnce.l0 : Nat → List (List (List Int)) → Int → List Int → Int → Option (Bool)
 | 0, _, _, _, _ => none
 | k + 1, x0, x1, x5, x6 => if x6 < (x0.length : Int) then (spec_MeetOnce.l1 k x0 x1 x5 x6 (([] : List Int)) 0) else (spec_MeetOnce.l2 k x1 x5 0)
def spec_MeetOnce.l1 : Nat → List (List (List Int)) → Int → List Int → Int → List Int → Int → Option (Bool)
 | 0, _, _, _, _, _, _ => none
 | k + 1, x0, x1, x5, x6, x7, x8 => if 0 ≤ x6 then (if x6 < (x0.length : Int) then (if x8 < ((rd_L2 x0 x6).length : Int) then (if 0 ≤ x8 then (if ((rd_L1 (rd_L2 x0 x6) x8).length : Int) = 2 then (if 0 < ((rd_L1 (rd_L2 x0 x6) x8).length : Int) then ((spec_l1In.f (rd (rd_L1 (rd_L2 x0 x6) x8) 0) 0 (wrap64 (x1 - 1))).bind fun t125 => (if t125 = true then (if 1 < ((rd_L1 (rd_L2 x0 x6) x8).length : Int) then ((spec_l1In.f (rd (rd_L1 (rd_L2 x0 x6) x8) 1) 0 (wrap64 (x1 - 1))).bind fun t127 => (if t127 = true then (if (rd (rd_L1 (rd_L2 x0 x6) x8) 0) = (rd (rd_L1 (rd_L2 x0 x6) x8) 1) then (spec_MeetOnce.j2 k x0 x1 x5 x6 x7 x8 (rd_L1 (rd_L2 x0 x6) x8) true) else ((spec_l4Has.f k x7 (rd (rd_L1 (rd_L2 x0 x6) x8) 0)).bind fun t131 => (if t131 = true then (spec_MeetOnce.j2 k x0 x1 x5 x6 x7 x8 (rd_L1 (rd_L2 x0 x6) x8) true) else ((spec_l4Has.f k x7 (rd (rd_L1 (rd_L2 x0 x6) x8) 1)).bind fun t133 => (spec_MeetOnce.j2 k x0 x1 x5 x6 x7 x8 (rd_L1 (rd_L2 x0 x6) x8) t133))))) else (spec_MeetOnce.j2 k x0 x1 x5 x6 x7 x8 (rd_L1 (rd_L2 x0 x6) x8) true))) else (none)) else (spec_MeetOnce.j2 k x0 x1 x5 x6 x7 x8 (rd_L1 (rd_L2 x0 x6) x8) true))) else (none)) else (spec_MeetOnce.j2 k x0 x1 x5 x6 x7 x8 (rd_L1 (rd_L2 x0 x6) x8) true)) else (none)) else (spec_MeetOnce.l0 k x0 x1 x5 (wrap64 (x6 + 1)))) else (none)) else (none)
def spec_MeetOnce.j2 : Nat → List (List (List Int)) → Int → List Int → Int → List Int → Int → List Int → Bool → Option (Bool)
 | 0, _, _, _, _, _, _, _, _ => none
 | k + 1, x0, x1, x5, x6, x7, x8, x9, x86 => if x86 = true then (some false) else (if 0 < (x9.length : Int) then (if 1 < (x9.length : Int) then ((some (([rd x9 0, rd x9 1] : List Int) : List Int)).bind fun y136 => (if x7.length + y136.length < 17592186044416 then ((spec_Min.f (rd x9 0) (rd x9 1)).bind fun t144 => ((spec_Max.f (rd x9 0) (rd x9 1)).bind fun t147 => (if 0 ≤ (wrap64 ((wrap64 (t144 * x1)) + t147)) then (if (wrap64 ((wrap64 (t144 * x1)) + t147)) < (x5.length : Int) then (spec_MeetOnce.l1 k x0 x1 (x5.set ((wrap64 ((wrap64 (t144 * x1)) + t147)) : Int).toNat (wrap64 ((rd x5 (wrap64 ((wrap64 (t144 * x1)) + t147))) + 1))) x6 (x7 ++ y136) (wrap64 (x8 + 1))) else (none)) else (none)))) else (none))) else (none)) else (none))
def spec_MeetOnce.l2 : Nat → Int → List Int → Int → Option (Bool)
 | 0, _, _, _ => none
 | k + 1, x1, x5, x11 => if x11 < x1 then (spec_MeetOnce.l3 k x1 x5 x11 (wrap64 (x11 + 1))) else (some true)
def spec_MeetOnce.l3 : Nat → Int → List Int → Int → Int → Option (Bool)
 | 0, _, _, _, _ => none
 | k + 1, x1, x5, x11, x12 => if x12 < x1 then (if 0 ≤ (wrap64 ((wrap64 (x11 * x1)) + x12)) then (if (wrap64 ((wrap64 (x11 * x1)) + x12)) < (x5.length : Int) then (if (rd x5 (wrap64 ((wrap64 (x11 * x1)) + x12))) = 1 then (spec_MeetOnce.l3 k x1 x5 x11 (wrap64 (x12 + 1))) else (some false)) else (none)) else (none)) else (spec_MeetOnce.l2 k x1 x5 (wrap64 (x11 + 1)))
end
def spec_MeetOnce.f (k : Nat) (l0 : List (List (List Int))) (a1 : Int) : Option (Bool) := (spec_l1In.f a1 2 20).bind fun t114 => (if t114 = true then (if 0 ≤ (wrap64 (a1 * a1)) then (if (wrap64 (a1 * a1) : Int).toNat ≤ 35184372088832 then (spec_MeetOnce.l0 k l0 a1 (List.replicate (wrap64 (a1 * a1) : Int).toNat 0) 0) else (none)) else (none)) else (some false))
theorem spec_MeetOnce.mono_l : ∀ k, (∀ y0 y1 y2 y3, LeO (spec_MeetOnce.l0 k y0 y1 y2 y3) (spec_MeetOnce.l0 (k + 1) y0 y1 y2 y3)) ∧ (∀ y0 y1 y2 y3 y4 y5, LeO (spec_MeetOnce.l1 k y0 y1 y2 y3 y4 y5) (spec_MeetOnce.l1 (k + 1) y0 y1 y2 y3 y4 y5)) ∧ (∀ y0 y1 y2 y3 y4 y5 y6 y7, LeO (spec_MeetOnce.j2 k y0 y1 y2 y3 y4 y5 y6 y7) (spec_MeetOnce.j2 (k + 1) y0 y1 y2 y3 y4 y5 y6 y7)) ∧ (∀ y0 y1 y2, LeO (spec_MeetOnce.l2 k y0 y1 y2) (spec_MeetOnce.l2 (k + 1) y0 y1 y2)) ∧ (∀ y0 y1 y2 y3, LeO (spec_MeetOnce.l3 k y0 y1 y2 y3) (spec_MeetOnce.l3 (k + 1) y0 y1 y2 y3))
 | 0 => ⟨fun _ _ _ _ r h => by simp [spec_MeetOnce.l0] at h, fun _ _ _ _ _ _ r h => by simp [spec_MeetOnce.l1] at h, fun _ _ _ _ _ _ _ _ r h => by simp [spec_MeetOnce.j2] at h, fun _ _ _ r h => by simp [spec_MeetOnce.l2] at h, fun _ _ _ _ r h => by simp [spec_MeetOnce.l3] at h⟩
 | k + 1 => by
  obtain ⟨ih0, ih1, ih2, ih3, ih4⟩ := spec_MeetOnce.mono_l k
  refine ⟨?_, ?_, ?_, ?_, ?_⟩
  ·
   intro y0 y1 y2 y3
   unfold spec_MeetOnce.l0
   repeat' first
   | (with_reducible exact ih0 _ _ _ _)
   | (with_reducible exact ih1 _ _ _ _ _ _)
   | (with_reducible exact ih2 _ _ _ _ _ _ _ _)
   | (with_reducible exact ih3 _ _ _)
   | (with_reducible exact ih4 _ _ _ _)
   | (with_reducible exact spec_l4Has.mono _ _ _)
   | (with_reducible exact LeO.refl _)
   | (with_reducible exact LeO.none _)
   | (with_reducible refine LeO.ite ?_ ?_)
   | (with_reducible refine LeO.bind ?_ (fun _ => ?_))
   | exact ih0 _ _ _ _
   | exact ih1 _ _ _ _ _ _
   | exact ih2 _ _ _ _ _ _ _ _
   | exact ih3 _ _ _
   | exact ih4 _ _ _ _
   | exact spec_l4Has.mono _ _ _
   | exact LeO.none _
   | refine LeO.ite ?_ ?_
   | refine LeO.bind ?_ (fun _ => ?_)
  ·
   intro y0 y1 y2 y3 y4 y5
   unfold spec_MeetOnce.l1
   repeat' first
   | (with_reducible exact ih0 _ _ _ _)
   | (with_reducible exact ih1 _ _ _ _ _ _)
   | (with_reducible exact ih2 _ _ _ _ _ _ _ _)
   | (with_reducible exact ih3 _ _ _)
   | (with_reducible exact ih4 _ _ _ _)
   | (with_reducible exact spec_l4Has.mono _ _ _)
   | (with_reducible exact LeO.refl _)
   | (with_reducible exact LeO.none _)
   | (with_reducible refine LeO.ite ?_ ?_)
   | (with_reducible refine LeO.bind ?_ (fun _ => ?_))
   | exact ih0 _ _ _ _
   | exact ih1 _ _ _ _ _ _
   | exact ih2 _ _ _ _ _ _ _ _
   | exact ih3 _ _ _
   | exact ih4 _ _ _ _
   | exact spec_l4Has.mono _ _ _
   | exact LeO.none _
   | refine LeO.ite ?_ ?_
   | refine LeO.bind ?_ (fun _ => ?_)
  ·
   intro y0 y1 y2 y3 y4 y5 y6 y7
   unfold spec_MeetOnce.j2
   repeat' first
   | (with_reducible exact ih0 _ _ _ _)
   | (with_reducible exact ih1 _ _ _ _ _ _)
   | (with_reducible exact ih2 _ _ _ _ _ _ _ _)
   | (with_reducible exact ih3 _ _ _)
   | (with_reducible exact ih4 _ _ _ _)
   | (with_reducible exact spec_l4Has.mono _ _ _)
   | (with_reducible exact LeO.refl _)
   | (with_reducible exact LeO.none _)
   | (with_reducible refine LeO.ite ?_ ?_)
   | (with_reducible refine LeO.bind ?_ (fun _ => ?_))
   | exact ih0 _ _ _ _
   | exact ih1 _ _ _ _ _ _
   | exact ih2 _ _ _ _ _ _ _ _
   | exact ih3 _ _ _
   | exact ih4 _ _ _ _
   | exact spec_l4Has.mono _ _ _
   | exact LeO.none _
   | refine LeO.ite ?_ ?_
   | refine LeO.bind ?_ (fun _ => ?_)
  ·
   intro y0 y1 y2
   unfold spec_MeetOnce.l2
   repeat' first
   | (with_reducible exact ih0 _ _ _ _)
   | (with_reducible exact ih1 _ _ _ _ _ _)
   | (with_reducible exact ih2 _ _ _ _ _ _ _ _)
   | (with_reducible exact ih3 _ _ _)
   | (with_reducible exact ih4 _ _ _ _)
   | (with_reducible exact spec_l4Has.mono _ _ _)
   | (with_reducible exact LeO.refl _)
   | (with_reducible exact LeO.none _)
   | (with_reducible refine LeO.ite ?_ ?_)
   | (with_reducible refine LeO.bind ?_ (fun _ => ?_))
   | exact ih0 _ _ _ _
   | exact ih1 _ _ _ _ _ _
   | exact ih2 _ _ _ _ _ _ _ _
   | exact ih3 _ _ _
   | exact ih4 _ _ _ _
   | exact spec_l4Has.mono _ _ _
   | exact LeO.none _
   | refine LeO.ite ?_ ?_
   | refine LeO.bind ?_ (fun _ => ?_)
  ·
   intro y0 y1 y2 y3
   unfold spec_MeetOnce.l3
   repeat' first
   | (with_reducible exact ih0 _ _ _ _)
   | (with_reducible exact ih1 _ _ _ _ _ _)
   | (with_reducible exact ih2 _ _ _ _ _ _ _ _)
   | (with_reducible exact ih3 _ _ _)
   | (with_reducible exact ih4 _ _ _ _)
   | (with_reducible exact spec_l4Has.mono _ _ _)
   | (with_reducible exact LeO.refl _)
   | (with_reducible exact LeO.none _)
   | (with_reducible refine LeO.ite ?_ ?_)
   | (with_reducible refine LeO.bind ?_ (fun _ => ?_))
   | exact ih0 _ _ _ _
   | exact ih1 _ _ _ _ _ _
   | exact ih2 _ _ _ _ _ _ _ _
   | exact ih3 _ _ _
   | exact ih4 _ _ _ _
   | exact spec_l4Has.mono _ _ _
   | exact LeO.none _
   | refine LeO.ite ?_ ?_
   | refine LeO.bind ?_ (fun _ => ?_)
theorem spec_MeetOnce.mono : ∀ a0 a1 k, LeO (spec_MeetOnce.f k a0 a1) (spec_MeetOnce.f (k + 1) a0 a1) := by
 intro a0 a1 k
 obtain ⟨ih0, ih1, ih2, ih3, ih4⟩ := spec_MeetOnce.mono_l k
 unfold spec_MeetOnce.f
 repeat' first
   | (with_reducible exact ih0 _ _ _ _)
   | (with_reducible exact ih1 _ _ _ _ _ _)
   | (with_reducible exact ih2 _ _ _ _ _ _ _ _)
   | (with_reducible exact ih3 _ _ _)
   | (with_reducible exact ih4 _ _ _ _)
   | (with_reducible exact spec_l4Has.mono _ _ _)
   | (with_reducible exact LeO.refl _)
   | (with_reducible exact LeO.none _)
   | (with_reducible refine LeO.ite ?_ ?_)
   | (with_reducible refine LeO.bind ?_ (fun _ => ?_))
   | exact ih0 _ _ _ _
   | exact ih1 _ _ _ _ _ _
   | exact ih2 _ _ _ _ _ _ _ _
   | exact ih3 _ _ _
   | exact ih4 _ _ _ _
   | exact spec_l4Has.mono _ _ _
   | exact LeO.none _
   | refine LeO.ite ?_ ?_
   | refine LeO.bind ?_ (fun _ => ?_)
def spec_MeetOnce.T12 : Bool × List (List Nat × List Nat) := (true, [([], []), ([0], [0]), ([1], [1]), ([2], [2]), ([3], [3]), ([4, 3], [3, 4]), ([5, 3], [3, 5]), ([3], [3]), ([7, 3], [3, 7]), ([6, 8, 3, 3], [3, 6, 8]), ([9, 3], [3, 9]), ([3, 10], [3, 10]), ([11, 9], [11]), ([12], [12]), ([13, 12], [12, 13]), ([14, 12], [12, 14]), ([12], [12]), ([16, 12], [12, 16]), ([15, 17, 12, 12], [12, 15, 17]), ([18, 12], [12, 18]), ([12, 19], [12, 19]), ([20, 18], [20]), ([21], [21]), ([22, 21], [21, 22]), ([23, 21], [21, 23]), ([21], [21]), ([25, 21], [21, 25]), ([26, 21], [21, 26]), ([24, 27, 21], [21, 24, 27]), ([21, 28], [21, 28]), ([29, 21], [29]), ([30], [30]), ([30], [30]), ([32, 30], [30, 32]), ([33, 30], [30, 33]), ([31, 34, 30, 30], [30, 31, 34]), ([30, 35], [30, 35]), ([36, 35], [36]), ([37], [37]), ([37], [37]), ([39, 37], [37, 39]), ([40, 37], [37, 40]), ([38, 41, 37, 37], [37, 38, 41]), ([37, 42], [37, 42])])
def spec_MeetOnce.B12 : List Nat := [0, 1, 3, 7, 15, 31, 63, 15, 143, 511, 1023, 2047, 4095, 8191, 16383, 32767, 8191, 73727, 262143, 524287, 1048575, 2097151, 4194303, 8388607, 16777215, 4194303, 37748735, 104857599, 268435455, 536870911, 1073741823, 2147483647, 2147483647, 6442450943, 15032385535, 34359738367, 68719476735, 137438953471, 274877906943, 274877906943, 824633720831, 1924145348607, 4398046511103, 8796093022207]
theorem spec_MeetOnce.tab12 : rtab .any (opsOf Try.f56 12) = spec_MeetOnce.T12 := by kernel_rfl
theorem spec_MeetOnce.bits12 : waitsOk spec_MeetOnce.T12.2 spec_MeetOnce.B12 = true := by kernel_rfl
def spec_MeetOnce.T14 : Bool × List (List Nat × List Nat) := (true, [([], []), ([], []), ([1], [1]), ([2], [2]), ([], []), ([4], [4]), ([5], [5]), ([3, 6], [3, 6]), ([0, 7], [0, 7]), ([8, 8, 0, 1, 2, 3, 4, 5, 6, 7, 8], [0, 8])])
def spec_MeetOnce.B14 : List Nat := [0, 0, 2, 6, 0, 16, 48, 126, 255, 511]
theorem spec_MeetOnce.tab14 : rtab .any (opsOf Try.f56 14) = spec_MeetOnce.T14 := by kernel_rfl
theorem spec_MeetOnce.bits14 : waitsOk spec_MeetOnce.T14.2 spec_MeetOnce.B14 = true := by kernel_rfl
def spec_MeetOnce.T15 : Bool × List (List Nat × List Nat) := (true, [([], []), ([0], [0]), ([1], [1]), ([], []), ([3], [3]), ([4], [4]), ([2, 5], [2, 5]), ([], []), ([6, 7], [6, 7]), ([], []), ([9], [9]), ([10], [10]), ([], []), ([12], [12]), ([13], [13]), ([11, 14, 6], [11, 14]), ([8, 15], [8, 15]), ([16, 15, 0, 1, 2, 3, 4, 5, 6, 7, 8, 9, 10, 11, 12, 13, 14, 15, 16], [16])])
def spec_MeetOnce.B15 : List Nat := [0, 1, 3, 0, 8, 24, 63, 0, 255, 0, 512, 1536, 0, 4096, 12288, 32383, 65535, 131071]
theorem spec_MeetOnce.tab15 : rtab .any (opsOf Try.f56 15) = spec_MeetOnce.T15 := by kernel_rfl
theorem spec_MeetOnce.bits15 : waitsOk spec_MeetOnce.T15.2 spec_MeetOnce.B15 = true := by kernel_rfl
set_option linter.defProp false
def εd := @Kd.R_alloc
def εe := @Kd.R_drewN
def εf := @Kd.R_drew
def εh := @pw_below_drewN
def εi := @below_drew1
def εj := @below_alloc
def εm := @List.setIfInBounds_toArray
def εn := @List.set_cons_zero
def εo := @List.set_cons_succ
def εp := @Aside0.mk
abbrev ε0 : Array Bool := #[false, false, false, false, false, false, false, false, false, false, false, false, false, false, false, false, false, false, false, false, false, false, false, false, false, false, false, false, false, false, false, false, false, false, false, false, false, false, false, false, false, false, false, false]
abbrev ε1 : Array Bool := #[true, false, false, false, false, false, false, false, false, false, false, false, false, false, false, false, false, false, false, false, false, false, false, false, false, false, false, false, false, false, false, false, false, false, false, false, false, false, false, false, false, false, false, false]
abbrev ε2 : Array Bool := #[true, true, false, false, false, false, false, false, false, false, false, false, false, false, false, false, false, false, false, false, false, false, false, false, false, false, false, false, false, false, false, false, false, false, false, false, false, false, false, false, false, false, false, false]
abbrev ε3 : Array Bool := #[true, true, true, false, false, false, false, false, false, false, false, false, false, false, false, false, false, false, false, false, false, false, false, false, false, false, false, false, false, false, false, false, false, false, false, false, false, false, false, false, false, false, false, false]
abbrev ε4 : Array Bool := #[true, true, true, true, false, false, false, false, false, false, false, false, false, false, false, false, false, false, false, false, false, false, false, false, false, false, false, false, false, false, false, false, false, false, false, false, false, false, false, false, false, false, false, false]
abbrev ε5 : Array Bool := #[true, true, true, true, true, false, false, false, false, false, false, false, false, false, false, false, false, false, false, false, false, false, false, false, false, false, false, false, false, false, false, false, false, false, false, false, false, false, false, false, false, false, false, false]
abbrev ε6 : Array Bool := #[true, true, true, true, true, true, false, false, false, false, false, false, false, false, false, false, false, false, false, false, false, false, false, false, false, false, false, false, false, false, false, false, false, false, false, false, false, false, false, false, false, false, false, false]
abbrev ε7 : Array Bool := #[true, true, true, true, true, true, false, true, false, false, false, false, false, false, false, false, false, false, false, false, false, false, false, false, false, false, false, false, false, false, false, false, false, false, false, false, false, false, false, false, false, false, false, false]
abbrev ε8 : Array Bool := #[true, true, true, true, true, true, false, true, true, false, false, false, false, false, false, false, false, false, false, false, false, false, false, false, false, false, false, false, false, false, false, false, false, false, false, false, false, false, false, false, false, false, false, false]
abbrev ε9 : Array Bool := #[true, true, true, true, true, true, true, true, true, false, false, false, false, false, false, false, false, false, false, false, false, false, false, false, false, false, false, false, false, false, false, false, false, false, false, false, false, false, false, false, false, false, false, false]
abbrev ε10 : Array Bool := #[true, true, true, true, true, true, true, true, true, true, false, false, false, false, false, false, false, false, false, false, false, false, false, false, false, false, false, false, false, false, false, false, false, false, false, false, false, false, false, false, false, false, false, false]
abbrev ε11 : Array Bool := #[true, true, true, true, true, true, true, true, true, true, true, false, false, false, false, false, false, false, false, false, false, false, false, false, false, false, false, false, false, false, false, false, false, false, false, false, false, false, false, false, false, false, false, false]
abbrev ε12 : Array Bool := #[true, true, true, true, true, true, true, true, true, true, true, true, false, false, false, false, false, false, false, false, false, false, false, false, false, false, false, false, false, false, false, false, false, false, false, false, false, false, false, false, false, false, false, false]
abbrev ε13 : Array Bool := #[true, true, true, true, true, true, true, true, true, true, true, true, true, false, false, false, false, false, false, false, false, false, false, false, false, false, false, false, false, false, false, false, false, false, false, false, false, false, false, false, false, false, false, false]
abbrev ε14 : Array Bool := #[true, true, true, true, true, true, true, true, true, true, true, true, true, true, false, false, false, false, false, false, false, false, false, false, false, false, false, false, false, false, false, false, false, false, false, false, false, false, false, false, false, false, false, false]
abbrev ε15 : Array Bool := #[true, true, true, true, true, true, true, true, true, true, true, true, true, true, true, false, false, false, false, false, false, false, false, false, false, false, false, false, false, false, false, false, false, false, false, false, false, false, false, false, false, false, false, false]
abbrev ε16 : Array Bool := #[true, true, true, true, true, true, true, true, true, true, true, true, true, true, true, false, true, false, false, false, false, false, false, false, false, false, false, false, false, false, false, false, false, false, false, false, false, false, false, false, false, false, false, false]
abbrev ε17 : Array Bool := #[true, true, true, true, true, true, true, true, true, true, true, true, true, true, true, false, true, true, false, false, false, false, false, false, false, false, false, false, false, false, false, false, false, false, false, false, false, false, false, false, false, false, false, false]
abbrev ε18 : Array Bool := #[true, true, true, true, true, true, true, true, true, true, true, true, true, true, true, true, true, true, false, false, false, false, false, false, false, false, false, false, false, false, false, false, false, false, false, false, false, false, false, false, false, false, false, false]
abbrev ε19 : Array Bool := #[true, true, true, true, true, true, true, true, true, true, true, true, true, true, true, true, true, true, true, false, false, false, false, false, false, false, false, false, false, false, false, false, false, false, false, false, false, false, false, false, false, false, false, false]
abbrev ε20 : Array Bool := #[true, true, true, true, true, true, true, true, true, true, true, true, true, true, true, true, true, true, true, true, false, false, false, false, false, false, false, false, false, false, false, false, false, false, false, false, false, false, false, false, false, false, false, false]
abbrev ε21 : Array Bool := #[true, true, true, true, true, true, true, true, true, true, true, true, true, true, true, true, true, true, true, true, true, false, false, false, false, false, false, false, false, false, false, false, false, false, false, false, false, false, false, false, false, false, false, false]
abbrev ε22 : Array Bool := #[true, true, true, true, true, true, true, true, true, true, true, true, true, true, true, true, true, true, true, true, true, true, false, false, false, false, false, false, false, false, false, false, false, false, false, false, false, false, false, false, false, false, false, false]
abbrev ε23 : Array Bool := #[true, true, true, true, true, true, true, true, true, true, true, true, true, true, true, true, true, true, true, true, true, true, true, false, false, false, false, false, false, false, false, false, false, false, false, false, false, false, false, false, false, false, false, false]
abbrev ε24 : Array Bool := #[true, true, true, true, true, true, true, true, true, true, true, true, true, true, true, true, true, true, true, true, true, true, true, true, false, false, false, false, false, false, false, false, false, false, false, false, false, false, false, false, false, false, false, false]
abbrev ε25 : Array Bool := #[true, true, true, true, true, true, true, true, true, true, true, true, true, true, true, true, true, true, true, true, true, true, true, true, false, true, false, false, false, false, false, false, false, false, false, false, false, false, false, false, false, false, false, false]
abbrev ε26 : Array Bool := #[true, true, true, true, true, true, true, true, true, true, true, true, true, true, true, true, true, true, true, true, true, true, true, true, false, true, true, false, false, false, false, false, false, false, false, false, false, false, false, false, false, false, false, false]
abbrev ε27 : Array Bool := #[true, true, true, true, true, true, true, true, true, true, true, true, true, true, true, true, true, true, true, true, true, true, true, true, true, true, true, false, false, false, false, false, false, false, false, false, false, false, false, false, false, false, false, false]
abbrev ε28 : Array Bool := #[true, true, true, true, true, true, true, true, true, true, true, true, true, true, true, true, true, true, true, true, true, true, true, true, true, true, true, true, false, false, false, false, false, false, false, false, false, false, false, false, false, false, false, false]
abbrev ε29 : Array Bool := #[true, true, true, true, true, true, true, true, true, true, true, true, true, true, true, true, true, true, true, true, true, true, true, true, true, true, true, true, true, false, false, false, false, false, false, false, false, false, false, false, false, false, false, false]
abbrev ε30 : Array Bool := #[true, true, true, true, true, true, true, true, true, true, true, true, true, true, true, true, true, true, true, true, true, true, true, true, true, true, true, true, true, true, false, false, false, false, false, false, false, false, false, false, false, false, false, false]
abbrev ε31 : Array Bool := #[true, true, true, true, true, true, true, true, true, true, true, true, true, true, true, true, true, true, true, true, true, true, true, true, true, true, true, true, true, true, true, false, false, false, false, false, false, false, false, false, false, false, false, false]
abbrev ε32 : Array Bool := #[true, true, true, true, true, true, true, true, true, true, true, true, true, true, true, true, true, true, true, true, true, true, true, true, true, true, true, true, true, true, true, true, false, false, false, false, false, false, false, false, false, false, false, false]
abbrev ε33 : Array Bool := #[true, true, true, true, true, true, true, true, true, true, true, true, true, true, true, true, true, true, true, true, true, true, true, true, true, true, true, true, true, true, true, true, true, false, false, false, false, false, false, false, false, false, false, false]
abbrev ε34 : Array Bool := #[true, true, true, true, true, true, true, true, true, true, true, true, true, true, true, true, true, true, true, true, true, true, true, true, true, true, true, true, true, true, true, true, true, true, false, false, false, false, false, false, false, false, false, false]
abbrev ε35 : Array Bool := #[true, true, true, true, true, true, true, true, true, true, true, true, true, true, true, true, true, true, true, true, true, true, true, true, true, true, true, true, true, true, true, true, true, true, true, false, false, false, false, false, false, false, false, false]
abbrev ε36 : Array Bool := #[true, true, true, true, true, true, true, true, true, true, true, true, true, true, true, true, true, true, true, true, true, true, true, true, true, true, true, true, true, true, true, true, true, true, true, true, false, false, false, false, false, false, false, false]
abbrev ε37 : Array Bool := #[true, true, true, true, true, true, true, true, true, true, true, true, true, true, true, true, true, true, true, true, true, true, true, true, true, true, true, true, true, true, true, true, true, true, true, true, true, false, false, false, false, false, false, false]
abbrev ε38 : Array Bool := #[true, true, true, true, true, true, true, true, true, true, true, true, true, true, true, true, true, true, true, true, true, true, true, true, true, true, true, true, true, true, true, true, true, true, true, true, true, true, false, false, false, false, false, false]
abbrev ε39 : Array Bool := #[true, true, true, true, true, true, true, true, true, true, true, true, true, true, true, true, true, true, true, true, true, true, true, true, true, true, true, true, true, true, true, true, true, true, true, true, true, true, true, false, false, false, false, false]
abbrev ε40 : Array Bool := #[true, true, true, true, true, true, true, true, true, true, true, true, true, true, true, true, true, true, true, true, true, true, true, true, true, true, true, true, true, true, true, true, true, true, true, true, true, true, true, true, false, false, false, false]
abbrev ε41 : Array Bool := #[true, true, true, true, true, true, true, true, true, true, true, true, true, true, true, true, true, true, true, true, true, true, true, true, true, true, true, true, true, true, true, true, true, true, true, true, true, true, true, true, true, false, false, false]
abbrev ε42 : Array Bool := #[true, true, true, true, true, true, true, true, true, true, true, true, true, true, true, true, true, true, true, true, true, true, true, true, true, true, true, true, true, true, true, true, true, true, true, true, true, true, true, true, true, true, false, false]
abbrev ε43 : Array Bool := #[true, true, true, true, true, true, true, true, true, true, true, true, true, true, true, true, true, true, true, true, true, true, true, true, true, true, true, true, true, true, true, true, true, true, true, true, true, true, true, true, true, true, true, false]
abbrev ε44 : Array Bool := #[true, true, true, true, true, true, true, true, true, true, true, true, true, true, true, true, true, true, true, true, true, true, true, true, true, true, true, true, true, true, true, true, true, true, true, true, true, true, true, true, true, true, true, true]
abbrev ε45 : Array Bool := #[true, true, true, true, true, true, true, true, true, true, true, true, true, true, true, true, true, true, true, true, true, true, true, true, true, false, false, false, false, false, false, false, false, false, false, false, false, false, false, false, false, false, false, false]
abbrev ε46 : Array Bool := #[true, true, true, true, true, true, true, true, true, true, true, true, true, true, true, true, true, true, true, true, true, true, true, true, true, true, false, false, false, false, false, false, false, false, false, false, false, false, false, false, false, false, false, false]
abbrev ε47 : Array Bool := #[true, true, true, true, true, true, true, true, true, true, true, true, true, true, true, true, false, false, false, false, false, false, false, false, false, false, false, false, false, false, false, false, false, false, false, false, false, false, false, false, false, false, false, false]
abbrev ε48 : Array Bool := #[true, true, true, true, true, true, true, true, true, true, true, true, true, true, true, true, true, false, false, false, false, false, false, false, false, false, false, false, false, false, false, false, false, false, false, false, false, false, false, false, false, false, false, false]
abbrev ε49 : Array Bool := #[true, true, true, true, true, true, true, false, false, false, false, false, false, false, false, false, false, false, false, false, false, false, false, false, false, false, false, false, false, false, false, false, false, false, false, false, false, false, false, false, false, false, false, false]
abbrev ε50 : Array Bool := #[true, true, true, true, true, true, true, true, false, false, false, false, false, false, false, false, false, false, false, false, false, false, false, false, false, false, false, false, false, false, false, false, false, false, false, false, false, false, false, false, false, false, false, false]
abbrev ε51 : Array Bool := #[false, false, false, false, false, false, false, false, false, false]
abbrev ε52 : Array Bool := #[true, false, false, false, false, false, false, false, false, false]
abbrev ε53 : Array Bool := #[true, true, false, false, false, false, false, false, false, false]
abbrev ε54 : Array Bool := #[true, true, true, false, false, false, false, false, false, false]
abbrev ε55 : Array Bool := #[true, true, true, false, true, false, false, false, false, false]
abbrev ε56 : Array Bool := #[true, true, true, false, true, true, false, false, false, false]
abbrev ε57 : Array Bool := #[true, true, true, true, true, true, false, false, false, false]
abbrev ε58 : Array Bool := #[true, true, true, true, true, true, true, false, false, false]
abbrev ε59 : Array Bool := #[true, true, true, true, true, true, true, true, false, false]
abbrev ε60 : Array Bool := #[true, true, true, true, true, true, true, true, true, false]
abbrev ε61 : Array Bool := #[true, true, true, true, true, true, true, true, true, true]
abbrev ε62 : Array Bool := #[false, false, false, false, false, false, false, false, false, false, false, false, false, false, false, false, false, false]
abbrev ε63 : Array Bool := #[true, false, false, false, false, false, false, false, false, false, false, false, false, false, false, false, false, false]
abbrev ε64 : Array Bool := #[true, true, false, false, false, false, false, false, false, false, false, false, false, false, false, false, false, false]
abbrev ε65 : Array Bool := #[true, true, false, true, false, false, false, false, false, false, false, false, false, false, false, false, false, false]
abbrev ε66 : Array Bool := #[true, true, false, true, true, false, false, false, false, false, false, false, false, false, false, false, false, false]
abbrev ε67 : Array Bool := #[true, true, false, true, true, false, false, true, false, false, false, false, false, false, false, false, false, false]
abbrev ε68 : Array Bool := #[true, true, false, true, true, false, false, true, false, true, false, false, false, false, false, false, false, false]
abbrev ε69 : Array Bool := #[true, true, false, true, true, false, false, true, false, true, true, false, false, false, false, false, false, false]
abbrev ε70 : Array Bool := #[true, true, false, true, true, false, false, true, false, true, true, false, true, false, false, false, false, false]
abbrev ε71 : Array Bool := #[true, true, false, true, true, false, false, true, false, true, true, false, true, true, false, false, false, false]
abbrev ε72 : Array Bool := #[true, true, true, true, true, false, false, true, false, true, true, false, true, true, false, false, false, false]
abbrev ε73 : Array Bool := #[true, true, true, true, true, true, false, true, false, true, true, false, true, true, false, false, false, false]
abbrev ε74 : Array Bool := #[true, true, true, true, true, true, false, true, false, true, true, true, true, true, false, false, false, false]
abbrev ε75 : Array Bool := #[true, true, true, true, true, true, false, true, false, true, true, true, true, true, true, false, false, false]
abbrev ε76 : Array Bool := #[true, true, true, true, true, true, true, true, false, true, true, true, true, true, true, false, false, false]
abbrev ε77 : Array Bool := #[true, true, true, true, true, true, true, true, true, true, true, true, true, true, true, false, false, false]
abbrev ε78 : Array Bool := #[true, true, true, true, true, true, true, true, true, true, true, true, true, true, true, true, false, false]
abbrev ε79 : Array Bool := #[true, true, true, true, true, true, true, true, true, true, true, true, true, true, true, true, true, false]
abbrev ε80 : Array Bool := #[true, true, true, true, true, true, true, true, true, true, true, true, true, true, true, true, true, true]
set_option maxHeartbeats 8000000 in
set_option maxRecDepth 100000 in
theorem spec_MeetOnce.calls (k : Nat) (A0 : Option Addr) (c0 : Nat) (l0 : List (List (List Int))) (a1 : Int) (r : Bool) (w : World) (hr0 : Kd.C (Kd.slice 45 (Kd.slice 3 (Kd.int .i64))) w A0 l0.length l0) (hc0 : l0.length ≤ c0) (h : spec_MeetOnce.f k l0 a1 = some r) :
  Calls Try.prog 56 #[.slice A0 l0.length c0, .int .i64 a1] w fun e w' => e = .returned (.bool r) ∧ Below w.heap.size w w' := by
 have HR0 := εp hr0
 have HC0 := εp hc0
 clear hr0 hc0
 have HB := εp (Below.refl w.heap.size w)
 have H : ((spec_l1In.f a1 2 20).bind fun t114 => (if t114 = true then (if 0 ≤ (wrap64 (a1 * a1)) then (if (wrap64 (a1 * a1) : Int).toNat ≤ 35184372088832 then (spec_MeetOnce.l0 k l0 a1 (List.replicate (wrap64 (a1 * a1) : Int).toNat 0) 0) else (none)) else (none)) else (some false))) = some r := h
 clear h
 replace H := Option.bind_eq_some_iff.mp H
 obtain ⟨t114, A30, H⟩ := H
 try dsimp only at H
 have A3 := εp A30
 clear A30
 by_cases c4 : t114 = true
 ·
  subst c4
  rw [if_pos rfl] at H
  obtain ⟨ji5, hji5⟩ : ∃ j_ : Int, (wrap64 (a1 * a1)) = j_ := ⟨_, rfl⟩
  replace H : (if 0 ≤ (ji5) then (if (ji5 : Int).toNat ≤ 35184372088832 then (spec_MeetOnce.l0 k l0 a1 (List.replicate (ji5 : Int).toNat 0) 0) else (none)) else (none)) = some r := by first | (rw [hji5] at H; exact H) | (simp only [hji5] at H ⊢; exact H)
  (try rw [hji5] at A3)
  have hji5w : (IntKind.i64.wrap (a1 * a1)) = ji5 := (i64_w _).trans hji5
  by_cases c6 : 0 ≤ (ji5)
  ·
   rw [if_pos c6] at H
   have c6b0 := eq_true c6
   have c6b1 : decide (0 ≤ (ji5)) = true := decide_eq_true c6
   clear c6
   by_cases c7 : (ji5 : Int).toNat ≤ 35184372088832
   ·
    rw [if_pos c7] at H
    have c7b0 := eq_true c7
    have c7b1 : decide ((ji5 : Int).toNat ≤ 35184372088832) = true := decide_eq_true c7
    clear c7
    obtain ⟨y115, hy115⟩ : ∃ y_ : List Int, y_ = (List.replicate (ji5 : Int).toNat 0) := ⟨_, rfl⟩
    replace H : (spec_MeetOnce.l0 k l0 a1 y115 0) = some r := by first | (rw [hy115]; with_reducible exact H) | (have H2_ := (Option.bind_some _ _).symm.trans H; rw [hy115]; with_reducible exact H2_) | (have H2_ := (Option.bind_some _ _).symm.trans H; with_reducible exact H2_) | with_reducible exact H | (rw [hy115]; exact H) | exact H
    have Ny115 := εp hy115
    clear hy115
    have H' := εp H
    clear H
    go_enter Try.func56, Try.ntmps56
    go_wp2_with (first | ((with_reducible refine gate_callee (f := 62) rfl ?_); refine goesL_ (some 14) rfl rfl Try.func62 (by kernel_rfl) rfl #[.int .i64 a1, .int .i64 2, .int .i64 20] rfl (by (try simp only [List.map_toArray, List.map_cons, List.map_nil]); first | done | rfl | (simp only [List.length_drop, List.length_take]; rfl)) ?_; (with_reducible refine (spec_l1In.calls a1 2 20 true _ A3.out).mono ?_); rintro e w' ⟨rfl, ⟨nd, rfl⟩⟩; refine ⟨_, rfl, ?_⟩) | ((with_reducible refine gate_dst (N := 19) rfl ?_); refine Kd.R_make (Kd.int .i64) _ 3 rfl (N := 19) rfl 45 _ _ rfl ji5 rfl rfl Try.underlying45 (.int .i64 0) 8 info3 rfl (by decide) (by omega) 0 (ok := fun _ => True) (okp := fun _ => True) rfl (fun _ hk => hk) trivial (of_decide_eq_true (by first | (with_reducible assumption) | assumption)) (Nat.le_trans (Nat.mul_le_mul_right _ (of_decide_eq_true (by first | (with_reducible assumption) | assumption) : ji5.toNat ≤ 35184372088832)) (by omega)) (Below.refl _ _) (Nat.le_refl _) ?_; intro v116 w8 ho9 hb hg_ hnew_; clear hg_ hnew_; (first | rw [← Ny115.out] at ho9 | (simp only [Int.reduceToNat] at ho9; rw [← Ny115.out] at ho9)); have n0_ := εp (Kd.R_lower ho9 (below_size (by repeat (first | (with_reducible first | exact HB.out | apply εj | apply εh | apply εi) | exact HB.out)))); have n1_ := εp (below_step (by repeat (first | (with_reducible first | exact HB.out | apply εj | apply εh | apply εi) | exact HB.out)) hb); clear HB; have HO117 := n0_; have HB := n1_; clear n0_ n1_; clear hb ho9))
    go_loopg [6] k (fun kq v6 w' => ∃ (x5_1 : List Int) (x6_1 : Int), v6 = .int .i64 x6_1 ∧ Aside0 (spec_MeetOnce.l0 kq l0 a1 x5_1 x6_1 = some r) ∧ Aside0 (kq ≤ k) ∧ Aside0 (Kd.R (Kd.int .i64) 3 w' w.heap.size (fun _ => True) v116 x5_1) ∧ Aside0 (Below w.heap.size w w'))
    case atStart => exact ⟨(y115), (0), (by first | rfl | (simp; done) | (simp [*]; done)), H', ⟨Nat.le_refl _⟩, ⟨by (with_reducible repeat (first | apply εd | apply εe | apply εf)); exact HO117.out⟩, ⟨by repeat (first | (with_reducible first | exact HB.out | apply εj | apply εh | apply εi) | exact HB.out)⟩⟩
    case round =>
     clear H'
     try clear p2
     try clear c4
     try clear c5
     try clear c6
     try clear c6b0
     try clear c6b1
     try clear p6
     try clear c7
     try clear c7b0
     try clear c7b1
     obtain ⟨x5_1, x6_1, rfl, HA, HK1, HO_5, HB⟩ := hrel
     cases gk with
     | zero => exact absurd HA.out (by simp [spec_MeetOnce.l0])
     | succ k1 =>
      have H := HA.out
      clear HA
      simp only [spec_MeetOnce.l0] at H
      by_cases c10 : x6_1 < (l0.length : Int)
      ·
       rw [if_pos c10] at H
       have c10b0 : decide (x6_1 < (l0.length : Int)) = true := decide_eq_true c10
       clear c10
       obtain ⟨y118, hy118⟩ : ∃ y_ : List Int, y_ = (([] : List Int)) := ⟨_, rfl⟩
       replace H : (spec_MeetOnce.l1 k1 l0 a1 x5_1 x6_1 y118 0) = some r := by first | (rw [hy118]; with_reducible exact H) | (have H2_ := (Option.bind_some _ _).symm.trans H; rw [hy118]; with_reducible exact H2_) | (have H2_ := (Option.bind_some _ _).symm.trans H; with_reducible exact H2_) | with_reducible exact H | (rw [hy118]; exact H) | exact H
       have Ny118 := εp hy118
       clear hy118
       have H' := εp H
       clear H
       go_wp2_with (first | ((with_reducible refine gate_dst (N := 26) rfl ?_); refine Kd.R_lit (Kd.int .i64) _ 3 ?hg (N := 26) ?hd (xs := ([] : List Int)) (inner := []) (ok := fun _ => True) (okp := fun _ => True) ?hr ?hp (fun _ hk => hk) trivial (Below.refl _ _) (Nat.le_refl _) (by simp) ?_; (case hd => rfl); (case hg => rfl); (case hr => first | (go_simp; done) | (go_simp; rfl)); (case hp => exact (Reps.none _ _)); intro v119 w11 ho12 hb hg_ hnew_; clear hg_ hnew_; (first | rw [← Ny118.out] at ho12 | (simp only [Int.reduceToNat] at ho12; rw [← Ny118.out] at ho12)); have n0_ := εp (Kd.R_elder' (by (with_reducible repeat (first | apply εd | apply εe | apply εf)); exact HO_5.out) (Kd.R_base ho12) hb); have n1_ := εp (Kd.R_lower (Kd.R_new' ho12 (Kd.R_lt (by (with_reducible repeat (first | apply εd | apply εe | apply εf)); exact HO_5.out))) (below_size (by repeat (first | (with_reducible first | exact HB.out | apply εj | apply εh | apply εi) | exact HB.out)))); have n2_ := εp (below_step (by repeat (first | (with_reducible first | exact HB.out | apply εj | apply εh | apply εi) | exact HB.out)) hb); clear HO_5; clear HB; have HO_5 := n0_; have HO120 := n1_; have HB := n2_; clear n0_ n1_ n2_; clear hb ho12))
       go_loopg [7, 8] k1 (fun kq v7 v8 w' => ∃ (x5_2 : List Int) (x7_2 : List Int) (x8_2 : Int), v8 = .int .i64 x8_2 ∧ Aside0 (spec_MeetOnce.l1 kq l0 a1 x5_2 x6_1 x7_2 x8_2 = some r) ∧ Aside0 (kq ≤ k1) ∧ Aside0 (Kd.R (Kd.int .i64) 3 w' w.heap.size (fun k_ => some k_ ≠ (v7 : Value).ownBlock) v116 x5_2) ∧ Aside0 (Kd.R (Kd.int .i64) 3 w' w.heap.size (fun k_ => some k_ ≠ (v116 : Value).ownBlock) v7 x7_2) ∧ Aside0 (Below w.heap.size w w'))
       case atStart => exact ⟨(x5_1), (y118), (0), (by first | rfl | (simp; done) | (simp [*]; done)), H', ⟨Nat.le_refl _⟩, ⟨by (with_reducible repeat (first | apply εd | apply εe | apply εf)); exact Kd.R_mono HO_5.out (fun _ hk => hk.2)⟩, ⟨by (with_reducible repeat (first | apply εd | apply εe | apply εf)); exact Kd.R_mono HO120.out (fun _ hk => hk.2)⟩, ⟨by repeat (first | (with_reducible first | exact HB.out | apply εj | apply εh | apply εi) | exact HB.out)⟩⟩
       case round =>
        clear H'
        try clear c1
        try clear p2
        try clear c4
        try clear c5
        try clear c6
        try clear c6b0
        try clear c6b1
        try clear p6
        try clear c7
        try clear c7b0
        try clear c7b1
        try clear c10
        try clear c10b0
        try clear p2
        try clear p6
        obtain ⟨x5_2, x7_2, x8_2, rfl, HA, HK2, HO_5, HO_7, HB⟩ := hrel
        cases gk with
        | zero => exact absurd HA.out (by simp [spec_MeetOnce.l1])
        | succ k2 =>
         have H := HA.out
         clear HA
         simp only [spec_MeetOnce.l1] at H
         by_cases c13 : 0 ≤ x6_1
         ·
          rw [if_pos c13] at H
          have c13b0 : decide (0 ≤ x6_1) = true := decide_eq_true c13
          clear c13
          by_cases c14 : x6_1 < (l0.length : Int)
          ·
           rw [if_pos c14] at H
           have c14b0 : decide (x6_1 < (l0.length : Int)) = true := decide_eq_true c14
           clear c14
           by_cases c15 : x8_2 < ((rd_L2 l0 x6_1).length : Int)
           ·
            rw [if_pos c15] at H
            have c15b0 : decide (x8_2 < ((rd_L2 l0 x6_1).length : Int)) = true := decide_eq_true c15
            clear c15
            by_cases c16 : 0 ≤ x8_2
            ·
             rw [if_pos c16] at H
             have c16b0 : decide (0 ≤ x8_2) = true := decide_eq_true c16
             clear c16
             have HC17 := εp H
             clear H
             have p121 : 0 ≤ (x6_1 : Int) := of_decide_eq_true (by first | (with_reducible assumption) | assumption)
             have q121 : x6_1 < (l0.length : Int) := of_decide_eq_true (by first | (with_reducible assumption) | assumption)
             obtain ⟨ad121, A121_0, c121_0, e121, hx121_0, hl121_0, hi121_0⟩ := at_L2 HR0.out x6_1 p121 q121
             cases e121
             replace hx121_0 := (HB.out.cell (World.block_lt_of_cell? w _ hx121_0)).trans hx121_0
             have HR121_0 := εp hi121_0
             have HC121_0 := εp hl121_0
             clear hi121_0 hl121_0
             replace p121 := eq_true p121
             replace q121 := eq_true q121
             have p122 : 0 ≤ (x6_1 : Int) := of_decide_eq_true (by first | (with_reducible assumption) | assumption)
             have q122 : x6_1 < (l0.length : Int) := of_decide_eq_true (by first | (with_reducible assumption) | assumption)
             obtain ⟨ad122, A122_0, c122_0, e122, hx122_0, hl122_0, hi122_0⟩ := at_L2 HR0.out x6_1 p122 q122
             obtain rfl : ad121 = ad122 := (by injection e122)
             replace hx122_0 := (HB.out.cell (World.block_lt_of_cell? w _ hx122_0)).trans hx122_0
             have HR122_0 := εp hi122_0
             have HC122_0 := εp hl122_0
             clear hi122_0 hl122_0
             replace p122 := eq_true p122
             replace q122 := eq_true q122
             have ea_ := Option.some.inj (hx121_0.symm.trans hx122_0)
             injection ea_ with ea_ en_ ec_
             subst ea_
             subst ec_
             clear en_
             have p123 : 0 ≤ (x8_2 : Int) := of_decide_eq_true (by first | (with_reducible assumption) | assumption)
             have q123 : x8_2 < ((rd_L2 l0 x6_1).length : Int) := of_decide_eq_true (by first | (with_reducible assumption) | assumption)
             obtain ⟨ad123, A123_0, c123_0, e123, hx123_0, hl123_0, hi123_0⟩ := at_L1 HR122_0.out x8_2 p123 q123
             cases e123
             replace hx123_0 := (HB.out.cell (World.block_lt_of_cell? w _ hx123_0)).trans hx123_0
             have HR123_0 := εp hi123_0
             have HC123_0 := εp hl123_0
             clear hi123_0 hl123_0
             replace p123 := eq_true p123
             replace q123 := eq_true q123
             go_upto_region 12 with (fail)
             go_cut [86] (fun v86 wc => ∃ (kq : Nat) (x86_16 : Bool), v86 = .bool x86_16 ∧ Aside0 (spec_MeetOnce.j2 kq l0 a1 x5_2 x6_1 x7_2 x8_2 (rd_L1 (rd_L2 l0 x6_1) x8_2) x86_16 = some r) ∧ Aside0 (kq ≤ k2) ∧ Aside0 (Kd.R (Kd.int .i64) 3 wc w.heap.size (fun k_ => some k_ ≠ (u7 : Value).ownBlock) v116 x5_2) ∧ Aside0 (Kd.R (Kd.int .i64) 3 wc w.heap.size (fun k_ => some k_ ≠ (v116 : Value).ownBlock) u7 x7_2) ∧ Aside0 (Below w.heap.size w wc))
             case first =>
              have H := HC17.out
              clear HC17
              by_cases c18 : ((rd_L1 (rd_L2 l0 x6_1) x8_2).length : Int) = 2
              ·
               rw [if_pos c18] at H
               have c18b0 : (((rd_L1 (rd_L2 l0 x6_1) x8_2).length : Int) == 2) = true := beq_iff_eq.mpr c18
               have c18b1 : (((rd_L1 (rd_L2 l0 x6_1) x8_2).length : Int) != 2) = false := bne_eq_false_iff_eq.mpr c18
               clear c18
               (first | rw [c18b0] | (simp only [i64_w, i32_w]; rw [c18b0]) | skip)
               by_cases c19 : 0 < ((rd_L1 (rd_L2 l0 x6_1) x8_2).length : Int)
               ·
                rw [if_pos c19] at H
                have c19b0 : decide (0 < ((rd_L1 (rd_L2 l0 x6_1) x8_2).length : Int)) = true := decide_eq_true c19
                have c19b1 : decide (0 < (rd_L1 (rd_L2 l0 x6_1) x8_2).length) = true := decide_eq_true (by omega)
                clear c19
                replace H := Option.bind_eq_some_iff.mp H
                obtain ⟨t125, A200, H⟩ := H
                try dsimp only at H
                have A20 := εp A200
                clear A200
                by_cases c21 : t125 = true
                ·
                 subst c21
                 rw [if_pos rfl] at H
                 by_cases c22 : 1 < ((rd_L1 (rd_L2 l0 x6_1) x8_2).length : Int)
                 ·
                  rw [if_pos c22] at H
                  have c22b0 : decide (1 < ((rd_L1 (rd_L2 l0 x6_1) x8_2).length : Int)) = true := decide_eq_true c22
                  have c22b1 : decide (1 < (rd_L1 (rd_L2 l0 x6_1) x8_2).length) = true := decide_eq_true (by omega)
                  clear c22
                  replace H := Option.bind_eq_some_iff.mp H
                  obtain ⟨t127, A230, H⟩ := H
                  try dsimp only at H
                  have A23 := εp A230
                  clear A230
                  by_cases c24 : t127 = true
                  ·
                   subst c24
                   rw [if_pos rfl] at H
                   by_cases c25 : (rd (rd_L1 (rd_L2 l0 x6_1) x8_2) 0) = (rd (rd_L1 (rd_L2 l0 x6_1) x8_2) 1)
                   ·
                    rw [if_pos c25] at H
                    have c25b0 : ((rd (rd_L1 (rd_L2 l0 x6_1) x8_2) 0) == (rd (rd_L1 (rd_L2 l0 x6_1) x8_2) 1)) = true := beq_iff_eq.mpr c25
                    have c25b1 : ((rd (rd_L1 (rd_L2 l0 x6_1) x8_2) 0) != (rd (rd_L1 (rd_L2 l0 x6_1) x8_2) 1)) = false := bne_eq_false_iff_eq.mpr c25
                    clear c25
                    have H' := εp H
                    clear H
                    try go_wp2
                    have n0_ := εp (εf HO_5.out)
                    have n1_ := εp (εf HO_7.out)
                    have n2_ := εp (εi HB.out)
                    clear HO_5
                    clear HO_7
                    clear HB
                    have HO_5 := n0_
                    have HO_7 := n1_
                    have HB := n2_
                    clear n0_ n1_ n2_
                    have p124 : 0 ≤ (0 : Int) := (by omega)
                    have q124 : 0 < ((rd_L1 (rd_L2 l0 x6_1) x8_2).length : Int) := of_decide_eq_true (by first | (with_reducible assumption) | assumption)
                    obtain ⟨ad124, e124, hx124_0⟩ := Kd.at_int HR123_0.out 0 p124 q124
                    have hw124_0 := hx124_0
                    (try rw [show ((0 : Int)).toNat = 0 from rfl] at hw124_0)
                    (try rw [show 0 * 1 = 0 from rfl] at hw124_0)
                    (try rw [Addr.add_zero'] at hw124_0)
                    cases e124
                    have qi124 : (0 < (rd_L1 (rd_L2 l0 x6_1) x8_2).length) = True := eq_true (by omega)
                    (try rw [show ((0 : Int)).toNat = 0 from rfl] at hx124_0)
                    (try rw [Addr.add_zero'] at hx124_0)
                    replace hx124_0 := (HB.out.cell (World.block_lt_of_cell? w _ hx124_0)).trans hx124_0
                    replace p124 := eq_true p124
                    replace q124 := eq_true q124
                    have p126 : 0 ≤ (1 : Int) := (by omega)
                    have q126 : 1 < ((rd_L1 (rd_L2 l0 x6_1) x8_2).length : Int) := of_decide_eq_true (by first | (with_reducible assumption) | assumption)
                    obtain ⟨ad126, e126, hx126_0⟩ := Kd.at_int HR123_0.out 1 p126 q126
                    have hw126_0 := hx126_0
                    (try rw [show ((1 : Int)).toNat = 1 from rfl] at hw126_0)
                    (try rw [show 1 * 1 = 1 from rfl] at hw126_0)
                    (try simp only [Nat.reduceMul, Nat.reduceEqDiff, Go.Addr.add, ↓reduceIte] at hw126_0)
                    obtain rfl : ad124 = ad126 := (by injection e126)
                    (try simp only [show (1 : Int).toNat = 1 from rfl, Nat.reduceMul, Nat.reduceEqDiff, Go.Addr.add, ↓reduceIte] at hx126_0)
                    have qi126 : (1 < (rd_L1 (rd_L2 l0 x6_1) x8_2).length) = True := eq_true (by omega)
                    (try rw [show ((1 : Int)).toNat = 1 from rfl] at hx126_0)
                    replace hx126_0 := (HB.out.cell (World.block_lt_of_cell? w _ hx126_0)).trans hx126_0
                    replace p126 := eq_true p126
                    replace q126 := eq_true q126
                    have p128 : 0 ≤ (0 : Int) := (by omega)
                    have q128 : 0 < ((rd_L1 (rd_L2 l0 x6_1) x8_2).length : Int) := of_decide_eq_true (by first | (with_reducible assumption) | assumption)
                    obtain ⟨ad128, e128, hx128_0⟩ := Kd.at_int HR123_0.out 0 p128 q128
                    have hw128_0 := hx128_0
                    (try rw [show ((0 : Int)).toNat = 0 from rfl] at hw128_0)
                    (try rw [show 0 * 1 = 0 from rfl] at hw128_0)
                    (try rw [Addr.add_zero'] at hw128_0)
                    obtain rfl : ad124 = ad128 := (by injection e128)
                    have qi128 : (0 < (rd_L1 (rd_L2 l0 x6_1) x8_2).length) = True := eq_true (by omega)
                    (try rw [show ((0 : Int)).toNat = 0 from rfl] at hx128_0)
                    (try rw [Addr.add_zero'] at hx128_0)
                    replace hx128_0 := (HB.out.cell (World.block_lt_of_cell? w _ hx128_0)).trans hx128_0
                    replace p128 := eq_true p128
                    replace q128 := eq_true q128
                    have p129 : 0 ≤ (1 : Int) := (by omega)
                    have q129 : 1 < ((rd_L1 (rd_L2 l0 x6_1) x8_2).length : Int) := of_decide_eq_true (by first | (with_reducible assumption) | assumption)
                    obtain ⟨ad129, e129, hx129_0⟩ := Kd.at_int HR123_0.out 1 p129 q129
                    have hw129_0 := hx129_0
                    (try rw [show ((1 : Int)).toNat = 1 from rfl] at hw129_0)
                    (try rw [show 1 * 1 = 1 from rfl] at hw129_0)
                    (try simp only [Nat.reduceMul, Nat.reduceEqDiff, Go.Addr.add, ↓reduceIte] at hw129_0)
                    obtain rfl : ad124 = ad129 := (by injection e129)
                    (try simp only [show (1 : Int).toNat = 1 from rfl, Nat.reduceMul, Nat.reduceEqDiff, Go.Addr.add, ↓reduceIte] at hx129_0)
                    have qi129 : (1 < (rd_L1 (rd_L2 l0 x6_1) x8_2).length) = True := eq_true (by omega)
                    (try rw [show ((1 : Int)).toNat = 1 from rfl] at hx129_0)
                    replace hx129_0 := (HB.out.cell (World.block_lt_of_cell? w _ hx129_0)).trans hx129_0
                    replace p129 := eq_true p129
                    replace q129 := eq_true q129
                    refine start_ (n := 44) (S := fun w' => w'.cell? ad124 = some (.int .i64 (rd (rd_L1 (rd_L2 l0 x6_1) x8_2) 0)) ∧ w'.cell? ⟨ad124.block, ad124.off + 1, none⟩ = some (.int .i64 (rd (rd_L1 (rd_L2 l0 x6_1) x8_2) 1)) ∧ w'.cell? ad124 = some (.int .i64 (rd (rd_L1 (rd_L2 l0 x6_1) x8_2) 0)) ∧ w'.cell? ⟨ad124.block, ad124.off + 1, none⟩ = some (.int .i64 (rd (rd_L1 (rd_L2 l0 x6_1) x8_2) 1))) (ds := []) ε0 (by kernel_rfl) rfl rfl ⟨((HB.out.cell (World.block_lt_of_cell? w _ hw124_0)).trans hw124_0), ((HB.out.cell (World.block_lt_of_cell? w _ hw126_0)).trans hw126_0), ((HB.out.cell (World.block_lt_of_cell? w _ hw128_0)).trans hw128_0), ((HB.out.cell (World.block_lt_of_cell? w _ hw129_0)).trans hw129_0)⟩ (fun hHeld => ?_); refine with_tabW spec_MeetOnce.tab12 spec_MeetOnce.bits12 (fun HT_ HW_ => ?_)
                    generalize wr.drew = w26 at HO_5 HO_7 HB hx124_0 hx126_0 hx128_0 hx129_0 hHeld ⊢
                    refine pure_ (i := 0) (N := some 43) (v := ?_) (a' := ?_) ε1 rfl rfl (any_of HT_.out (by kernel_rfl)) (fun _ _ _ h => h) (Or.inl ⟨by rfl, ?_⟩) ?_ ?_
                    rotate_left; · (intro w'; go_simp; with_reducible rfl)
                    rotate_left; · (simp only [Act.put, εm, εn, εo, i64_w, i32_w]; rfl)
                    refine pure_ (i := 1) (N := some 44) (v := ?_) (a' := ?_) ε2 rfl rfl (any_of HT_.out (by kernel_rfl)) (fun _ _ _ h => h) (Or.inl ⟨by rfl, ?_⟩) ?_ ?_
                    rotate_left; · (intro w'; go_simp; with_reducible rfl)
                    rotate_left; · (simp only [Act.put, εm, εn, εo, i64_w, i32_w]; rfl)
                    refine pure_ (i := 2) (N := some 45) (v := ?_) (a' := ?_) ε3 rfl rfl (any_of HT_.out (by kernel_rfl)) (fun _ _ _ h => h) (Or.inl ⟨by rfl, ?_⟩) ?_ ?_
                    rotate_left; · (intro w'; go_simp; with_reducible rfl)
                    rotate_left; · (simp only [Act.put, εm, εn, εo, i64_w, i32_w]; rfl)
                    refine pure_ (i := 3) (N := some 46) (v := ?_) (a' := ?_) ε4 rfl rfl (any_of HT_.out (by kernel_rfl)) (fun _ _ _ h => h) (Or.inl ⟨by rfl, ?_⟩) ?_ ?_
                    rotate_left; · (intro w'; go_simp; with_reducible rfl)
                    rotate_left; · (simp only [Act.put, εm, εn, εo, i64_w, i32_w]; rfl)
                    refine pure_ (i := 4) (N := some 47) (v := ?_) (a' := ?_) ε5 rfl rfl (any_of HT_.out (by kernel_rfl)) (fun _ _ _ h => h) (Or.inl ⟨by rfl, ?_⟩) ?_ ?_
                    rotate_left; · (intro w'; go_simp; with_reducible rfl)
                    rotate_left; · (simp only [Act.put, εm, εn, εo, i64_w, i32_w]; rfl)
                    refine pure_ (i := 5) (N := some 48) (v := ?_) (a' := ?_) ε6 rfl rfl (any_of HT_.out (by kernel_rfl)) (fun _ _ _ h => h) (Or.inl ⟨by rfl, ?_⟩) ?_ ?_
                    rotate_left; · (intro w'; go_simp; with_reducible rfl)
                    rotate_left; · (simp only [Act.put, εm, εn, εo, i64_w, i32_w]; rfl)
                    refine pure_ (i := 7) (N := some 50) (v := ?_) (a' := ?_) ε7 rfl rfl (any_of HT_.out (by kernel_rfl)) (fun _ _ _ h => h) (Or.inl ⟨by rfl, ?_⟩) ?_ ?_
                    rotate_left; · (intro w'; go_simp; with_reducible rfl)
                    rotate_left; · (simp only [Act.put, εm, εn, εo, i64_w, i32_w]; rfl)
                    refine pure_ (i := 8) (N := some 51) (v := ?_) (a' := ?_) ε8 rfl rfl (any_of HT_.out (by kernel_rfl)) (fun _ _ _ h => h) (Or.inl ⟨by rfl, ?_⟩) ?_ ?_
                    rotate_left; · (intro w'; go_simp; with_reducible rfl)
                    rotate_left; · (simp only [Act.put, εm, εn, εo, i64_w, i32_w]; rfl)
                    refine take_ (i := 6) (N := some 49) (v := ?_) (a' := ?_) ε9 rfl rfl (take_ofW HT_.out HW_.out (by kernel_rfl)) (fun _ _ _ h => h) (Or.inl ⟨by rfl, ?_⟩) hHeld ?_ ?_
                    rotate_left
                    ·
                     rintro w' ⟨s0, s1, s2, s3⟩
                     go_simp
                     with_reducible rfl
                    rotate_left
                    ·
                     simp only [Act.put, εm, εn, εo, i64_w, i32_w]
                     rfl
                    refine one_ (i := 9) (N := some 52) ε10 rfl rfl (one_of HT_.out (by kernel_rfl)) (by decide) (fun K hK => ?_)
                    refine goes_ Try.func62 (by kernel_rfl) rfl #[.int .i64 (rd (rd_L1 (rd_L2 l0 x6_1) x8_2) 0), .int .i64 0, .int .i64 (wrap64 (a1 - 1))] (by rfl) rfl rfl (by (try simp only [List.map_toArray, List.map_cons, List.map_nil]); first | done | rfl | (simp only [List.length_drop, List.length_take]; rfl)) ?_
                    with_reducible refine (spec_l1In.calls (rd (rd_L1 (rd_L2 l0 x6_1) x8_2) 0) 0 (wrap64 (a1 - 1)) true _ A20.out).mono ?_
                    rintro e w' ⟨rfl, ⟨nd, rfl⟩⟩
                    refine ⟨_, rfl, ?_⟩
                    refine hK.out _ _ ⟨((HB.out.cell (World.block_lt_of_cell? w _ hw124_0)).trans hw124_0), ((HB.out.cell (World.block_lt_of_cell? w _ hw126_0)).trans hw126_0), ((HB.out.cell (World.block_lt_of_cell? w _ hw128_0)).trans hw128_0), ((HB.out.cell (World.block_lt_of_cell? w _ hw129_0)).trans hw129_0)⟩ (fun hHeld => ?_)
                    clear hK K
                    refine norm_ (a' := ?_) ?_ ?_
                    rotate_left
                    ·
                     show Act.put _ (some 52) _ = _
                     simp only [Act.put, εm, εn, εo, i64_w, i32_w]
                     rfl
                    refine pure_ (i := 10) (N := some 53) (v := ?_) (a' := ?_) ε11 rfl rfl (any_of HT_.out (by kernel_rfl)) (fun _ _ _ h => h) (Or.inl ⟨by rfl, ?_⟩) ?_ ?_
                    rotate_left; · (intro w'; go_simp; with_reducible rfl)
                    rotate_left; · (simp only [Act.put, εm, εn, εo, i64_w, i32_w]; rfl)
                    refine pure_ (i := 11) (N := some 54) (v := ?_) (a' := ?_) ε12 rfl rfl (any_of HT_.out (by kernel_rfl)) (fun _ _ _ h => h) (Or.inl ⟨by rfl, ?_⟩) ?_ ?_
                    rotate_left; · (intro w'; go_simp; with_reducible rfl)
                    rotate_left; · (simp only [Act.put, εm, εn, εo, i64_w, i32_w]; rfl)
                    refine pure_ (i := 12) (N := some 55) (v := ?_) (a' := ?_) ε13 rfl rfl (any_of HT_.out (by kernel_rfl)) (fun _ _ _ h => h) (Or.inl ⟨by rfl, ?_⟩) ?_ ?_
                    rotate_left; · (intro w'; go_simp; with_reducible rfl)
                    rotate_left; · (simp only [Act.put, εm, εn, εo, i64_w, i32_w]; rfl)
                    refine pure_ (i := 13) (N := some 56) (v := ?_) (a' := ?_) ε14 rfl rfl (any_of HT_.out (by kernel_rfl)) (fun _ _ _ h => h) (Or.inl ⟨by rfl, ?_⟩) ?_ ?_
                    rotate_left; · (intro w'; go_simp; with_reducible rfl)
                    rotate_left; · (simp only [Act.put, εm, εn, εo, i64_w, i32_w]; rfl)
                    refine pure_ (i := 14) (N := some 57) (v := ?_) (a' := ?_) ε15 rfl rfl (any_of HT_.out (by kernel_rfl)) (fun _ _ _ h => h) (Or.inl ⟨by rfl, ?_⟩) ?_ ?_
                    rotate_left; · (intro w'; go_simp; with_reducible rfl)
                    rotate_left; · (simp only [Act.put, εm, εn, εo, i64_w, i32_w]; rfl)
                    refine pure_ (i := 16) (N := some 59) (v := ?_) (a' := ?_) ε16 rfl rfl (any_of HT_.out (by kernel_rfl)) (fun _ _ _ h => h) (Or.inl ⟨by rfl, ?_⟩) ?_ ?_
                    rotate_left; · (intro w'; go_simp; with_reducible rfl)
                    rotate_left; · (simp only [Act.put, εm, εn, εo, i64_w, i32_w]; rfl)
                    refine pure_ (i := 17) (N := some 60) (v := ?_) (a' := ?_) ε17 rfl rfl (any_of HT_.out (by kernel_rfl)) (fun _ _ _ h => h) (Or.inl ⟨by rfl, ?_⟩) ?_ ?_
                    rotate_left; · (intro w'; go_simp; with_reducible rfl)
                    rotate_left; · (simp only [Act.put, εm, εn, εo, i64_w, i32_w]; rfl)
                    refine take_ (i := 15) (N := some 58) (v := ?_) (a' := ?_) ε18 rfl rfl (take_ofW HT_.out HW_.out (by kernel_rfl)) (fun _ _ _ h => h) (Or.inl ⟨by rfl, ?_⟩) hHeld ?_ ?_
                    rotate_left
                    ·
                     rintro w' ⟨s0, s1, s2, s3⟩
                     go_simp
                     with_reducible rfl
                    rotate_left
                    ·
                     simp only [Act.put, εm, εn, εo, i64_w, i32_w]
                     rfl
                    refine one_ (i := 18) (N := some 61) ε19 rfl rfl (one_of HT_.out (by kernel_rfl)) (by decide) (fun K hK => ?_)
                    refine goes_ Try.func62 (by kernel_rfl) rfl #[.int .i64 (rd (rd_L1 (rd_L2 l0 x6_1) x8_2) 1), .int .i64 0, .int .i64 (wrap64 (a1 - 1))] (by rfl) rfl rfl (by (try simp only [List.map_toArray, List.map_cons, List.map_nil]); first | done | rfl | (simp only [List.length_drop, List.length_take]; rfl)) ?_
                    with_reducible refine (spec_l1In.calls (rd (rd_L1 (rd_L2 l0 x6_1) x8_2) 1) 0 (wrap64 (a1 - 1)) true _ A23.out).mono ?_
                    rintro e w' ⟨rfl, ⟨nd, rfl⟩⟩
                    refine ⟨_, rfl, ?_⟩
                    refine hK.out _ _ ⟨((HB.out.cell (World.block_lt_of_cell? w _ hw124_0)).trans hw124_0), ((HB.out.cell (World.block_lt_of_cell? w _ hw126_0)).trans hw126_0), ((HB.out.cell (World.block_lt_of_cell? w _ hw128_0)).trans hw128_0), ((HB.out.cell (World.block_lt_of_cell? w _ hw129_0)).trans hw129_0)⟩ (fun hHeld => ?_)
                    clear hK K
                    refine norm_ (a' := ?_) ?_ ?_
                    rotate_left
                    ·
                     show Act.put _ (some 61) _ = _
                     simp only [Act.put, εm, εn, εo, i64_w, i32_w]
                     rfl
                    refine pure_ (i := 19) (N := some 62) (v := ?_) (a' := ?_) ε20 rfl rfl (any_of HT_.out (by kernel_rfl)) (fun _ _ _ h => h) (Or.inl ⟨by rfl, ?_⟩) ?_ ?_
                    rotate_left; · (intro w'; go_simp; with_reducible rfl)
                    rotate_left; · (simp only [Act.put, εm, εn, εo, i64_w, i32_w]; rfl)
                    refine pure_ (i := 20) (N := some 63) (v := ?_) (a' := ?_) ε21 rfl rfl (any_of HT_.out (by kernel_rfl)) (fun _ _ _ h => h) (Or.inl ⟨by rfl, ?_⟩) ?_ ?_
                    rotate_left; · (intro w'; go_simp; with_reducible rfl)
                    rotate_left; · (simp only [Act.put, εm, εn, εo, i64_w, i32_w]; rfl)
                    refine pure_ (i := 21) (N := some 64) (v := ?_) (a' := ?_) ε22 rfl rfl (any_of HT_.out (by kernel_rfl)) (fun _ _ _ h => h) (Or.inl ⟨by rfl, ?_⟩) ?_ ?_
                    rotate_left; · (intro w'; go_simp; with_reducible rfl)
                    rotate_left; · (simp only [Act.put, εm, εn, εo, i64_w, i32_w]; rfl)
                    refine pure_ (i := 22) (N := some 65) (v := ?_) (a' := ?_) ε23 rfl rfl (any_of HT_.out (by kernel_rfl)) (fun _ _ _ h => h) (Or.inl ⟨by rfl, ?_⟩) ?_ ?_
                    rotate_left; · (intro w'; go_simp; with_reducible rfl)
                    rotate_left; · (simp only [Act.put, εm, εn, εo, i64_w, i32_w]; rfl)
                    refine pure_ (i := 23) (N := some 66) (v := ?_) (a' := ?_) ε24 rfl rfl (any_of HT_.out (by kernel_rfl)) (fun _ _ _ h => h) (Or.inl ⟨by rfl, ?_⟩) ?_ ?_
                    rotate_left; · (intro w'; go_simp; with_reducible rfl)
                    rotate_left; · (simp only [Act.put, εm, εn, εo, i64_w, i32_w]; rfl)
                    refine pure_ (i := 25) (N := some 68) (v := ?_) (a' := ?_) ε25 rfl rfl (any_of HT_.out (by kernel_rfl)) (fun _ _ _ h => h) (Or.inl ⟨by rfl, ?_⟩) ?_ ?_
                    rotate_left; · (intro w'; go_simp; with_reducible rfl)
                    rotate_left; · (simp only [Act.put, εm, εn, εo, i64_w, i32_w]; rfl)
                    refine pure_ (i := 26) (N := some 69) (v := ?_) (a' := ?_) ε26 rfl rfl (any_of HT_.out (by kernel_rfl)) (fun _ _ _ h => h) (Or.inl ⟨by rfl, ?_⟩) ?_ ?_
                    rotate_left; · (intro w'; go_simp; with_reducible rfl)
                    rotate_left; · (simp only [Act.put, εm, εn, εo, i64_w, i32_w]; rfl)
                    refine take_ (i := 24) (N := some 67) (v := ?_) (a' := ?_) ε27 rfl rfl (take_ofW HT_.out HW_.out (by kernel_rfl)) (fun _ _ _ h => h) (Or.inl ⟨by rfl, ?_⟩) hHeld ?_ ?_
                    rotate_left
                    ·
                     rintro w' ⟨s0, s1, s2, s3⟩
                     go_simp
                     with_reducible rfl
                    rotate_left
                    ·
                     simp only [Act.put, εm, εn, εo, i64_w, i32_w]
                     rfl
                    refine take_ (i := 27) (N := some 70) (v := ?_) (a' := ?_) ε28 rfl rfl (take_ofW HT_.out HW_.out (by kernel_rfl)) (fun _ _ _ h => h) (Or.inl ⟨by rfl, ?_⟩) hHeld ?_ ?_
                    rotate_left
                    ·
                     rintro w' ⟨s0, s1, s2, s3⟩
                     go_simp
                     with_reducible rfl
                    rotate_left
                    ·
                     simp only [Act.put, εm, εn, εo, i64_w, i32_w]
                     rfl
                    refine pure_ (i := 28) (N := some 71) (v := ?_) (a' := ?_) ε29 rfl rfl (any_of HT_.out (by kernel_rfl)) (fun _ _ _ h => h) (Or.inl ⟨by rfl, ?_⟩) ?_ ?_
                    rotate_left; · (intro w'; go_simp; with_reducible rfl)
                    rotate_left; · (simp only [Act.put, εm, εn, εo, i64_w, i32_w]; rfl)
                    refine pure_ (i := 29) (N := some 72) (v := ?_) (a' := ?_) ε30 rfl rfl (any_of HT_.out (by kernel_rfl)) (fun _ _ _ h => h) (Or.inl ⟨by rfl, ?_⟩) ?_ ?_
                    rotate_left; · (intro w'; go_simp; with_reducible rfl)
                    rotate_left; · (simp only [Act.put, εm, εn, εo, i64_w, i32_w]; rfl)
                    refine pure_ (i := 30) (N := some 73) (v := ?_) (a' := ?_) ε31 rfl rfl (any_of HT_.out (by kernel_rfl)) (fun _ _ _ h => h) (Or.inl ⟨by rfl, ?_⟩) ?_ ?_
                    rotate_left; · (intro w'; go_simp; with_reducible rfl)
                    rotate_left; · (simp only [Act.put, εm, εn, εo, i64_w, i32_w]; rfl)
                    refine pure_ (i := 31) (N := some 74) (v := undef) (a' := ?_) ε32 rfl rfl (any_of HT_.out (by kernel_rfl)) (fun _ _ _ h => h) (Or.inr ⟨by rfl, rfl⟩) ?_ ?_
                    rotate_left
                    ·
                     simp only [Act.put, εm, εn, εo, i64_w, i32_w]
                     rfl
                    refine pure_ (i := 32) (N := some 75) (v := undef) (a' := ?_) ε33 rfl rfl (any_of HT_.out (by kernel_rfl)) (fun _ _ _ h => h) (Or.inr ⟨by rfl, rfl⟩) ?_ ?_
                    rotate_left
                    ·
                     simp only [Act.put, εm, εn, εo, i64_w, i32_w]
                     rfl
                    refine pure_ (i := 33) (N := some 76) (v := undef) (a' := ?_) ε34 rfl rfl (any_of HT_.out (by kernel_rfl)) (fun _ _ _ h => h) (Or.inr ⟨by rfl, rfl⟩) ?_ ?_
                    rotate_left
                    ·
                     simp only [Act.put, εm, εn, εo, i64_w, i32_w]
                     rfl
                    refine pure_ (i := 34) (N := some 77) (v := undef) (a' := ?_) ε35 rfl rfl (any_of HT_.out (by kernel_rfl)) (fun _ _ _ h => h) (Or.inr ⟨by rfl, rfl⟩) ?_ ?_
                    rotate_left
                    ·
                     simp only [Act.put, εm, εn, εo, i64_w, i32_w]
                     rfl
                    refine pure_ (i := 35) (N := some 78) (v := undef) (a' := ?_) ε36 rfl rfl (any_of HT_.out (by kernel_rfl)) (fun _ _ _ h => h) (Or.inr ⟨by rfl, rfl⟩) ?_ ?_
                    rotate_left
                    ·
                     simp only [Act.put, εm, εn, εo, i64_w, i32_w]
                     rfl
                    refine pure_ (i := 36) (N := some 79) (v := ?_) (a' := ?_) ε37 rfl rfl (any_of HT_.out (by kernel_rfl)) (fun _ _ _ h => h) (Or.inl ⟨by rfl, ?_⟩) ?_ ?_
                    rotate_left; · (intro w'; go_simp; with_reducible rfl)
                    rotate_left; · (simp only [Act.put, εm, εn, εo, i64_w, i32_w]; rfl)
                    refine pure_ (i := 37) (N := some 80) (v := ?_) (a' := ?_) ε38 rfl rfl (any_of HT_.out (by kernel_rfl)) (fun _ _ _ h => h) (Or.inl ⟨by rfl, ?_⟩) ?_ ?_
                    rotate_left; · (intro w'; go_simp; with_reducible rfl)
                    rotate_left; · (simp only [Act.put, εm, εn, εo, i64_w, i32_w]; rfl)
                    refine pure_ (i := 38) (N := some 81) (v := undef) (a' := ?_) ε39 rfl rfl (any_of HT_.out (by kernel_rfl)) (fun _ _ _ h => h) (Or.inr ⟨by rfl, rfl⟩) ?_ ?_
                    rotate_left
                    ·
                     simp only [Act.put, εm, εn, εo, i64_w, i32_w]
                     rfl
                    refine pure_ (i := 39) (N := some 82) (v := undef) (a' := ?_) ε40 rfl rfl (any_of HT_.out (by kernel_rfl)) (fun _ _ _ h => h) (Or.inr ⟨by rfl, rfl⟩) ?_ ?_
                    rotate_left
                    ·
                     simp only [Act.put, εm, εn, εo, i64_w, i32_w]
                     rfl
                    refine pure_ (i := 40) (N := some 83) (v := undef) (a' := ?_) ε41 rfl rfl (any_of HT_.out (by kernel_rfl)) (fun _ _ _ h => h) (Or.inr ⟨by rfl, rfl⟩) ?_ ?_
                    rotate_left
                    ·
                     simp only [Act.put, εm, εn, εo, i64_w, i32_w]
                     rfl
                    refine pure_ (i := 41) (N := some 84) (v := undef) (a' := ?_) ε42 rfl rfl (any_of HT_.out (by kernel_rfl)) (fun _ _ _ h => h) (Or.inr ⟨by rfl, rfl⟩) ?_ ?_
                    rotate_left
                    ·
                     simp only [Act.put, εm, εn, εo, i64_w, i32_w]
                     rfl
                    refine pure_ (i := 42) (N := some 85) (v := undef) (a' := ?_) ε43 rfl rfl (any_of HT_.out (by kernel_rfl)) (fun _ _ _ h => h) (Or.inr ⟨by rfl, rfl⟩) ?_ ?_
                    rotate_left
                    ·
                     simp only [Act.put, εm, εn, εo, i64_w, i32_w]
                     rfl
                    refine pure_ (i := 43) (N := some 86) (v := ?_) (a' := ?_) ε44 rfl rfl (any_of HT_.out (by kernel_rfl)) (fun _ _ _ h => h) (Or.inl ⟨by rfl, ?_⟩) ?_ ?_
                    rotate_left; · (intro w'; go_simp; with_reducible rfl)
                    rotate_left; · (simp only [Act.put, εm, εn, εo, i64_w, i32_w]; rfl)
                    refine done_ (done_of HT_.out (by kernel_rfl)) ?_
                    try go_wp2
                    go_meet
                    case rel => exact ⟨_, (true), (by first | rfl | (simp; done) | (simp [*]; done)), H', ⟨by have := HK1.out; have := HK2.out; first | omega | exact Nat.le_refl _⟩, ⟨by (with_reducible repeat (first | apply εd | apply εe | apply εf)); exact HO_5.out⟩, ⟨by (with_reducible repeat (first | apply εd | apply εe | apply εf)); exact HO_7.out⟩, ⟨by repeat (first | (with_reducible first | exact HB.out | apply εj | apply εh | apply εi) | exact HB.out)⟩⟩
                   rw [if_neg c25] at H
                   have c25b0 : ((rd (rd_L1 (rd_L2 l0 x6_1) x8_2) 0) == (rd (rd_L1 (rd_L2 l0 x6_1) x8_2) 1)) = false := beq_eq_false_iff_ne.mpr c25
                   have c25b1 : ((rd (rd_L1 (rd_L2 l0 x6_1) x8_2) 0) != (rd (rd_L1 (rd_L2 l0 x6_1) x8_2) 1)) = true := bne_iff_ne.mpr c25
                   replace H := Option.bind_eq_some_iff.mp H
                   obtain ⟨t131, A270, H⟩ := H
                   try dsimp only at H
                   have A27 := εp A270
                   clear A270
                   by_cases c28 : t131 = true
                   ·
                    subst c28
                    rw [if_pos rfl] at H
                    have H' := εp H
                    clear H
                    try go_wp2
                    have n0_ := εp (εf HO_5.out)
                    have n1_ := εp (εf HO_7.out)
                    have n2_ := εp (εi HB.out)
                    clear HO_5
                    clear HO_7
                    clear HB
                    have HO_5 := n0_
                    have HO_7 := n1_
                    have HB := n2_
                    clear n0_ n1_ n2_
                    have p124 : 0 ≤ (0 : Int) := (by omega)
                    have q124 : 0 < ((rd_L1 (rd_L2 l0 x6_1) x8_2).length : Int) := of_decide_eq_true (by first | (with_reducible assumption) | assumption)
                    obtain ⟨ad124, e124, hx124_0⟩ := Kd.at_int HR123_0.out 0 p124 q124
                    have hw124_0 := hx124_0
                    (try rw [show ((0 : Int)).toNat = 0 from rfl] at hw124_0)
                    (try rw [show 0 * 1 = 0 from rfl] at hw124_0)
                    (try rw [Addr.add_zero'] at hw124_0)
                    cases e124
                    have qi124 : (0 < (rd_L1 (rd_L2 l0 x6_1) x8_2).length) = True := eq_true (by omega)
                    (try rw [show ((0 : Int)).toNat = 0 from rfl] at hx124_0)
                    (try rw [Addr.add_zero'] at hx124_0)
                    replace hx124_0 := (HB.out.cell (World.block_lt_of_cell? w _ hx124_0)).trans hx124_0
                    replace p124 := eq_true p124
                    replace q124 := eq_true q124
                    have p126 : 0 ≤ (1 : Int) := (by omega)
                    have q126 : 1 < ((rd_L1 (rd_L2 l0 x6_1) x8_2).length : Int) := of_decide_eq_true (by first | (with_reducible assumption) | assumption)
                    obtain ⟨ad126, e126, hx126_0⟩ := Kd.at_int HR123_0.out 1 p126 q126
                    have hw126_0 := hx126_0
                    (try rw [show ((1 : Int)).toNat = 1 from rfl] at hw126_0)
                    (try rw [show 1 * 1 = 1 from rfl] at hw126_0)
                    (try simp only [Nat.reduceMul, Nat.reduceEqDiff, Go.Addr.add, ↓reduceIte] at hw126_0)
                    obtain rfl : ad124 = ad126 := (by injection e126)
                    (try simp only [show (1 : Int).toNat = 1 from rfl, Nat.reduceMul, Nat.reduceEqDiff, Go.Addr.add, ↓reduceIte] at hx126_0)
                    have qi126 : (1 < (rd_L1 (rd_L2 l0 x6_1) x8_2).length) = True := eq_true (by omega)
                    (try rw [show ((1 : Int)).toNat = 1 from rfl] at hx126_0)
                    replace hx126_0 := (HB.out.cell (World.block_lt_of_cell? w _ hx126_0)).trans hx126_0
                    replace p126 := eq_true p126
                    replace q126 := eq_true q126
                    have p128 : 0 ≤ (0 : Int) := (by omega)
                    have q128 : 0 < ((rd_L1 (rd_L2 l0 x6_1) x8_2).length : Int) := of_decide_eq_true (by first | (with_reducible assumption) | assumption)
                    obtain ⟨ad128, e128, hx128_0⟩ := Kd.at_int HR123_0.out 0 p128 q128
                    have hw128_0 := hx128_0
                    (try rw [show ((0 : Int)).toNat = 0 from rfl] at hw128_0)
                    (try rw [show 0 * 1 = 0 from rfl] at hw128_0)
                    (try rw [Addr.add_zero'] at hw128_0)
                    obtain rfl : ad124 = ad128 := (by injection e128)
                    have qi128 : (0 < (rd_L1 (rd_L2 l0 x6_1) x8_2).length) = True := eq_true (by omega)
                    (try rw [show ((0 : Int)).toNat = 0 from rfl] at hx128_0)
                    (try rw [Addr.add_zero'] at hx128_0)
                    replace hx128_0 := (HB.out.cell (World.block_lt_of_cell? w _ hx128_0)).trans hx128_0
                    replace p128 := eq_true p128
                    replace q128 := eq_true q128
                    have p129 : 0 ≤ (1 : Int) := (by omega)
                    have q129 : 1 < ((rd_L1 (rd_L2 l0 x6_1) x8_2).length : Int) := of_decide_eq_true (by first | (with_reducible assumption) | assumption)
                    obtain ⟨ad129, e129, hx129_0⟩ := Kd.at_int HR123_0.out 1 p129 q129
                    have hw129_0 := hx129_0
                    (try rw [show ((1 : Int)).toNat = 1 from rfl] at hw129_0)
                    (try rw [show 1 * 1 = 1 from rfl] at hw129_0)
                    (try simp only [Nat.reduceMul, Nat.reduceEqDiff, Go.Addr.add, ↓reduceIte] at hw129_0)
                    obtain rfl : ad124 = ad129 := (by injection e129)
                    (try simp only [show (1 : Int).toNat = 1 from rfl, Nat.reduceMul, Nat.reduceEqDiff, Go.Addr.add, ↓reduceIte] at hx129_0)
                    have qi129 : (1 < (rd_L1 (rd_L2 l0 x6_1) x8_2).length) = True := eq_true (by omega)
                    (try rw [show ((1 : Int)).toNat = 1 from rfl] at hx129_0)
                    replace hx129_0 := (HB.out.cell (World.block_lt_of_cell? w _ hx129_0)).trans hx129_0
                    replace p129 := eq_true p129
                    replace q129 := eq_true q129
                    have p130 : 0 ≤ (0 : Int) := (by omega)
                    have q130 : 0 < ((rd_L1 (rd_L2 l0 x6_1) x8_2).length : Int) := of_decide_eq_true (by first | (with_reducible assumption) | assumption)
                    obtain ⟨ad130, e130, hx130_0⟩ := Kd.at_int HR123_0.out 0 p130 q130
                    have hw130_0 := hx130_0
                    (try rw [show ((0 : Int)).toNat = 0 from rfl] at hw130_0)
                    (try rw [show 0 * 1 = 0 from rfl] at hw130_0)
                    (try rw [Addr.add_zero'] at hw130_0)
                    obtain rfl : ad124 = ad130 := (by injection e130)
                    have qi130 : (0 < (rd_L1 (rd_L2 l0 x6_1) x8_2).length) = True := eq_true (by omega)
                    (try rw [show ((0 : Int)).toNat = 0 from rfl] at hx130_0)
                    (try rw [Addr.add_zero'] at hx130_0)
                    replace hx130_0 := (HB.out.cell (World.block_lt_of_cell? w _ hx130_0)).trans hx130_0
                    replace p130 := eq_true p130
                    replace q130 := eq_true q130
                    refine start_ (n := 44) (S := fun w' => w'.cell? ad124 = some (.int .i64 (rd (rd_L1 (rd_L2 l0 x6_1) x8_2) 0)) ∧ w'.cell? ⟨ad124.block, ad124.off + 1, none⟩ = some (.int .i64 (rd (rd_L1 (rd_L2 l0 x6_1) x8_2) 1)) ∧ w'.cell? ad124 = some (.int .i64 (rd (rd_L1 (rd_L2 l0 x6_1) x8_2) 0)) ∧ w'.cell? ⟨ad124.block, ad124.off + 1, none⟩ = some (.int .i64 (rd (rd_L1 (rd_L2 l0 x6_1) x8_2) 1)) ∧ w'.cell? ad124 = some (.int .i64 (rd (rd_L1 (rd_L2 l0 x6_1) x8_2) 0))) (ds := []) ε0 (by kernel_rfl) rfl rfl ⟨((HB.out.cell (World.block_lt_of_cell? w _ hw124_0)).trans hw124_0), ((HB.out.cell (World.block_lt_of_cell? w _ hw126_0)).trans hw126_0), ((HB.out.cell (World.block_lt_of_cell? w _ hw128_0)).trans hw128_0), ((HB.out.cell (World.block_lt_of_cell? w _ hw129_0)).trans hw129_0), ((HB.out.cell (World.block_lt_of_cell? w _ hw130_0)).trans hw130_0)⟩ (fun hHeld => ?_); refine with_tabW spec_MeetOnce.tab12 spec_MeetOnce.bits12 (fun HT_ HW_ => ?_)
                    generalize wr.drew = w29 at HO_5 HO_7 HB hx124_0 hx126_0 hx128_0 hx129_0 hx130_0 hHeld ⊢
                    refine pure_ (i := 0) (N := some 43) (v := ?_) (a' := ?_) ε1 rfl rfl (any_of HT_.out (by kernel_rfl)) (fun _ _ _ h => h) (Or.inl ⟨by rfl, ?_⟩) ?_ ?_
                    rotate_left; · (intro w'; go_simp; with_reducible rfl)
                    rotate_left; · (simp only [Act.put, εm, εn, εo, i64_w, i32_w]; rfl)
                    refine pure_ (i := 1) (N := some 44) (v := ?_) (a' := ?_) ε2 rfl rfl (any_of HT_.out (by kernel_rfl)) (fun _ _ _ h => h) (Or.inl ⟨by rfl, ?_⟩) ?_ ?_
                    rotate_left; · (intro w'; go_simp; with_reducible rfl)
                    rotate_left; · (simp only [Act.put, εm, εn, εo, i64_w, i32_w]; rfl)
                    refine pure_ (i := 2) (N := some 45) (v := ?_) (a' := ?_) ε3 rfl rfl (any_of HT_.out (by kernel_rfl)) (fun _ _ _ h => h) (Or.inl ⟨by rfl, ?_⟩) ?_ ?_
                    rotate_left; · (intro w'; go_simp; with_reducible rfl)
                    rotate_left; · (simp only [Act.put, εm, εn, εo, i64_w, i32_w]; rfl)
                    refine pure_ (i := 3) (N := some 46) (v := ?_) (a' := ?_) ε4 rfl rfl (any_of HT_.out (by kernel_rfl)) (fun _ _ _ h => h) (Or.inl ⟨by rfl, ?_⟩) ?_ ?_
                    rotate_left; · (intro w'; go_simp; with_reducible rfl)
                    rotate_left; · (simp only [Act.put, εm, εn, εo, i64_w, i32_w]; rfl)
                    refine pure_ (i := 4) (N := some 47) (v := ?_) (a' := ?_) ε5 rfl rfl (any_of HT_.out (by kernel_rfl)) (fun _ _ _ h => h) (Or.inl ⟨by rfl, ?_⟩) ?_ ?_
                    rotate_left; · (intro w'; go_simp; with_reducible rfl)
                    rotate_left; · (simp only [Act.put, εm, εn, εo, i64_w, i32_w]; rfl)
                    refine pure_ (i := 5) (N := some 48) (v := ?_) (a' := ?_) ε6 rfl rfl (any_of HT_.out (by kernel_rfl)) (fun _ _ _ h => h) (Or.inl ⟨by rfl, ?_⟩) ?_ ?_
                    rotate_left; · (intro w'; go_simp; with_reducible rfl)
                    rotate_left; · (simp only [Act.put, εm, εn, εo, i64_w, i32_w]; rfl)
                    refine pure_ (i := 7) (N := some 50) (v := ?_) (a' := ?_) ε7 rfl rfl (any_of HT_.out (by kernel_rfl)) (fun _ _ _ h => h) (Or.inl ⟨by rfl, ?_⟩) ?_ ?_
                    rotate_left; · (intro w'; go_simp; with_reducible rfl)
                    rotate_left; · (simp only [Act.put, εm, εn, εo, i64_w, i32_w]; rfl)
                    refine pure_ (i := 8) (N := some 51) (v := ?_) (a' := ?_) ε8 rfl rfl (any_of HT_.out (by kernel_rfl)) (fun _ _ _ h => h) (Or.inl ⟨by rfl, ?_⟩) ?_ ?_
                    rotate_left; · (intro w'; go_simp; with_reducible rfl)
                    rotate_left; · (simp only [Act.put, εm, εn, εo, i64_w, i32_w]; rfl)
                    refine take_ (i := 6) (N := some 49) (v := ?_) (a' := ?_) ε9 rfl rfl (take_ofW HT_.out HW_.out (by kernel_rfl)) (fun _ _ _ h => h) (Or.inl ⟨by rfl, ?_⟩) hHeld ?_ ?_
                    rotate_left
                    ·
                     rintro w' ⟨s0, s1, s2, s3, s4⟩
                     go_simp
                     with_reducible rfl
                    rotate_left
                    ·
                     simp only [Act.put, εm, εn, εo, i64_w, i32_w]
                     rfl
                    refine one_ (i := 9) (N := some 52) ε10 rfl rfl (one_of HT_.out (by kernel_rfl)) (by decide) (fun K hK => ?_)
                    refine goes_ Try.func62 (by kernel_rfl) rfl #[.int .i64 (rd (rd_L1 (rd_L2 l0 x6_1) x8_2) 0), .int .i64 0, .int .i64 (wrap64 (a1 - 1))] (by rfl) rfl rfl (by (try simp only [List.map_toArray, List.map_cons, List.map_nil]); first | done | rfl | (simp only [List.length_drop, List.length_take]; rfl)) ?_
                    with_reducible refine (spec_l1In.calls (rd (rd_L1 (rd_L2 l0 x6_1) x8_2) 0) 0 (wrap64 (a1 - 1)) true _ A20.out).mono ?_
                    rintro e w' ⟨rfl, ⟨nd, rfl⟩⟩
                    refine ⟨_, rfl, ?_⟩
                    refine hK.out _ _ ⟨((HB.out.cell (World.block_lt_of_cell? w _ hw124_0)).trans hw124_0), ((HB.out.cell (World.block_lt_of_cell? w _ hw126_0)).trans hw126_0), ((HB.out.cell (World.block_lt_of_cell? w _ hw128_0)).trans hw128_0), ((HB.out.cell (World.block_lt_of_cell? w _ hw129_0)).trans hw129_0), ((HB.out.cell (World.block_lt_of_cell? w _ hw130_0)).trans hw130_0)⟩ (fun hHeld => ?_)
                    clear hK K
                    refine norm_ (a' := ?_) ?_ ?_
                    rotate_left
                    ·
                     show Act.put _ (some 52) _ = _
                     simp only [Act.put, εm, εn, εo, i64_w, i32_w]
                     rfl
                    refine pure_ (i := 10) (N := some 53) (v := ?_) (a' := ?_) ε11 rfl rfl (any_of HT_.out (by kernel_rfl)) (fun _ _ _ h => h) (Or.inl ⟨by rfl, ?_⟩) ?_ ?_
                    rotate_left; · (intro w'; go_simp; with_reducible rfl)
                    rotate_left; · (simp only [Act.put, εm, εn, εo, i64_w, i32_w]; rfl)
                    refine pure_ (i := 11) (N := some 54) (v := ?_) (a' := ?_) ε12 rfl rfl (any_of HT_.out (by kernel_rfl)) (fun _ _ _ h => h) (Or.inl ⟨by rfl, ?_⟩) ?_ ?_
                    rotate_left; · (intro w'; go_simp; with_reducible rfl)
                    rotate_left; · (simp only [Act.put, εm, εn, εo, i64_w, i32_w]; rfl)
                    refine pure_ (i := 12) (N := some 55) (v := ?_) (a' := ?_) ε13 rfl rfl (any_of HT_.out (by kernel_rfl)) (fun _ _ _ h => h) (Or.inl ⟨by rfl, ?_⟩) ?_ ?_
                    rotate_left; · (intro w'; go_simp; with_reducible rfl)
                    rotate_left; · (simp only [Act.put, εm, εn, εo, i64_w, i32_w]; rfl)
                    refine pure_ (i := 13) (N := some 56) (v := ?_) (a' := ?_) ε14 rfl rfl (any_of HT_.out (by kernel_rfl)) (fun _ _ _ h => h) (Or.inl ⟨by rfl, ?_⟩) ?_ ?_
                    rotate_left; · (intro w'; go_simp; with_reducible rfl)
                    rotate_left; · (simp only [Act.put, εm, εn, εo, i64_w, i32_w]; rfl)
                    refine pure_ (i := 14) (N := some 57) (v := ?_) (a' := ?_) ε15 rfl rfl (any_of HT_.out (by kernel_rfl)) (fun _ _ _ h => h) (Or.inl ⟨by rfl, ?_⟩) ?_ ?_
                    rotate_left; · (intro w'; go_simp; with_reducible rfl)
                    rotate_left; · (simp only [Act.put, εm, εn, εo, i64_w, i32_w]; rfl)
                    refine pure_ (i := 16) (N := some 59) (v := ?_) (a' := ?_) ε16 rfl rfl (any_of HT_.out (by kernel_rfl)) (fun _ _ _ h => h) (Or.inl ⟨by rfl, ?_⟩) ?_ ?_
                    rotate_left; · (intro w'; go_simp; with_reducible rfl)
                    rotate_left; · (simp only [Act.put, εm, εn, εo, i64_w, i32_w]; rfl)
                    refine pure_ (i := 17) (N := some 60) (v := ?_) (a' := ?_) ε17 rfl rfl (any_of HT_.out (by kernel_rfl)) (fun _ _ _ h => h) (Or.inl ⟨by rfl, ?_⟩) ?_ ?_
                    rotate_left; · (intro w'; go_simp; with_reducible rfl)
                    rotate_left; · (simp only [Act.put, εm, εn, εo, i64_w, i32_w]; rfl)
                    refine take_ (i := 15) (N := some 58) (v := ?_) (a' := ?_) ε18 rfl rfl (take_ofW HT_.out HW_.out (by kernel_rfl)) (fun _ _ _ h => h) (Or.inl ⟨by rfl, ?_⟩) hHeld ?_ ?_
                    rotate_left
                    ·
                     rintro w' ⟨s0, s1, s2, s3, s4⟩
                     go_simp
                     with_reducible rfl
                    rotate_left
                    ·
                     simp only [Act.put, εm, εn, εo, i64_w, i32_w]
                     rfl
                    refine one_ (i := 18) (N := some 61) ε19 rfl rfl (one_of HT_.out (by kernel_rfl)) (by decide) (fun K hK => ?_)
                    refine goes_ Try.func62 (by kernel_rfl) rfl #[.int .i64 (rd (rd_L1 (rd_L2 l0 x6_1) x8_2) 1), .int .i64 0, .int .i64 (wrap64 (a1 - 1))] (by rfl) rfl rfl (by (try simp only [List.map_toArray, List.map_cons, List.map_nil]); first | done | rfl | (simp only [List.length_drop, List.length_take]; rfl)) ?_
                    with_reducible refine (spec_l1In.calls (rd (rd_L1 (rd_L2 l0 x6_1) x8_2) 1) 0 (wrap64 (a1 - 1)) true _ A23.out).mono ?_
                    rintro e w' ⟨rfl, ⟨nd, rfl⟩⟩
                    refine ⟨_, rfl, ?_⟩
                    obtain ⟨Ao30, co30, eo30⟩ := Kd.R_slice HO_7.out
                    (first | subst eo30 | (injection eo30 with f1_ f2_ f3_; have f4_ := f1_.symm; have f5_ := f3_.symm; clear f1_ f2_ f3_; subst f4_; subst f5_))
                    refine hK.out _ _ ⟨((HB.out.cell (World.block_lt_of_cell? w _ hw124_0)).trans hw124_0), ((HB.out.cell (World.block_lt_of_cell? w _ hw126_0)).trans hw126_0), ((HB.out.cell (World.block_lt_of_cell? w _ hw128_0)).trans hw128_0), ((HB.out.cell (World.block_lt_of_cell? w _ hw129_0)).trans hw129_0), ((HB.out.cell (World.block_lt_of_cell? w _ hw130_0)).trans hw130_0)⟩ (fun hHeld => ?_)
                    clear hK K
                    refine norm_ (a' := ?_) ?_ ?_
                    rotate_left
                    ·
                     show Act.put _ (some 61) _ = _
                     simp only [Act.put, εm, εn, εo, i64_w, i32_w]
                     rfl
                    refine pure_ (i := 19) (N := some 62) (v := ?_) (a' := ?_) ε20 rfl rfl (any_of HT_.out (by kernel_rfl)) (fun _ _ _ h => h) (Or.inl ⟨by rfl, ?_⟩) ?_ ?_
                    rotate_left; · (intro w'; go_simp; with_reducible rfl)
                    rotate_left; · (simp only [Act.put, εm, εn, εo, i64_w, i32_w]; rfl)
                    refine pure_ (i := 20) (N := some 63) (v := ?_) (a' := ?_) ε21 rfl rfl (any_of HT_.out (by kernel_rfl)) (fun _ _ _ h => h) (Or.inl ⟨by rfl, ?_⟩) ?_ ?_
                    rotate_left; · (intro w'; go_simp; with_reducible rfl)
                    rotate_left; · (simp only [Act.put, εm, εn, εo, i64_w, i32_w]; rfl)
                    refine pure_ (i := 21) (N := some 64) (v := ?_) (a' := ?_) ε22 rfl rfl (any_of HT_.out (by kernel_rfl)) (fun _ _ _ h => h) (Or.inl ⟨by rfl, ?_⟩) ?_ ?_
                    rotate_left; · (intro w'; go_simp; with_reducible rfl)
                    rotate_left; · (simp only [Act.put, εm, εn, εo, i64_w, i32_w]; rfl)
                    refine pure_ (i := 22) (N := some 65) (v := ?_) (a' := ?_) ε23 rfl rfl (any_of HT_.out (by kernel_rfl)) (fun _ _ _ h => h) (Or.inl ⟨by rfl, ?_⟩) ?_ ?_
                    rotate_left; · (intro w'; go_simp; with_reducible rfl)
                    rotate_left; · (simp only [Act.put, εm, εn, εo, i64_w, i32_w]; rfl)
                    refine pure_ (i := 23) (N := some 66) (v := ?_) (a' := ?_) ε24 rfl rfl (any_of HT_.out (by kernel_rfl)) (fun _ _ _ h => h) (Or.inl ⟨by rfl, ?_⟩) ?_ ?_
                    rotate_left; · (intro w'; go_simp; with_reducible rfl)
                    rotate_left; · (simp only [Act.put, εm, εn, εo, i64_w, i32_w]; rfl)
                    refine pure_ (i := 25) (N := some 68) (v := ?_) (a' := ?_) ε25 rfl rfl (any_of HT_.out (by kernel_rfl)) (fun _ _ _ h => h) (Or.inl ⟨by rfl, ?_⟩) ?_ ?_
                    rotate_left; · (intro w'; go_simp; with_reducible rfl)
                    rotate_left; · (simp only [Act.put, εm, εn, εo, i64_w, i32_w]; rfl)
                    refine pure_ (i := 26) (N := some 69) (v := ?_) (a' := ?_) ε26 rfl rfl (any_of HT_.out (by kernel_rfl)) (fun _ _ _ h => h) (Or.inl ⟨by rfl, ?_⟩) ?_ ?_
                    rotate_left; · (intro w'; go_simp; with_reducible rfl)
                    rotate_left; · (simp only [Act.put, εm, εn, εo, i64_w, i32_w]; rfl)
                    refine take_ (i := 24) (N := some 67) (v := ?_) (a' := ?_) ε27 rfl rfl (take_ofW HT_.out HW_.out (by kernel_rfl)) (fun _ _ _ h => h) (Or.inl ⟨by rfl, ?_⟩) hHeld ?_ ?_
                    rotate_left
                    ·
                     rintro w' ⟨s0, s1, s2, s3, s4⟩
                     go_simp
                     with_reducible rfl
                    rotate_left
                    ·
                     simp only [Act.put, εm, εn, εo, i64_w, i32_w]
                     rfl
                    refine take_ (i := 27) (N := some 70) (v := ?_) (a' := ?_) ε28 rfl rfl (take_ofW HT_.out HW_.out (by kernel_rfl)) (fun _ _ _ h => h) (Or.inl ⟨by rfl, ?_⟩) hHeld ?_ ?_
                    rotate_left
                    ·
                     rintro w' ⟨s0, s1, s2, s3, s4⟩
                     go_simp
                     with_reducible rfl
                    rotate_left
                    ·
                     simp only [Act.put, εm, εn, εo, i64_w, i32_w]
                     rfl
                    refine pure_ (i := 28) (N := some 71) (v := ?_) (a' := ?_) ε29 rfl rfl (any_of HT_.out (by kernel_rfl)) (fun _ _ _ h => h) (Or.inl ⟨by rfl, ?_⟩) ?_ ?_
                    rotate_left; · (intro w'; go_simp; with_reducible rfl)
                    rotate_left; · (simp only [Act.put, εm, εn, εo, i64_w, i32_w]; rfl)
                    refine pure_ (i := 29) (N := some 72) (v := ?_) (a' := ?_) ε30 rfl rfl (any_of HT_.out (by kernel_rfl)) (fun _ _ _ h => h) (Or.inl ⟨by rfl, ?_⟩) ?_ ?_
                    rotate_left; · (intro w'; go_simp; with_reducible rfl)
                    rotate_left; · (simp only [Act.put, εm, εn, εo, i64_w, i32_w]; rfl)
                    refine pure_ (i := 30) (N := some 73) (v := ?_) (a' := ?_) ε31 rfl rfl (any_of HT_.out (by kernel_rfl)) (fun _ _ _ h => h) (Or.inl ⟨by rfl, ?_⟩) ?_ ?_
                    rotate_left; · (intro w'; go_simp; with_reducible rfl)
                    rotate_left; · (simp only [Act.put, εm, εn, εo, i64_w, i32_w]; rfl)
                    refine pure_ (i := 31) (N := some 74) (v := ?_) (a' := ?_) ε32 rfl rfl (any_of HT_.out (by kernel_rfl)) (fun _ _ _ h => h) (Or.inl ⟨by rfl, ?_⟩) ?_ ?_
                    rotate_left; · (intro w'; go_simp; with_reducible rfl)
                    rotate_left; · (simp only [Act.put, εm, εn, εo, i64_w, i32_w]; rfl)
                    refine pure_ (i := 32) (N := some 75) (v := ?_) (a' := ?_) ε33 rfl rfl (any_of HT_.out (by kernel_rfl)) (fun _ _ _ h => h) (Or.inl ⟨by rfl, ?_⟩) ?_ ?_
                    rotate_left; · (intro w'; go_simp; with_reducible rfl)
                    rotate_left; · (simp only [Act.put, εm, εn, εo, i64_w, i32_w]; rfl)
                    refine pure_ (i := 33) (N := some 76) (v := ?_) (a' := ?_) ε34 rfl rfl (any_of HT_.out (by kernel_rfl)) (fun _ _ _ h => h) (Or.inl ⟨by rfl, ?_⟩) ?_ ?_
                    rotate_left; · (intro w'; go_simp; with_reducible rfl)
                    rotate_left; · (simp only [Act.put, εm, εn, εo, i64_w, i32_w]; rfl)
                    refine take_ (i := 34) (N := some 77) (v := ?_) (a' := ?_) ε35 rfl rfl (take_ofW HT_.out HW_.out (by kernel_rfl)) (fun _ _ _ h => h) (Or.inl ⟨by rfl, ?_⟩) hHeld ?_ ?_
                    rotate_left
                    ·
                     rintro w' ⟨s0, s1, s2, s3, s4⟩
                     go_simp
                     with_reducible rfl
                    rotate_left
                    ·
                     simp only [Act.put, εm, εn, εo, i64_w, i32_w]
                     rfl
                    refine one_ (i := 35) (N := some 78) ε36 rfl rfl (one_of HT_.out (by kernel_rfl)) (by decide) (fun K hK => ?_)
                    refine goes_ Try.func82 (by kernel_rfl) rfl #[.slice Ao30 x7_2.length co30, .int .i64 (rd (rd_L1 (rd_L2 l0 x6_1) x8_2) 0)] (by rfl) rfl rfl (by (try simp only [List.map_toArray, List.map_cons, List.map_nil]); first | done | rfl | (simp only [List.length_drop, List.length_take]; rfl)) ?_
                    with_reducible refine (spec_l4Has.calls k2 _ _ x7_2 (rd (rd_L1 (rd_L2 l0 x6_1) x8_2) 0) true _ ?side1 ?side2 A27.out).mono ?_
                    (case side1 => repeat (first | exact (Kd.R_reads' HO_7.out).2.2 | (with_reducible refine Kd.C_alloc ?_ _) | (with_reducible refine Kd.C_drewN ?_ _) | (with_reducible refine Kd.C_drew ?_)))
                    (case side2 => exact (Kd.R_reads' HO_7.out).2.1)
                    rintro e w' ⟨rfl, ⟨nd, rfl⟩⟩
                    refine ⟨_, rfl, ?_⟩
                    refine hK.out _ _ ⟨((HB.out.cell (World.block_lt_of_cell? w _ hw124_0)).trans hw124_0), ((HB.out.cell (World.block_lt_of_cell? w _ hw126_0)).trans hw126_0), ((HB.out.cell (World.block_lt_of_cell? w _ hw128_0)).trans hw128_0), ((HB.out.cell (World.block_lt_of_cell? w _ hw129_0)).trans hw129_0), ((HB.out.cell (World.block_lt_of_cell? w _ hw130_0)).trans hw130_0)⟩ (fun hHeld => ?_)
                    clear hK K
                    refine norm_ (a' := ?_) ?_ ?_
                    rotate_left
                    ·
                     show Act.put _ (some 78) _ = _
                     simp only [Act.put, εm, εn, εo, i64_w, i32_w]
                     rfl
                    refine pure_ (i := 36) (N := some 79) (v := ?_) (a' := ?_) ε37 rfl rfl (any_of HT_.out (by kernel_rfl)) (fun _ _ _ h => h) (Or.inl ⟨by rfl, ?_⟩) ?_ ?_
                    rotate_left; · (intro w'; go_simp; with_reducible rfl)
                    rotate_left; · (simp only [Act.put, εm, εn, εo, i64_w, i32_w]; rfl)
                    refine pure_ (i := 37) (N := some 80) (v := ?_) (a' := ?_) ε38 rfl rfl (any_of HT_.out (by kernel_rfl)) (fun _ _ _ h => h) (Or.inl ⟨by rfl, ?_⟩) ?_ ?_
                    rotate_left; · (intro w'; go_simp; with_reducible rfl)
                    rotate_left; · (simp only [Act.put, εm, εn, εo, i64_w, i32_w]; rfl)
                    refine pure_ (i := 38) (N := some 81) (v := undef) (a' := ?_) ε39 rfl rfl (any_of HT_.out (by kernel_rfl)) (fun _ _ _ h => h) (Or.inr ⟨by rfl, rfl⟩) ?_ ?_
                    rotate_left
                    ·
                     simp only [Act.put, εm, εn, εo, i64_w, i32_w]
                     rfl
                    refine pure_ (i := 39) (N := some 82) (v := undef) (a' := ?_) ε40 rfl rfl (any_of HT_.out (by kernel_rfl)) (fun _ _ _ h => h) (Or.inr ⟨by rfl, rfl⟩) ?_ ?_
                    rotate_left
                    ·
                     simp only [Act.put, εm, εn, εo, i64_w, i32_w]
                     rfl
                    refine pure_ (i := 40) (N := some 83) (v := undef) (a' := ?_) ε41 rfl rfl (any_of HT_.out (by kernel_rfl)) (fun _ _ _ h => h) (Or.inr ⟨by rfl, rfl⟩) ?_ ?_
                    rotate_left
                    ·
                     simp only [Act.put, εm, εn, εo, i64_w, i32_w]
                     rfl
                    refine pure_ (i := 41) (N := some 84) (v := undef) (a' := ?_) ε42 rfl rfl (any_of HT_.out (by kernel_rfl)) (fun _ _ _ h => h) (Or.inr ⟨by rfl, rfl⟩) ?_ ?_
                    rotate_left
                    ·
                     simp only [Act.put, εm, εn, εo, i64_w, i32_w]
                     rfl
                    refine pure_ (i := 42) (N := some 85) (v := undef) (a' := ?_) ε43 rfl rfl (any_of HT_.out (by kernel_rfl)) (fun _ _ _ h => h) (Or.inr ⟨by rfl, rfl⟩) ?_ ?_
                    rotate_left
                    ·
                     simp only [Act.put, εm, εn, εo, i64_w, i32_w]
                     rfl
                    refine pure_ (i := 43) (N := some 86) (v := ?_) (a' := ?_) ε44 rfl rfl (any_of HT_.out (by kernel_rfl)) (fun _ _ _ h => h) (Or.inl ⟨by rfl, ?_⟩) ?_ ?_
                    rotate_left; · (intro w'; go_simp; with_reducible rfl)
                    rotate_left; · (simp only [Act.put, εm, εn, εo, i64_w, i32_w]; rfl)
                    refine done_ (done_of HT_.out (by kernel_rfl)) ?_
                    try go_wp2
                    go_meet
                    case rel => exact ⟨_, (true), (by first | rfl | (simp; done) | (simp [*]; done)), H', ⟨by have := HK1.out; have := HK2.out; first | omega | exact Nat.le_refl _⟩, ⟨by (with_reducible repeat (first | apply εd | apply εe | apply εf)); exact HO_5.out⟩, ⟨by (with_reducible repeat (first | apply εd | apply εe | apply εf)); exact HO_7.out⟩, ⟨by repeat (first | (with_reducible first | exact HB.out | apply εj | apply εh | apply εi) | exact HB.out)⟩⟩
                   replace c28 := Bool.eq_false_iff.mpr c28
                   subst c28
                   have H1 : ((spec_l4Has.f k2 x7_2 (rd (rd_L1 (rd_L2 l0 x6_1) x8_2) 1)).bind fun t133 => (spec_MeetOnce.j2 k2 l0 a1 x5_2 x6_1 x7_2 x8_2 (rd_L1 (rd_L2 l0 x6_1) x8_2) t133)) = some r := by rw [if_neg (show ¬ (false = true) by decide)] at H; exact H
                   clear H
                   have H := H1
                   clear H1
                   replace H := Option.bind_eq_some_iff.mp H
                   obtain ⟨t133, A310, H⟩ := H
                   try dsimp only at H
                   have A31 := εp A310
                   clear A310
                   have H' := εp H
                   clear H
                   try go_wp2
                   have n0_ := εp (εf HO_5.out)
                   have n1_ := εp (εf HO_7.out)
                   have n2_ := εp (εi HB.out)
                   clear HO_5
                   clear HO_7
                   clear HB
                   have HO_5 := n0_
                   have HO_7 := n1_
                   have HB := n2_
                   clear n0_ n1_ n2_
                   have p124 : 0 ≤ (0 : Int) := (by omega)
                   have q124 : 0 < ((rd_L1 (rd_L2 l0 x6_1) x8_2).length : Int) := of_decide_eq_true (by first | (with_reducible assumption) | assumption)
                   obtain ⟨ad124, e124, hx124_0⟩ := Kd.at_int HR123_0.out 0 p124 q124
                   have hw124_0 := hx124_0
                   (try rw [show ((0 : Int)).toNat = 0 from rfl] at hw124_0)
                   (try rw [show 0 * 1 = 0 from rfl] at hw124_0)
                   (try rw [Addr.add_zero'] at hw124_0)
                   cases e124
                   have qi124 : (0 < (rd_L1 (rd_L2 l0 x6_1) x8_2).length) = True := eq_true (by omega)
                   (try rw [show ((0 : Int)).toNat = 0 from rfl] at hx124_0)
                   (try rw [Addr.add_zero'] at hx124_0)
                   replace hx124_0 := (HB.out.cell (World.block_lt_of_cell? w _ hx124_0)).trans hx124_0
                   replace p124 := eq_true p124
                   replace q124 := eq_true q124
                   have p126 : 0 ≤ (1 : Int) := (by omega)
                   have q126 : 1 < ((rd_L1 (rd_L2 l0 x6_1) x8_2).length : Int) := of_decide_eq_true (by first | (with_reducible assumption) | assumption)
                   obtain ⟨ad126, e126, hx126_0⟩ := Kd.at_int HR123_0.out 1 p126 q126
                   have hw126_0 := hx126_0
                   (try rw [show ((1 : Int)).toNat = 1 from rfl] at hw126_0)
                   (try rw [show 1 * 1 = 1 from rfl] at hw126_0)
                   (try simp only [Nat.reduceMul, Nat.reduceEqDiff, Go.Addr.add, ↓reduceIte] at hw126_0)
                   obtain rfl : ad124 = ad126 := (by injection e126)
                   (try simp only [show (1 : Int).toNat = 1 from rfl, Nat.reduceMul, Nat.reduceEqDiff, Go.Addr.add, ↓reduceIte] at hx126_0)
                   have qi126 : (1 < (rd_L1 (rd_L2 l0 x6_1) x8_2).length) = True := eq_true (by omega)
                   (try rw [show ((1 : Int)).toNat = 1 from rfl] at hx126_0)
                   replace hx126_0 := (HB.out.cell (World.block_lt_of_cell? w _ hx126_0)).trans hx126_0
                   replace p126 := eq_true p126
                   replace q126 := eq_true q126
                   have p128 : 0 ≤ (0 : Int) := (by omega)
                   have q128 : 0 < ((rd_L1 (rd_L2 l0 x6_1) x8_2).length : Int) := of_decide_eq_true (by first | (with_reducible assumption) | assumption)
                   obtain ⟨ad128, e128, hx128_0⟩ := Kd.at_int HR123_0.out 0 p128 q128
                   have hw128_0 := hx128_0
                   (try rw [show ((0 : Int)).toNat = 0 from rfl] at hw128_0)
                   (try rw [show 0 * 1 = 0 from rfl] at hw128_0)
                   (try rw [Addr.add_zero'] at hw128_0)
                   obtain rfl : ad124 = ad128 := (by injection e128)
                   have qi128 : (0 < (rd_L1 (rd_L2 l0 x6_1) x8_2).length) = True := eq_true (by omega)
                   (try rw [show ((0 : Int)).toNat = 0 from rfl] at hx128_0)
                   (try rw [Addr.add_zero'] at hx128_0)
                   replace hx128_0 := (HB.out.cell (World.block_lt_of_cell? w _ hx128_0)).trans hx128_0
                   replace p128 := eq_true p128
                   replace q128 := eq_true q128
                   have p129 : 0 ≤ (1 : Int) := (by omega)
                   have q129 : 1 < ((rd_L1 (rd_L2 l0 x6_1) x8_2).length : Int) := of_decide_eq_true (by first | (with_reducible assumption) | assumption)
                   obtain ⟨ad129, e129, hx129_0⟩ := Kd.at_int HR123_0.out 1 p129 q129
                   have hw129_0 := hx129_0
                   (try rw [show ((1 : Int)).toNat = 1 from rfl] at hw129_0)
                   (try rw [show 1 * 1 = 1 from rfl] at hw129_0)
                   (try simp only [Nat.reduceMul, Nat.reduceEqDiff, Go.Addr.add, ↓reduceIte] at hw129_0)
                   obtain rfl : ad124 = ad129 := (by injection e129)
                   (try simp only [show (1 : Int).toNat = 1 from rfl, Nat.reduceMul, Nat.reduceEqDiff, Go.Addr.add, ↓reduceIte] at hx129_0)
                   have qi129 : (1 < (rd_L1 (rd_L2 l0 x6_1) x8_2).length) = True := eq_true (by omega)
                   (try rw [show ((1 : Int)).toNat = 1 from rfl] at hx129_0)
                   replace hx129_0 := (HB.out.cell (World.block_lt_of_cell? w _ hx129_0)).trans hx129_0
                   replace p129 := eq_true p129
                   replace q129 := eq_true q129
                   have p130 : 0 ≤ (0 : Int) := (by omega)
                   have q130 : 0 < ((rd_L1 (rd_L2 l0 x6_1) x8_2).length : Int) := of_decide_eq_true (by first | (with_reducible assumption) | assumption)
                   obtain ⟨ad130, e130, hx130_0⟩ := Kd.at_int HR123_0.out 0 p130 q130
                   have hw130_0 := hx130_0
                   (try rw [show ((0 : Int)).toNat = 0 from rfl] at hw130_0)
                   (try rw [show 0 * 1 = 0 from rfl] at hw130_0)
                   (try rw [Addr.add_zero'] at hw130_0)
                   obtain rfl : ad124 = ad130 := (by injection e130)
                   have qi130 : (0 < (rd_L1 (rd_L2 l0 x6_1) x8_2).length) = True := eq_true (by omega)
                   (try rw [show ((0 : Int)).toNat = 0 from rfl] at hx130_0)
                   (try rw [Addr.add_zero'] at hx130_0)
                   replace hx130_0 := (HB.out.cell (World.block_lt_of_cell? w _ hx130_0)).trans hx130_0
                   replace p130 := eq_true p130
                   replace q130 := eq_true q130
                   have p132 : 0 ≤ (1 : Int) := (by omega)
                   have q132 : 1 < ((rd_L1 (rd_L2 l0 x6_1) x8_2).length : Int) := of_decide_eq_true (by first | (with_reducible assumption) | assumption)
                   obtain ⟨ad132, e132, hx132_0⟩ := Kd.at_int HR123_0.out 1 p132 q132
                   have hw132_0 := hx132_0
                   (try rw [show ((1 : Int)).toNat = 1 from rfl] at hw132_0)
                   (try rw [show 1 * 1 = 1 from rfl] at hw132_0)
                   (try simp only [Nat.reduceMul, Nat.reduceEqDiff, Go.Addr.add, ↓reduceIte] at hw132_0)
                   obtain rfl : ad124 = ad132 := (by injection e132)
                   (try simp only [show (1 : Int).toNat = 1 from rfl, Nat.reduceMul, Nat.reduceEqDiff, Go.Addr.add, ↓reduceIte] at hx132_0)
                   have qi132 : (1 < (rd_L1 (rd_L2 l0 x6_1) x8_2).length) = True := eq_true (by omega)
                   (try rw [show ((1 : Int)).toNat = 1 from rfl] at hx132_0)
                   replace hx132_0 := (HB.out.cell (World.block_lt_of_cell? w _ hx132_0)).trans hx132_0
                   replace p132 := eq_true p132
                   replace q132 := eq_true q132
                   refine start_ (n := 44) (S := fun w' => w'.cell? ad124 = some (.int .i64 (rd (rd_L1 (rd_L2 l0 x6_1) x8_2) 0)) ∧ w'.cell? ⟨ad124.block, ad124.off + 1, none⟩ = some (.int .i64 (rd (rd_L1 (rd_L2 l0 x6_1) x8_2) 1)) ∧ w'.cell? ad124 = some (.int .i64 (rd (rd_L1 (rd_L2 l0 x6_1) x8_2) 0)) ∧ w'.cell? ⟨ad124.block, ad124.off + 1, none⟩ = some (.int .i64 (rd (rd_L1 (rd_L2 l0 x6_1) x8_2) 1)) ∧ w'.cell? ad124 = some (.int .i64 (rd (rd_L1 (rd_L2 l0 x6_1) x8_2) 0)) ∧ w'.cell? ⟨ad124.block, ad124.off + 1, none⟩ = some (.int .i64 (rd (rd_L1 (rd_L2 l0 x6_1) x8_2) 1))) (ds := []) ε0 (by kernel_rfl) rfl rfl ⟨((HB.out.cell (World.block_lt_of_cell? w _ hw124_0)).trans hw124_0), ((HB.out.cell (World.block_lt_of_cell? w _ hw126_0)).trans hw126_0), ((HB.out.cell (World.block_lt_of_cell? w _ hw128_0)).trans hw128_0), ((HB.out.cell (World.block_lt_of_cell? w _ hw129_0)).trans hw129_0), ((HB.out.cell (World.block_lt_of_cell? w _ hw130_0)).trans hw130_0), ((HB.out.cell (World.block_lt_of_cell? w _ hw132_0)).trans hw132_0)⟩ (fun hHeld => ?_); refine with_tabW spec_MeetOnce.tab12 spec_MeetOnce.bits12 (fun HT_ HW_ => ?_)
                   generalize wr.drew = w32 at HO_5 HO_7 HB hx124_0 hx126_0 hx128_0 hx129_0 hx130_0 hx132_0 hHeld ⊢
                   refine pure_ (i := 0) (N := some 43) (v := ?_) (a' := ?_) ε1 rfl rfl (any_of HT_.out (by kernel_rfl)) (fun _ _ _ h => h) (Or.inl ⟨by rfl, ?_⟩) ?_ ?_
                   rotate_left; · (intro w'; go_simp; with_reducible rfl)
                   rotate_left; · (simp only [Act.put, εm, εn, εo, i64_w, i32_w]; rfl)
                   refine pure_ (i := 1) (N := some 44) (v := ?_) (a' := ?_) ε2 rfl rfl (any_of HT_.out (by kernel_rfl)) (fun _ _ _ h => h) (Or.inl ⟨by rfl, ?_⟩) ?_ ?_
                   rotate_left; · (intro w'; go_simp; with_reducible rfl)
                   rotate_left; · (simp only [Act.put, εm, εn, εo, i64_w, i32_w]; rfl)
                   refine pure_ (i := 2) (N := some 45) (v := ?_) (a' := ?_) ε3 rfl rfl (any_of HT_.out (by kernel_rfl)) (fun _ _ _ h => h) (Or.inl ⟨by rfl, ?_⟩) ?_ ?_
                   rotate_left; · (intro w'; go_simp; with_reducible rfl)
                   rotate_left; · (simp only [Act.put, εm, εn, εo, i64_w, i32_w]; rfl)
                   refine pure_ (i := 3) (N := some 46) (v := ?_) (a' := ?_) ε4 rfl rfl (any_of HT_.out (by kernel_rfl)) (fun _ _ _ h => h) (Or.inl ⟨by rfl, ?_⟩) ?_ ?_
                   rotate_left; · (intro w'; go_simp; with_reducible rfl)
                   rotate_left; · (simp only [Act.put, εm, εn, εo, i64_w, i32_w]; rfl)
                   refine pure_ (i := 4) (N := some 47) (v := ?_) (a' := ?_) ε5 rfl rfl (any_of HT_.out (by kernel_rfl)) (fun _ _ _ h => h) (Or.inl ⟨by rfl, ?_⟩) ?_ ?_
                   rotate_left; · (intro w'; go_simp; with_reducible rfl)
                   rotate_left; · (simp only [Act.put, εm, εn, εo, i64_w, i32_w]; rfl)
                   refine pure_ (i := 5) (N := some 48) (v := ?_) (a' := ?_) ε6 rfl rfl (any_of HT_.out (by kernel_rfl)) (fun _ _ _ h => h) (Or.inl ⟨by rfl, ?_⟩) ?_ ?_
                   rotate_left; · (intro w'; go_simp; with_reducible rfl)
                   rotate_left; · (simp only [Act.put, εm, εn, εo, i64_w, i32_w]; rfl)
                   refine pure_ (i := 7) (N := some 50) (v := ?_) (a' := ?_) ε7 rfl rfl (any_of HT_.out (by kernel_rfl)) (fun _ _ _ h => h) (Or.inl ⟨by rfl, ?_⟩) ?_ ?_
                   rotate_left; · (intro w'; go_simp; with_reducible rfl)
                   rotate_left; · (simp only [Act.put, εm, εn, εo, i64_w, i32_w]; rfl)
                   refine pure_ (i := 8) (N := some 51) (v := ?_) (a' := ?_) ε8 rfl rfl (any_of HT_.out (by kernel_rfl)) (fun _ _ _ h => h) (Or.inl ⟨by rfl, ?_⟩) ?_ ?_
                   rotate_left; · (intro w'; go_simp; with_reducible rfl)
                   rotate_left; · (simp only [Act.put, εm, εn, εo, i64_w, i32_w]; rfl)
                   refine take_ (i := 6) (N := some 49) (v := ?_) (a' := ?_) ε9 rfl rfl (take_ofW HT_.out HW_.out (by kernel_rfl)) (fun _ _ _ h => h) (Or.inl ⟨by rfl, ?_⟩) hHeld ?_ ?_
                   rotate_left
                   ·
                    rintro w' ⟨s0, s1, s2, s3, s4, s5⟩
                    go_simp
                    with_reducible rfl
                   rotate_left
                   ·
                    simp only [Act.put, εm, εn, εo, i64_w, i32_w]
                    rfl
                   refine one_ (i := 9) (N := some 52) ε10 rfl rfl (one_of HT_.out (by kernel_rfl)) (by decide) (fun K hK => ?_)
                   refine goes_ Try.func62 (by kernel_rfl) rfl #[.int .i64 (rd (rd_L1 (rd_L2 l0 x6_1) x8_2) 0), .int .i64 0, .int .i64 (wrap64 (a1 - 1))] (by rfl) rfl rfl (by (try simp only [List.map_toArray, List.map_cons, List.map_nil]); first | done | rfl | (simp only [List.length_drop, List.length_take]; rfl)) ?_
                   with_reducible refine (spec_l1In.calls (rd (rd_L1 (rd_L2 l0 x6_1) x8_2) 0) 0 (wrap64 (a1 - 1)) true _ A20.out).mono ?_
                   rintro e w' ⟨rfl, ⟨nd, rfl⟩⟩
                   refine ⟨_, rfl, ?_⟩
                   refine hK.out _ _ ⟨((HB.out.cell (World.block_lt_of_cell? w _ hw124_0)).trans hw124_0), ((HB.out.cell (World.block_lt_of_cell? w _ hw126_0)).trans hw126_0), ((HB.out.cell (World.block_lt_of_cell? w _ hw128_0)).trans hw128_0), ((HB.out.cell (World.block_lt_of_cell? w _ hw129_0)).trans hw129_0), ((HB.out.cell (World.block_lt_of_cell? w _ hw130_0)).trans hw130_0), ((HB.out.cell (World.block_lt_of_cell? w _ hw132_0)).trans hw132_0)⟩ (fun hHeld => ?_)
                   clear hK K
                   refine norm_ (a' := ?_) ?_ ?_
                   rotate_left
                   ·
                    show Act.put _ (some 52) _ = _
                    simp only [Act.put, εm, εn, εo, i64_w, i32_w]
                    rfl
                   refine pure_ (i := 10) (N := some 53) (v := ?_) (a' := ?_) ε11 rfl rfl (any_of HT_.out (by kernel_rfl)) (fun _ _ _ h => h) (Or.inl ⟨by rfl, ?_⟩) ?_ ?_
                   rotate_left; · (intro w'; go_simp; with_reducible rfl)
                   rotate_left; · (simp only [Act.put, εm, εn, εo, i64_w, i32_w]; rfl)
                   refine pure_ (i := 11) (N := some 54) (v := ?_) (a' := ?_) ε12 rfl rfl (any_of HT_.out (by kernel_rfl)) (fun _ _ _ h => h) (Or.inl ⟨by rfl, ?_⟩) ?_ ?_
                   rotate_left; · (intro w'; go_simp; with_reducible rfl)
                   rotate_left; · (simp only [Act.put, εm, εn, εo, i64_w, i32_w]; rfl)
                   refine pure_ (i := 12) (N := some 55) (v := ?_) (a' := ?_) ε13 rfl rfl (any_of HT_.out (by kernel_rfl)) (fun _ _ _ h => h) (Or.inl ⟨by rfl, ?_⟩) ?_ ?_
                   rotate_left; · (intro w'; go_simp; with_reducible rfl)
                   rotate_left; · (simp only [Act.put, εm, εn, εo, i64_w, i32_w]; rfl)
                   refine pure_ (i := 13) (N := some 56) (v := ?_) (a' := ?_) ε14 rfl rfl (any_of HT_.out (by kernel_rfl)) (fun _ _ _ h => h) (Or.inl ⟨by rfl, ?_⟩) ?_ ?_
                   rotate_left; · (intro w'; go_simp; with_reducible rfl)
                   rotate_left; · (simp only [Act.put, εm, εn, εo, i64_w, i32_w]; rfl)
                   refine pure_ (i := 14) (N := some 57) (v := ?_) (a' := ?_) ε15 rfl rfl (any_of HT_.out (by kernel_rfl)) (fun _ _ _ h => h) (Or.inl ⟨by rfl, ?_⟩) ?_ ?_
                   rotate_left; · (intro w'; go_simp; with_reducible rfl)
                   rotate_left; · (simp only [Act.put, εm, εn, εo, i64_w, i32_w]; rfl)
                   refine pure_ (i := 16) (N := some 59) (v := ?_) (a' := ?_) ε16 rfl rfl (any_of HT_.out (by kernel_rfl)) (fun _ _ _ h => h) (Or.inl ⟨by rfl, ?_⟩) ?_ ?_
                   rotate_left; · (intro w'; go_simp; with_reducible rfl)
                   rotate_left; · (simp only [Act.put, εm, εn, εo, i64_w, i32_w]; rfl)
                   refine pure_ (i := 17) (N := some 60) (v := ?_) (a' := ?_) ε17 rfl rfl (any_of HT_.out (by kernel_rfl)) (fun _ _ _ h => h) (Or.inl ⟨by rfl, ?_⟩) ?_ ?_
                   rotate_left; · (intro w'; go_simp; with_reducible rfl)
                   rotate_left; · (simp only [Act.put, εm, εn, εo, i64_w, i32_w]; rfl)
                   refine take_ (i := 15) (N := some 58) (v := ?_) (a' := ?_) ε18 rfl rfl (take_ofW HT_.out HW_.out (by kernel_rfl)) (fun _ _ _ h => h) (Or.inl ⟨by rfl, ?_⟩) hHeld ?_ ?_
                   rotate_left
                   ·
                    rintro w' ⟨s0, s1, s2, s3, s4, s5⟩
                    go_simp
                    with_reducible rfl
                   rotate_left
                   ·
                    simp only [Act.put, εm, εn, εo, i64_w, i32_w]
                    rfl
                   refine one_ (i := 18) (N := some 61) ε19 rfl rfl (one_of HT_.out (by kernel_rfl)) (by decide) (fun K hK => ?_)
                   refine goes_ Try.func62 (by kernel_rfl) rfl #[.int .i64 (rd (rd_L1 (rd_L2 l0 x6_1) x8_2) 1), .int .i64 0, .int .i64 (wrap64 (a1 - 1))] (by rfl) rfl rfl (by (try simp only [List.map_toArray, List.map_cons, List.map_nil]); first | done | rfl | (simp only [List.length_drop, List.length_take]; rfl)) ?_
                   with_reducible refine (spec_l1In.calls (rd (rd_L1 (rd_L2 l0 x6_1) x8_2) 1) 0 (wrap64 (a1 - 1)) true _ A23.out).mono ?_
                   rintro e w' ⟨rfl, ⟨nd, rfl⟩⟩
                   refine ⟨_, rfl, ?_⟩
                   obtain ⟨Ao33, co33, eo33⟩ := Kd.R_slice HO_7.out
                   (first | subst eo33 | (injection eo33 with f1_ f2_ f3_; have f4_ := f1_.symm; have f5_ := f3_.symm; clear f1_ f2_ f3_; subst f4_; subst f5_))
                   refine hK.out _ _ ⟨((HB.out.cell (World.block_lt_of_cell? w _ hw124_0)).trans hw124_0), ((HB.out.cell (World.block_lt_of_cell? w _ hw126_0)).trans hw126_0), ((HB.out.cell (World.block_lt_of_cell? w _ hw128_0)).trans hw128_0), ((HB.out.cell (World.block_lt_of_cell? w _ hw129_0)).trans hw129_0), ((HB.out.cell (World.block_lt_of_cell? w _ hw130_0)).trans hw130_0), ((HB.out.cell (World.block_lt_of_cell? w _ hw132_0)).trans hw132_0)⟩ (fun hHeld => ?_)
                   clear hK K
                   refine norm_ (a' := ?_) ?_ ?_
                   rotate_left
                   ·
                    show Act.put _ (some 61) _ = _
                    simp only [Act.put, εm, εn, εo, i64_w, i32_w]
                    rfl
                   refine pure_ (i := 19) (N := some 62) (v := ?_) (a' := ?_) ε20 rfl rfl (any_of HT_.out (by kernel_rfl)) (fun _ _ _ h => h) (Or.inl ⟨by rfl, ?_⟩) ?_ ?_
                   rotate_left; · (intro w'; go_simp; with_reducible rfl)
                   rotate_left; · (simp only [Act.put, εm, εn, εo, i64_w, i32_w]; rfl)
                   refine pure_ (i := 20) (N := some 63) (v := ?_) (a' := ?_) ε21 rfl rfl (any_of HT_.out (by kernel_rfl)) (fun _ _ _ h => h) (Or.inl ⟨by rfl, ?_⟩) ?_ ?_
                   rotate_left; · (intro w'; go_simp; with_reducible rfl)
                   rotate_left; · (simp only [Act.put, εm, εn, εo, i64_w, i32_w]; rfl)
                   refine pure_ (i := 21) (N := some 64) (v := ?_) (a' := ?_) ε22 rfl rfl (any_of HT_.out (by kernel_rfl)) (fun _ _ _ h => h) (Or.inl ⟨by rfl, ?_⟩) ?_ ?_
                   rotate_left; · (intro w'; go_simp; with_reducible rfl)
                   rotate_left; · (simp only [Act.put, εm, εn, εo, i64_w, i32_w]; rfl)
                   refine pure_ (i := 22) (N := some 65) (v := ?_) (a' := ?_) ε23 rfl rfl (any_of HT_.out (by kernel_rfl)) (fun _ _ _ h => h) (Or.inl ⟨by rfl, ?_⟩) ?_ ?_
                   rotate_left; · (intro w'; go_simp; with_reducible rfl)
                   rotate_left; · (simp only [Act.put, εm, εn, εo, i64_w, i32_w]; rfl)
                   refine pure_ (i := 23) (N := some 66) (v := ?_) (a' := ?_) ε24 rfl rfl (any_of HT_.out (by kernel_rfl)) (fun _ _ _ h => h) (Or.inl ⟨by rfl, ?_⟩) ?_ ?_
                   rotate_left; · (intro w'; go_simp; with_reducible rfl)
                   rotate_left; · (simp only [Act.put, εm, εn, εo, i64_w, i32_w]; rfl)
                   refine pure_ (i := 25) (N := some 68) (v := ?_) (a' := ?_) ε25 rfl rfl (any_of HT_.out (by kernel_rfl)) (fun _ _ _ h => h) (Or.inl ⟨by rfl, ?_⟩) ?_ ?_
                   rotate_left; · (intro w'; go_simp; with_reducible rfl)
                   rotate_left; · (simp only [Act.put, εm, εn, εo, i64_w, i32_w]; rfl)
                   refine pure_ (i := 26) (N := some 69) (v := ?_) (a' := ?_) ε26 rfl rfl (any_of HT_.out (by kernel_rfl)) (fun _ _ _ h => h) (Or.inl ⟨by rfl, ?_⟩) ?_ ?_
                   rotate_left; · (intro w'; go_simp; with_reducible rfl)
                   rotate_left; · (simp only [Act.put, εm, εn, εo, i64_w, i32_w]; rfl)
                   refine take_ (i := 24) (N := some 67) (v := ?_) (a' := ?_) ε27 rfl rfl (take_ofW HT_.out HW_.out (by kernel_rfl)) (fun _ _ _ h => h) (Or.inl ⟨by rfl, ?_⟩) hHeld ?_ ?_
                   rotate_left
                   ·
                    rintro w' ⟨s0, s1, s2, s3, s4, s5⟩
                    go_simp
                    with_reducible rfl
                   rotate_left
                   ·
                    simp only [Act.put, εm, εn, εo, i64_w, i32_w]
                    rfl
                   refine take_ (i := 27) (N := some 70) (v := ?_) (a' := ?_) ε28 rfl rfl (take_ofW HT_.out HW_.out (by kernel_rfl)) (fun _ _ _ h => h) (Or.inl ⟨by rfl, ?_⟩) hHeld ?_ ?_
                   rotate_left
                   ·
                    rintro w' ⟨s0, s1, s2, s3, s4, s5⟩
                    go_simp
                    with_reducible rfl
                   rotate_left
                   ·
                    simp only [Act.put, εm, εn, εo, i64_w, i32_w]
                    rfl
                   refine pure_ (i := 28) (N := some 71) (v := ?_) (a' := ?_) ε29 rfl rfl (any_of HT_.out (by kernel_rfl)) (fun _ _ _ h => h) (Or.inl ⟨by rfl, ?_⟩) ?_ ?_
                   rotate_left; · (intro w'; go_simp; with_reducible rfl)
                   rotate_left; · (simp only [Act.put, εm, εn, εo, i64_w, i32_w]; rfl)
                   refine pure_ (i := 29) (N := some 72) (v := ?_) (a' := ?_) ε30 rfl rfl (any_of HT_.out (by kernel_rfl)) (fun _ _ _ h => h) (Or.inl ⟨by rfl, ?_⟩) ?_ ?_
                   rotate_left; · (intro w'; go_simp; with_reducible rfl)
                   rotate_left; · (simp only [Act.put, εm, εn, εo, i64_w, i32_w]; rfl)
                   refine pure_ (i := 30) (N := some 73) (v := ?_) (a' := ?_) ε31 rfl rfl (any_of HT_.out (by kernel_rfl)) (fun _ _ _ h => h) (Or.inl ⟨by rfl, ?_⟩) ?_ ?_
                   rotate_left; · (intro w'; go_simp; with_reducible rfl)
                   rotate_left; · (simp only [Act.put, εm, εn, εo, i64_w, i32_w]; rfl)
                   refine pure_ (i := 31) (N := some 74) (v := ?_) (a' := ?_) ε32 rfl rfl (any_of HT_.out (by kernel_rfl)) (fun _ _ _ h => h) (Or.inl ⟨by rfl, ?_⟩) ?_ ?_
                   rotate_left; · (intro w'; go_simp; with_reducible rfl)
                   rotate_left; · (simp only [Act.put, εm, εn, εo, i64_w, i32_w]; rfl)
                   refine pure_ (i := 32) (N := some 75) (v := ?_) (a' := ?_) ε33 rfl rfl (any_of HT_.out (by kernel_rfl)) (fun _ _ _ h => h) (Or.inl ⟨by rfl, ?_⟩) ?_ ?_
                   rotate_left; · (intro w'; go_simp; with_reducible rfl)
                   rotate_left; · (simp only [Act.put, εm, εn, εo, i64_w, i32_w]; rfl)
                   refine pure_ (i := 33) (N := some 76) (v := ?_) (a' := ?_) ε34 rfl rfl (any_of HT_.out (by kernel_rfl)) (fun _ _ _ h => h) (Or.inl ⟨by rfl, ?_⟩) ?_ ?_
                   rotate_left; · (intro w'; go_simp; with_reducible rfl)
                   rotate_left; · (simp only [Act.put, εm, εn, εo, i64_w, i32_w]; rfl)
                   refine take_ (i := 34) (N := some 77) (v := ?_) (a' := ?_) ε35 rfl rfl (take_ofW HT_.out HW_.out (by kernel_rfl)) (fun _ _ _ h => h) (Or.inl ⟨by rfl, ?_⟩) hHeld ?_ ?_
                   rotate_left
                   ·
                    rintro w' ⟨s0, s1, s2, s3, s4, s5⟩
                    go_simp
                    with_reducible rfl
                   rotate_left
                   ·
                    simp only [Act.put, εm, εn, εo, i64_w, i32_w]
                    rfl
                   refine one_ (i := 35) (N := some 78) ε36 rfl rfl (one_of HT_.out (by kernel_rfl)) (by decide) (fun K hK => ?_)
                   refine goes_ Try.func82 (by kernel_rfl) rfl #[.slice Ao33 x7_2.length co33, .int .i64 (rd (rd_L1 (rd_L2 l0 x6_1) x8_2) 0)] (by rfl) rfl rfl (by (try simp only [List.map_toArray, List.map_cons, List.map_nil]); first | done | rfl | (simp only [List.length_drop, List.length_take]; rfl)) ?_
                   with_reducible refine (spec_l4Has.calls k2 _ _ x7_2 (rd (rd_L1 (rd_L2 l0 x6_1) x8_2) 0) false _ ?side1 ?side2 A27.out).mono ?_
                   (case side1 => repeat (first | exact (Kd.R_reads' HO_7.out).2.2 | (with_reducible refine Kd.C_alloc ?_ _) | (with_reducible refine Kd.C_drewN ?_ _) | (with_reducible refine Kd.C_drew ?_)))
                   (case side2 => exact (Kd.R_reads' HO_7.out).2.1)
                   rintro e w' ⟨rfl, ⟨nd, rfl⟩⟩
                   refine ⟨_, rfl, ?_⟩
                   refine hK.out _ _ ⟨((HB.out.cell (World.block_lt_of_cell? w _ hw124_0)).trans hw124_0), ((HB.out.cell (World.block_lt_of_cell? w _ hw126_0)).trans hw126_0), ((HB.out.cell (World.block_lt_of_cell? w _ hw128_0)).trans hw128_0), ((HB.out.cell (World.block_lt_of_cell? w _ hw129_0)).trans hw129_0), ((HB.out.cell (World.block_lt_of_cell? w _ hw130_0)).trans hw130_0), ((HB.out.cell (World.block_lt_of_cell? w _ hw132_0)).trans hw132_0)⟩ (fun hHeld => ?_)
                   clear hK K
                   refine norm_ (a' := ?_) ?_ ?_
                   rotate_left
                   ·
                    show Act.put _ (some 78) _ = _
                    simp only [Act.put, εm, εn, εo, i64_w, i32_w]
                    rfl
                   refine pure_ (i := 36) (N := some 79) (v := ?_) (a' := ?_) ε37 rfl rfl (any_of HT_.out (by kernel_rfl)) (fun _ _ _ h => h) (Or.inl ⟨by rfl, ?_⟩) ?_ ?_
                   rotate_left; · (intro w'; go_simp; with_reducible rfl)
                   rotate_left; · (simp only [Act.put, εm, εn, εo, i64_w, i32_w]; rfl)
                   refine pure_ (i := 37) (N := some 80) (v := ?_) (a' := ?_) ε38 rfl rfl (any_of HT_.out (by kernel_rfl)) (fun _ _ _ h => h) (Or.inl ⟨by rfl, ?_⟩) ?_ ?_
                   rotate_left; · (intro w'; go_simp; with_reducible rfl)
                   rotate_left; · (simp only [Act.put, εm, εn, εo, i64_w, i32_w]; rfl)
                   refine pure_ (i := 38) (N := some 81) (v := ?_) (a' := ?_) ε39 rfl rfl (any_of HT_.out (by kernel_rfl)) (fun _ _ _ h => h) (Or.inl ⟨by rfl, ?_⟩) ?_ ?_
                   rotate_left; · (intro w'; go_simp; with_reducible rfl)
                   rotate_left; · (simp only [Act.put, εm, εn, εo, i64_w, i32_w]; rfl)
                   refine pure_ (i := 39) (N := some 82) (v := ?_) (a' := ?_) ε40 rfl rfl (any_of HT_.out (by kernel_rfl)) (fun _ _ _ h => h) (Or.inl ⟨by rfl, ?_⟩) ?_ ?_
                   rotate_left; · (intro w'; go_simp; with_reducible rfl)
                   rotate_left; · (simp only [Act.put, εm, εn, εo, i64_w, i32_w]; rfl)
                   refine pure_ (i := 40) (N := some 83) (v := ?_) (a' := ?_) ε41 rfl rfl (any_of HT_.out (by kernel_rfl)) (fun _ _ _ h => h) (Or.inl ⟨by rfl, ?_⟩) ?_ ?_
                   rotate_left; · (intro w'; go_simp; with_reducible rfl)
                   rotate_left; · (simp only [Act.put, εm, εn, εo, i64_w, i32_w]; rfl)
                   refine take_ (i := 41) (N := some 84) (v := ?_) (a' := ?_) ε42 rfl rfl (take_ofW HT_.out HW_.out (by kernel_rfl)) (fun _ _ _ h => h) (Or.inl ⟨by rfl, ?_⟩) hHeld ?_ ?_
                   rotate_left
                   ·
                    rintro w' ⟨s0, s1, s2, s3, s4, s5⟩
                    go_simp
                    with_reducible rfl
                   rotate_left
                   ·
                    simp only [Act.put, εm, εn, εo, i64_w, i32_w]
                    rfl
                   refine one_ (i := 42) (N := some 85) ε43 rfl rfl (one_of HT_.out (by kernel_rfl)) (by decide) (fun K hK => ?_)
                   refine goes_ Try.func82 (by kernel_rfl) rfl #[.slice Ao33 x7_2.length co33, .int .i64 (rd (rd_L1 (rd_L2 l0 x6_1) x8_2) 1)] (by rfl) rfl rfl (by (try simp only [List.map_toArray, List.map_cons, List.map_nil]); first | done | rfl | (simp only [List.length_drop, List.length_take]; rfl)) ?_
                   with_reducible refine (spec_l4Has.calls k2 _ _ x7_2 (rd (rd_L1 (rd_L2 l0 x6_1) x8_2) 1) t133 _ ?side1 ?side2 A31.out).mono ?_
                   (case side1 => repeat (first | exact (Kd.R_reads' HO_7.out).2.2 | (with_reducible refine Kd.C_alloc ?_ _) | (with_reducible refine Kd.C_drewN ?_ _) | (with_reducible refine Kd.C_drew ?_)))
                   (case side2 => exact (Kd.R_reads' HO_7.out).2.1)
                   rintro e w' ⟨rfl, ⟨nd, rfl⟩⟩
                   refine ⟨_, rfl, ?_⟩
                   refine hK.out _ _ ⟨((HB.out.cell (World.block_lt_of_cell? w _ hw124_0)).trans hw124_0), ((HB.out.cell (World.block_lt_of_cell? w _ hw126_0)).trans hw126_0), ((HB.out.cell (World.block_lt_of_cell? w _ hw128_0)).trans hw128_0), ((HB.out.cell (World.block_lt_of_cell? w _ hw129_0)).trans hw129_0), ((HB.out.cell (World.block_lt_of_cell? w _ hw130_0)).trans hw130_0), ((HB.out.cell (World.block_lt_of_cell? w _ hw132_0)).trans hw132_0)⟩ (fun hHeld => ?_)
                   clear hK K
                   refine norm_ (a' := ?_) ?_ ?_
                   rotate_left
                   ·
                    show Act.put _ (some 85) _ = _
                    simp only [Act.put, εm, εn, εo, i64_w, i32_w]
                    rfl
                   refine pure_ (i := 43) (N := some 86) (v := ?_) (a' := ?_) ε44 rfl rfl (any_of HT_.out (by kernel_rfl)) (fun _ _ _ h => h) (Or.inl ⟨by rfl, ?_⟩) ?_ ?_
                   rotate_left; · (intro w'; go_simp; with_reducible rfl)
                   rotate_left; · (simp only [Act.put, εm, εn, εo, i64_w, i32_w]; rfl)
                   refine done_ (done_of HT_.out (by kernel_rfl)) ?_
                   try go_wp2
                   go_meet
                   case rel => exact ⟨_, (t133), (by first | rfl | (simp; done) | (simp [*]; done)), H', ⟨by have := HK1.out; have := HK2.out; first | omega | exact Nat.le_refl _⟩, ⟨by (with_reducible repeat (first | apply εd | apply εe | apply εf)); exact HO_5.out⟩, ⟨by (with_reducible repeat (first | apply εd | apply εe | apply εf)); exact HO_7.out⟩, ⟨by repeat (first | (with_reducible first | exact HB.out | apply εj | apply εh | apply εi) | exact HB.out)⟩⟩
                  replace c24 := Bool.eq_false_iff.mpr c24
                  subst c24
                  have H1 : (spec_MeetOnce.j2 k2 l0 a1 x5_2 x6_1 x7_2 x8_2 (rd_L1 (rd_L2 l0 x6_1) x8_2) true) = some r := by rw [if_neg (show ¬ (false = true) by decide)] at H; exact H
                  clear H
                  have H := H1
                  clear H1
                  have H' := εp H
                  clear H
                  try go_wp2
                  have n0_ := εp (εf HO_5.out)
                  have n1_ := εp (εf HO_7.out)
                  have n2_ := εp (εi HB.out)
                  clear HO_5
                  clear HO_7
                  clear HB
                  have HO_5 := n0_
                  have HO_7 := n1_
                  have HB := n2_
                  clear n0_ n1_ n2_
                  have p124 : 0 ≤ (0 : Int) := (by omega)
                  have q124 : 0 < ((rd_L1 (rd_L2 l0 x6_1) x8_2).length : Int) := of_decide_eq_true (by first | (with_reducible assumption) | assumption)
                  obtain ⟨ad124, e124, hx124_0⟩ := Kd.at_int HR123_0.out 0 p124 q124
                  have hw124_0 := hx124_0
                  (try rw [show ((0 : Int)).toNat = 0 from rfl] at hw124_0)
                  (try rw [show 0 * 1 = 0 from rfl] at hw124_0)
                  (try rw [Addr.add_zero'] at hw124_0)
                  cases e124
                  have qi124 : (0 < (rd_L1 (rd_L2 l0 x6_1) x8_2).length) = True := eq_true (by omega)
                  (try rw [show ((0 : Int)).toNat = 0 from rfl] at hx124_0)
                  (try rw [Addr.add_zero'] at hx124_0)
                  replace hx124_0 := (HB.out.cell (World.block_lt_of_cell? w _ hx124_0)).trans hx124_0
                  replace p124 := eq_true p124
                  replace q124 := eq_true q124
                  have p126 : 0 ≤ (1 : Int) := (by omega)
                  have q126 : 1 < ((rd_L1 (rd_L2 l0 x6_1) x8_2).length : Int) := of_decide_eq_true (by first | (with_reducible assumption) | assumption)
                  obtain ⟨ad126, e126, hx126_0⟩ := Kd.at_int HR123_0.out 1 p126 q126
                  have hw126_0 := hx126_0
                  (try rw [show ((1 : Int)).toNat = 1 from rfl] at hw126_0)
                  (try rw [show 1 * 1 = 1 from rfl] at hw126_0)
                  (try simp only [Nat.reduceMul, Nat.reduceEqDiff, Go.Addr.add, ↓reduceIte] at hw126_0)
                  obtain rfl : ad124 = ad126 := (by injection e126)
                  (try simp only [show (1 : Int).toNat = 1 from rfl, Nat.reduceMul, Nat.reduceEqDiff, Go.Addr.add, ↓reduceIte] at hx126_0)
                  have qi126 : (1 < (rd_L1 (rd_L2 l0 x6_1) x8_2).length) = True := eq_true (by omega)
                  (try rw [show ((1 : Int)).toNat = 1 from rfl] at hx126_0)
                  replace hx126_0 := (HB.out.cell (World.block_lt_of_cell? w _ hx126_0)).trans hx126_0
                  replace p126 := eq_true p126
                  replace q126 := eq_true q126
                  refine start_ (n := 44) (S := fun w' => w'.cell? ad124 = some (.int .i64 (rd (rd_L1 (rd_L2 l0 x6_1) x8_2) 0)) ∧ w'.cell? ⟨ad124.block, ad124.off + 1, none⟩ = some (.int .i64 (rd (rd_L1 (rd_L2 l0 x6_1) x8_2) 1))) (ds := []) ε0 (by kernel_rfl) rfl rfl ⟨((HB.out.cell (World.block_lt_of_cell? w _ hw124_0)).trans hw124_0), ((HB.out.cell (World.block_lt_of_cell? w _ hw126_0)).trans hw126_0)⟩ (fun hHeld => ?_); refine with_tabW spec_MeetOnce.tab12 spec_MeetOnce.bits12 (fun HT_ HW_ => ?_)
                  generalize wr.drew = w34 at HO_5 HO_7 HB hx124_0 hx126_0 hHeld ⊢
                  refine pure_ (i := 0) (N := some 43) (v := ?_) (a' := ?_) ε1 rfl rfl (any_of HT_.out (by kernel_rfl)) (fun _ _ _ h => h) (Or.inl ⟨by rfl, ?_⟩) ?_ ?_
                  rotate_left; · (intro w'; go_simp; with_reducible rfl)
                  rotate_left; · (simp only [Act.put, εm, εn, εo, i64_w, i32_w]; rfl)
                  refine pure_ (i := 1) (N := some 44) (v := ?_) (a' := ?_) ε2 rfl rfl (any_of HT_.out (by kernel_rfl)) (fun _ _ _ h => h) (Or.inl ⟨by rfl, ?_⟩) ?_ ?_
                  rotate_left; · (intro w'; go_simp; with_reducible rfl)
                  rotate_left; · (simp only [Act.put, εm, εn, εo, i64_w, i32_w]; rfl)
                  refine pure_ (i := 2) (N := some 45) (v := ?_) (a' := ?_) ε3 rfl rfl (any_of HT_.out (by kernel_rfl)) (fun _ _ _ h => h) (Or.inl ⟨by rfl, ?_⟩) ?_ ?_
                  rotate_left; · (intro w'; go_simp; with_reducible rfl)
                  rotate_left; · (simp only [Act.put, εm, εn, εo, i64_w, i32_w]; rfl)
                  refine pure_ (i := 3) (N := some 46) (v := ?_) (a' := ?_) ε4 rfl rfl (any_of HT_.out (by kernel_rfl)) (fun _ _ _ h => h) (Or.inl ⟨by rfl, ?_⟩) ?_ ?_
                  rotate_left; · (intro w'; go_simp; with_reducible rfl)
                  rotate_left; · (simp only [Act.put, εm, εn, εo, i64_w, i32_w]; rfl)
                  refine pure_ (i := 4) (N := some 47) (v := ?_) (a' := ?_) ε5 rfl rfl (any_of HT_.out (by kernel_rfl)) (fun _ _ _ h => h) (Or.inl ⟨by rfl, ?_⟩) ?_ ?_
                  rotate_left; · (intro w'; go_simp; with_reducible rfl)
                  rotate_left; · (simp only [Act.put, εm, εn, εo, i64_w, i32_w]; rfl)
                  refine pure_ (i := 5) (N := some 48) (v := ?_) (a' := ?_) ε6 rfl rfl (any_of HT_.out (by kernel_rfl)) (fun _ _ _ h => h) (Or.inl ⟨by rfl, ?_⟩) ?_ ?_
                  rotate_left; · (intro w'; go_simp; with_reducible rfl)
                  rotate_left; · (simp only [Act.put, εm, εn, εo, i64_w, i32_w]; rfl)
                  refine pure_ (i := 7) (N := some 50) (v := ?_) (a' := ?_) ε7 rfl rfl (any_of HT_.out (by kernel_rfl)) (fun _ _ _ h => h) (Or.inl ⟨by rfl, ?_⟩) ?_ ?_
                  rotate_left; · (intro w'; go_simp; with_reducible rfl)
                  rotate_left; · (simp only [Act.put, εm, εn, εo, i64_w, i32_w]; rfl)
                  refine pure_ (i := 8) (N := some 51) (v := ?_) (a' := ?_) ε8 rfl rfl (any_of HT_.out (by kernel_rfl)) (fun _ _ _ h => h) (Or.inl ⟨by rfl, ?_⟩) ?_ ?_
                  rotate_left; · (intro w'; go_simp; with_reducible rfl)
                  rotate_left; · (simp only [Act.put, εm, εn, εo, i64_w, i32_w]; rfl)
                  refine take_ (i := 6) (N := some 49) (v := ?_) (a' := ?_) ε9 rfl rfl (take_ofW HT_.out HW_.out (by kernel_rfl)) (fun _ _ _ h => h) (Or.inl ⟨by rfl, ?_⟩) hHeld ?_ ?_
                  rotate_left
                  ·
                   rintro w' ⟨s0, s1⟩
                   go_simp
                   with_reducible rfl
                  rotate_left
                  ·
                   simp only [Act.put, εm, εn, εo, i64_w, i32_w]
                   rfl
                  refine one_ (i := 9) (N := some 52) ε10 rfl rfl (one_of HT_.out (by kernel_rfl)) (by decide) (fun K hK => ?_)
                  refine goes_ Try.func62 (by kernel_rfl) rfl #[.int .i64 (rd (rd_L1 (rd_L2 l0 x6_1) x8_2) 0), .int .i64 0, .int .i64 (wrap64 (a1 - 1))] (by rfl) rfl rfl (by (try simp only [List.map_toArray, List.map_cons, List.map_nil]); first | done | rfl | (simp only [List.length_drop, List.length_take]; rfl)) ?_
                  with_reducible refine (spec_l1In.calls (rd (rd_L1 (rd_L2 l0 x6_1) x8_2) 0) 0 (wrap64 (a1 - 1)) true _ A20.out).mono ?_
                  rintro e w' ⟨rfl, ⟨nd, rfl⟩⟩
                  refine ⟨_, rfl, ?_⟩
                  refine hK.out _ _ ⟨((HB.out.cell (World.block_lt_of_cell? w _ hw124_0)).trans hw124_0), ((HB.out.cell (World.block_lt_of_cell? w _ hw126_0)).trans hw126_0)⟩ (fun hHeld => ?_)
                  clear hK K
                  refine norm_ (a' := ?_) ?_ ?_
                  rotate_left
                  ·
                   show Act.put _ (some 52) _ = _
                   simp only [Act.put, εm, εn, εo, i64_w, i32_w]
                   rfl
                  refine pure_ (i := 10) (N := some 53) (v := ?_) (a' := ?_) ε11 rfl rfl (any_of HT_.out (by kernel_rfl)) (fun _ _ _ h => h) (Or.inl ⟨by rfl, ?_⟩) ?_ ?_
                  rotate_left; · (intro w'; go_simp; with_reducible rfl)
                  rotate_left; · (simp only [Act.put, εm, εn, εo, i64_w, i32_w]; rfl)
                  refine pure_ (i := 11) (N := some 54) (v := ?_) (a' := ?_) ε12 rfl rfl (any_of HT_.out (by kernel_rfl)) (fun _ _ _ h => h) (Or.inl ⟨by rfl, ?_⟩) ?_ ?_
                  rotate_left; · (intro w'; go_simp; with_reducible rfl)
                  rotate_left; · (simp only [Act.put, εm, εn, εo, i64_w, i32_w]; rfl)
                  refine pure_ (i := 12) (N := some 55) (v := ?_) (a' := ?_) ε13 rfl rfl (any_of HT_.out (by kernel_rfl)) (fun _ _ _ h => h) (Or.inl ⟨by rfl, ?_⟩) ?_ ?_
                  rotate_left; · (intro w'; go_simp; with_reducible rfl)
                  rotate_left; · (simp only [Act.put, εm, εn, εo, i64_w, i32_w]; rfl)
                  refine pure_ (i := 13) (N := some 56) (v := ?_) (a' := ?_) ε14 rfl rfl (any_of HT_.out (by kernel_rfl)) (fun _ _ _ h => h) (Or.inl ⟨by rfl, ?_⟩) ?_ ?_
                  rotate_left; · (intro w'; go_simp; with_reducible rfl)
                  rotate_left; · (simp only [Act.put, εm, εn, εo, i64_w, i32_w]; rfl)
                  refine pure_ (i := 14) (N := some 57) (v := ?_) (a' := ?_) ε15 rfl rfl (any_of HT_.out (by kernel_rfl)) (fun _ _ _ h => h) (Or.inl ⟨by rfl, ?_⟩) ?_ ?_
                  rotate_left; · (intro w'; go_simp; with_reducible rfl)
                  rotate_left; · (simp only [Act.put, εm, εn, εo, i64_w, i32_w]; rfl)
                  refine pure_ (i := 16) (N := some 59) (v := ?_) (a' := ?_) ε16 rfl rfl (any_of HT_.out (by kernel_rfl)) (fun _ _ _ h => h) (Or.inl ⟨by rfl, ?_⟩) ?_ ?_
                  rotate_left; · (intro w'; go_simp; with_reducible rfl)
                  rotate_left; · (simp only [Act.put, εm, εn, εo, i64_w, i32_w]; rfl)
                  refine pure_ (i := 17) (N := some 60) (v := ?_) (a' := ?_) ε17 rfl rfl (any_of HT_.out (by kernel_rfl)) (fun _ _ _ h => h) (Or.inl ⟨by rfl, ?_⟩) ?_ ?_
                  rotate_left; · (intro w'; go_simp; with_reducible rfl)
                  rotate_left; · (simp only [Act.put, εm, εn, εo, i64_w, i32_w]; rfl)
                  refine take_ (i := 15) (N := some 58) (v := ?_) (a' := ?_) ε18 rfl rfl (take_ofW HT_.out HW_.out (by kernel_rfl)) (fun _ _ _ h => h) (Or.inl ⟨by rfl, ?_⟩) hHeld ?_ ?_
                  rotate_left
                  ·
                   rintro w' ⟨s0, s1⟩
                   go_simp
                   with_reducible rfl
                  rotate_left
                  ·
                   simp only [Act.put, εm, εn, εo, i64_w, i32_w]
                   rfl
                  refine one_ (i := 18) (N := some 61) ε19 rfl rfl (one_of HT_.out (by kernel_rfl)) (by decide) (fun K hK => ?_)
                  refine goes_ Try.func62 (by kernel_rfl) rfl #[.int .i64 (rd (rd_L1 (rd_L2 l0 x6_1) x8_2) 1), .int .i64 0, .int .i64 (wrap64 (a1 - 1))] (by rfl) rfl rfl (by (try simp only [List.map_toArray, List.map_cons, List.map_nil]); first | done | rfl | (simp only [List.length_drop, List.length_take]; rfl)) ?_
                  with_reducible refine (spec_l1In.calls (rd (rd_L1 (rd_L2 l0 x6_1) x8_2) 1) 0 (wrap64 (a1 - 1)) false _ A23.out).mono ?_
                  rintro e w' ⟨rfl, ⟨nd, rfl⟩⟩
                  refine ⟨_, rfl, ?_⟩
                  refine hK.out _ _ ⟨((HB.out.cell (World.block_lt_of_cell? w _ hw124_0)).trans hw124_0), ((HB.out.cell (World.block_lt_of_cell? w _ hw126_0)).trans hw126_0)⟩ (fun hHeld => ?_)
                  clear hK K
                  refine norm_ (a' := ?_) ?_ ?_
                  rotate_left
                  ·
                   show Act.put _ (some 61) _ = _
                   simp only [Act.put, εm, εn, εo, i64_w, i32_w]
                   rfl
                  refine pure_ (i := 19) (N := some 62) (v := ?_) (a' := ?_) ε20 rfl rfl (any_of HT_.out (by kernel_rfl)) (fun _ _ _ h => h) (Or.inl ⟨by rfl, ?_⟩) ?_ ?_
                  rotate_left; · (intro w'; go_simp; with_reducible rfl)
                  rotate_left; · (simp only [Act.put, εm, εn, εo, i64_w, i32_w]; rfl)
                  refine pure_ (i := 20) (N := some 63) (v := ?_) (a' := ?_) ε21 rfl rfl (any_of HT_.out (by kernel_rfl)) (fun _ _ _ h => h) (Or.inl ⟨by rfl, ?_⟩) ?_ ?_
                  rotate_left; · (intro w'; go_simp; with_reducible rfl)
                  rotate_left; · (simp only [Act.put, εm, εn, εo, i64_w, i32_w]; rfl)
                  refine pure_ (i := 21) (N := some 64) (v := ?_) (a' := ?_) ε22 rfl rfl (any_of HT_.out (by kernel_rfl)) (fun _ _ _ h => h) (Or.inl ⟨by rfl, ?_⟩) ?_ ?_
                  rotate_left; · (intro w'; go_simp; with_reducible rfl)
                  rotate_left; · (simp only [Act.put, εm, εn, εo, i64_w, i32_w]; rfl)
                  refine pure_ (i := 22) (N := some 65) (v := undef) (a' := ?_) ε23 rfl rfl (any_of HT_.out (by kernel_rfl)) (fun _ _ _ h => h) (Or.inr ⟨by rfl, rfl⟩) ?_ ?_
                  rotate_left
                  ·
                   simp only [Act.put, εm, εn, εo, i64_w, i32_w]
                   rfl
                  refine pure_ (i := 23) (N := some 66) (v := undef) (a' := ?_) ε24 rfl rfl (any_of HT_.out (by kernel_rfl)) (fun _ _ _ h => h) (Or.inr ⟨by rfl, rfl⟩) ?_ ?_
                  rotate_left
                  ·
                   simp only [Act.put, εm, εn, εo, i64_w, i32_w]
                   rfl
                  refine pure_ (i := 24) (N := some 67) (v := undef) (a' := ?_) ε45 rfl rfl (any_of HT_.out (by kernel_rfl)) (fun _ _ _ h => h) (Or.inr ⟨by rfl, rfl⟩) ?_ ?_
                  rotate_left
                  ·
                   simp only [Act.put, εm, εn, εo, i64_w, i32_w]
                   rfl
                  refine pure_ (i := 25) (N := some 68) (v := undef) (a' := ?_) ε46 rfl rfl (any_of HT_.out (by kernel_rfl)) (fun _ _ _ h => h) (Or.inr ⟨by rfl, rfl⟩) ?_ ?_
                  rotate_left
                  ·
                   simp only [Act.put, εm, εn, εo, i64_w, i32_w]
                   rfl
                  refine pure_ (i := 26) (N := some 69) (v := undef) (a' := ?_) ε27 rfl rfl (any_of HT_.out (by kernel_rfl)) (fun _ _ _ h => h) (Or.inr ⟨by rfl, rfl⟩) ?_ ?_
                  rotate_left
                  ·
                   simp only [Act.put, εm, εn, εo, i64_w, i32_w]
                   rfl
                  refine pure_ (i := 27) (N := some 70) (v := undef) (a' := ?_) ε28 rfl rfl (any_of HT_.out (by kernel_rfl)) (fun _ _ _ h => h) (Or.inr ⟨by rfl, rfl⟩) ?_ ?_
                  rotate_left
                  ·
                   simp only [Act.put, εm, εn, εo, i64_w, i32_w]
                   rfl
                  refine pure_ (i := 28) (N := some 71) (v := undef) (a' := ?_) ε29 rfl rfl (any_of HT_.out (by kernel_rfl)) (fun _ _ _ h => h) (Or.inr ⟨by rfl, rfl⟩) ?_ ?_
                  rotate_left
                  ·
                   simp only [Act.put, εm, εn, εo, i64_w, i32_w]
                   rfl
                  refine pure_ (i := 29) (N := some 72) (v := ?_) (a' := ?_) ε30 rfl rfl (any_of HT_.out (by kernel_rfl)) (fun _ _ _ h => h) (Or.inl ⟨by rfl, ?_⟩) ?_ ?_
                  rotate_left; · (intro w'; go_simp; with_reducible rfl)
                  rotate_left; · (simp only [Act.put, εm, εn, εo, i64_w, i32_w]; rfl)
                  refine pure_ (i := 30) (N := some 73) (v := ?_) (a' := ?_) ε31 rfl rfl (any_of HT_.out (by kernel_rfl)) (fun _ _ _ h => h) (Or.inl ⟨by rfl, ?_⟩) ?_ ?_
                  rotate_left; · (intro w'; go_simp; with_reducible rfl)
                  rotate_left; · (simp only [Act.put, εm, εn, εo, i64_w, i32_w]; rfl)
                  refine pure_ (i := 31) (N := some 74) (v := undef) (a' := ?_) ε32 rfl rfl (any_of HT_.out (by kernel_rfl)) (fun _ _ _ h => h) (Or.inr ⟨by rfl, rfl⟩) ?_ ?_
                  rotate_left
                  ·
                   simp only [Act.put, εm, εn, εo, i64_w, i32_w]
                   rfl
                  refine pure_ (i := 32) (N := some 75) (v := undef) (a' := ?_) ε33 rfl rfl (any_of HT_.out (by kernel_rfl)) (fun _ _ _ h => h) (Or.inr ⟨by rfl, rfl⟩) ?_ ?_
                  rotate_left
                  ·
                   simp only [Act.put, εm, εn, εo, i64_w, i32_w]
                   rfl
                  refine pure_ (i := 33) (N := some 76) (v := undef) (a' := ?_) ε34 rfl rfl (any_of HT_.out (by kernel_rfl)) (fun _ _ _ h => h) (Or.inr ⟨by rfl, rfl⟩) ?_ ?_
                  rotate_left
                  ·
                   simp only [Act.put, εm, εn, εo, i64_w, i32_w]
                   rfl
                  refine pure_ (i := 34) (N := some 77) (v := undef) (a' := ?_) ε35 rfl rfl (any_of HT_.out (by kernel_rfl)) (fun _ _ _ h => h) (Or.inr ⟨by rfl, rfl⟩) ?_ ?_
                  rotate_left
                  ·
                   simp only [Act.put, εm, εn, εo, i64_w, i32_w]
                   rfl
                  refine pure_ (i := 35) (N := some 78) (v := undef) (a' := ?_) ε36 rfl rfl (any_of HT_.out (by kernel_rfl)) (fun _ _ _ h => h) (Or.inr ⟨by rfl, rfl⟩) ?_ ?_
                  rotate_left
                  ·
                   simp only [Act.put, εm, εn, εo, i64_w, i32_w]
                   rfl
                  refine pure_ (i := 36) (N := some 79) (v := ?_) (a' := ?_) ε37 rfl rfl (any_of HT_.out (by kernel_rfl)) (fun _ _ _ h => h) (Or.inl ⟨by rfl, ?_⟩) ?_ ?_
                  rotate_left; · (intro w'; go_simp; with_reducible rfl)
                  rotate_left; · (simp only [Act.put, εm, εn, εo, i64_w, i32_w]; rfl)
                  refine pure_ (i := 37) (N := some 80) (v := ?_) (a' := ?_) ε38 rfl rfl (any_of HT_.out (by kernel_rfl)) (fun _ _ _ h => h) (Or.inl ⟨by rfl, ?_⟩) ?_ ?_
                  rotate_left; · (intro w'; go_simp; with_reducible rfl)
                  rotate_left; · (simp only [Act.put, εm, εn, εo, i64_w, i32_w]; rfl)
                  refine pure_ (i := 38) (N := some 81) (v := undef) (a' := ?_) ε39 rfl rfl (any_of HT_.out (by kernel_rfl)) (fun _ _ _ h => h) (Or.inr ⟨by rfl, rfl⟩) ?_ ?_
                  rotate_left
                  ·
                   simp only [Act.put, εm, εn, εo, i64_w, i32_w]
                   rfl
                  refine pure_ (i := 39) (N := some 82) (v := undef) (a' := ?_) ε40 rfl rfl (any_of HT_.out (by kernel_rfl)) (fun _ _ _ h => h) (Or.inr ⟨by rfl, rfl⟩) ?_ ?_
                  rotate_left
                  ·
                   simp only [Act.put, εm, εn, εo, i64_w, i32_w]
                   rfl
                  refine pure_ (i := 40) (N := some 83) (v := undef) (a' := ?_) ε41 rfl rfl (any_of HT_.out (by kernel_rfl)) (fun _ _ _ h => h) (Or.inr ⟨by rfl, rfl⟩) ?_ ?_
                  rotate_left
                  ·
                   simp only [Act.put, εm, εn, εo, i64_w, i32_w]
                   rfl
                  refine pure_ (i := 41) (N := some 84) (v := undef) (a' := ?_) ε42 rfl rfl (any_of HT_.out (by kernel_rfl)) (fun _ _ _ h => h) (Or.inr ⟨by rfl, rfl⟩) ?_ ?_
                  rotate_left
                  ·
                   simp only [Act.put, εm, εn, εo, i64_w, i32_w]
                   rfl
                  refine pure_ (i := 42) (N := some 85) (v := undef) (a' := ?_) ε43 rfl rfl (any_of HT_.out (by kernel_rfl)) (fun _ _ _ h => h) (Or.inr ⟨by rfl, rfl⟩) ?_ ?_
                  rotate_left
                  ·
                   simp only [Act.put, εm, εn, εo, i64_w, i32_w]
                   rfl
                  refine pure_ (i := 43) (N := some 86) (v := ?_) (a' := ?_) ε44 rfl rfl (any_of HT_.out (by kernel_rfl)) (fun _ _ _ h => h) (Or.inl ⟨by rfl, ?_⟩) ?_ ?_
                  rotate_left; · (intro w'; go_simp; with_reducible rfl)
                  rotate_left; · (simp only [Act.put, εm, εn, εo, i64_w, i32_w]; rfl)
                  refine done_ (done_of HT_.out (by kernel_rfl)) ?_
                  try go_wp2
                  go_meet
                  case rel => exact ⟨_, (true), (by first | rfl | (simp; done) | (simp [*]; done)), H', ⟨by have := HK1.out; have := HK2.out; first | omega | exact Nat.le_refl _⟩, ⟨by (with_reducible repeat (first | apply εd | apply εe | apply εf)); exact HO_5.out⟩, ⟨by (with_reducible repeat (first | apply εd | apply εe | apply εf)); exact HO_7.out⟩, ⟨by repeat (first | (with_reducible first | exact HB.out | apply εj | apply εh | apply εi) | exact HB.out)⟩⟩
                 rw [if_neg c22] at H
                 exact absurd H (by simp)
                replace c21 := Bool.eq_false_iff.mpr c21
                subst c21
                have H1 : (spec_MeetOnce.j2 k2 l0 a1 x5_2 x6_1 x7_2 x8_2 (rd_L1 (rd_L2 l0 x6_1) x8_2) true) = some r := by rw [if_neg (show ¬ (false = true) by decide)] at H; exact H
                clear H
                have H := H1
                clear H1
                have H' := εp H
                clear H
                try go_wp2
                have n0_ := εp (εf HO_5.out)
                have n1_ := εp (εf HO_7.out)
                have n2_ := εp (εi HB.out)
                clear HO_5
                clear HO_7
                clear HB
                have HO_5 := n0_
                have HO_7 := n1_
                have HB := n2_
                clear n0_ n1_ n2_
                have p124 : 0 ≤ (0 : Int) := (by omega)
                have q124 : 0 < ((rd_L1 (rd_L2 l0 x6_1) x8_2).length : Int) := of_decide_eq_true (by first | (with_reducible assumption) | assumption)
                obtain ⟨ad124, e124, hx124_0⟩ := Kd.at_int HR123_0.out 0 p124 q124
                have hw124_0 := hx124_0
                (try rw [show ((0 : Int)).toNat = 0 from rfl] at hw124_0)
                (try rw [show 0 * 1 = 0 from rfl] at hw124_0)
                (try rw [Addr.add_zero'] at hw124_0)
                cases e124
                have qi124 : (0 < (rd_L1 (rd_L2 l0 x6_1) x8_2).length) = True := eq_true (by omega)
                (try rw [show ((0 : Int)).toNat = 0 from rfl] at hx124_0)
                (try rw [Addr.add_zero'] at hx124_0)
                replace hx124_0 := (HB.out.cell (World.block_lt_of_cell? w _ hx124_0)).trans hx124_0
                replace p124 := eq_true p124
                replace q124 := eq_true q124
                refine start_ (n := 44) (S := fun w' => w'.cell? ad124 = some (.int .i64 (rd (rd_L1 (rd_L2 l0 x6_1) x8_2) 0))) (ds := []) ε0 (by kernel_rfl) rfl rfl (((HB.out.cell (World.block_lt_of_cell? w _ hw124_0)).trans hw124_0)) (fun hHeld => ?_); refine with_tabW spec_MeetOnce.tab12 spec_MeetOnce.bits12 (fun HT_ HW_ => ?_)
                generalize wr.drew = w35 at HO_5 HO_7 HB hx124_0 hHeld ⊢
                refine pure_ (i := 0) (N := some 43) (v := ?_) (a' := ?_) ε1 rfl rfl (any_of HT_.out (by kernel_rfl)) (fun _ _ _ h => h) (Or.inl ⟨by rfl, ?_⟩) ?_ ?_
                rotate_left; · (intro w'; go_simp; with_reducible rfl)
                rotate_left; · (simp only [Act.put, εm, εn, εo, i64_w, i32_w]; rfl)
                refine pure_ (i := 1) (N := some 44) (v := ?_) (a' := ?_) ε2 rfl rfl (any_of HT_.out (by kernel_rfl)) (fun _ _ _ h => h) (Or.inl ⟨by rfl, ?_⟩) ?_ ?_
                rotate_left; · (intro w'; go_simp; with_reducible rfl)
                rotate_left; · (simp only [Act.put, εm, εn, εo, i64_w, i32_w]; rfl)
                refine pure_ (i := 2) (N := some 45) (v := ?_) (a' := ?_) ε3 rfl rfl (any_of HT_.out (by kernel_rfl)) (fun _ _ _ h => h) (Or.inl ⟨by rfl, ?_⟩) ?_ ?_
                rotate_left; · (intro w'; go_simp; with_reducible rfl)
                rotate_left; · (simp only [Act.put, εm, εn, εo, i64_w, i32_w]; rfl)
                refine pure_ (i := 3) (N := some 46) (v := ?_) (a' := ?_) ε4 rfl rfl (any_of HT_.out (by kernel_rfl)) (fun _ _ _ h => h) (Or.inl ⟨by rfl, ?_⟩) ?_ ?_
                rotate_left; · (intro w'; go_simp; with_reducible rfl)
                rotate_left; · (simp only [Act.put, εm, εn, εo, i64_w, i32_w]; rfl)
                refine pure_ (i := 4) (N := some 47) (v := ?_) (a' := ?_) ε5 rfl rfl (any_of HT_.out (by kernel_rfl)) (fun _ _ _ h => h) (Or.inl ⟨by rfl, ?_⟩) ?_ ?_
                rotate_left; · (intro w'; go_simp; with_reducible rfl)
                rotate_left; · (simp only [Act.put, εm, εn, εo, i64_w, i32_w]; rfl)
                refine pure_ (i := 5) (N := some 48) (v := ?_) (a' := ?_) ε6 rfl rfl (any_of HT_.out (by kernel_rfl)) (fun _ _ _ h => h) (Or.inl ⟨by rfl, ?_⟩) ?_ ?_
                rotate_left; · (intro w'; go_simp; with_reducible rfl)
                rotate_left; · (simp only [Act.put, εm, εn, εo, i64_w, i32_w]; rfl)
                refine pure_ (i := 7) (N := some 50) (v := ?_) (a' := ?_) ε7 rfl rfl (any_of HT_.out (by kernel_rfl)) (fun _ _ _ h => h) (Or.inl ⟨by rfl, ?_⟩) ?_ ?_
                rotate_left; · (intro w'; go_simp; with_reducible rfl)
                rotate_left; · (simp only [Act.put, εm, εn, εo, i64_w, i32_w]; rfl)
                refine pure_ (i := 8) (N := some 51) (v := ?_) (a' := ?_) ε8 rfl rfl (any_of HT_.out (by kernel_rfl)) (fun _ _ _ h => h) (Or.inl ⟨by rfl, ?_⟩) ?_ ?_
                rotate_left; · (intro w'; go_simp; with_reducible rfl)
                rotate_left; · (simp only [Act.put, εm, εn, εo, i64_w, i32_w]; rfl)
                refine take_ (i := 6) (N := some 49) (v := ?_) (a' := ?_) ε9 rfl rfl (take_ofW HT_.out HW_.out (by kernel_rfl)) (fun _ _ _ h => h) (Or.inl ⟨by rfl, ?_⟩) hHeld ?_ ?_
                rotate_left
                ·
                 intro w' s0
                 go_simp
                 with_reducible rfl
                rotate_left
                ·
                 simp only [Act.put, εm, εn, εo, i64_w, i32_w]
                 rfl
                refine one_ (i := 9) (N := some 52) ε10 rfl rfl (one_of HT_.out (by kernel_rfl)) (by decide) (fun K hK => ?_)
                refine goes_ Try.func62 (by kernel_rfl) rfl #[.int .i64 (rd (rd_L1 (rd_L2 l0 x6_1) x8_2) 0), .int .i64 0, .int .i64 (wrap64 (a1 - 1))] (by rfl) rfl rfl (by (try simp only [List.map_toArray, List.map_cons, List.map_nil]); first | done | rfl | (simp only [List.length_drop, List.length_take]; rfl)) ?_
                with_reducible refine (spec_l1In.calls (rd (rd_L1 (rd_L2 l0 x6_1) x8_2) 0) 0 (wrap64 (a1 - 1)) false _ A20.out).mono ?_
                rintro e w' ⟨rfl, ⟨nd, rfl⟩⟩
                refine ⟨_, rfl, ?_⟩
                refine hK.out _ _ (((HB.out.cell (World.block_lt_of_cell? w _ hw124_0)).trans hw124_0)) (fun hHeld => ?_)
                clear hK K
                refine norm_ (a' := ?_) ?_ ?_
                rotate_left
                ·
                 show Act.put _ (some 52) _ = _
                 simp only [Act.put, εm, εn, εo, i64_w, i32_w]
                 rfl
                refine pure_ (i := 10) (N := some 53) (v := ?_) (a' := ?_) ε11 rfl rfl (any_of HT_.out (by kernel_rfl)) (fun _ _ _ h => h) (Or.inl ⟨by rfl, ?_⟩) ?_ ?_
                rotate_left; · (intro w'; go_simp; with_reducible rfl)
                rotate_left; · (simp only [Act.put, εm, εn, εo, i64_w, i32_w]; rfl)
                refine pure_ (i := 11) (N := some 54) (v := ?_) (a' := ?_) ε12 rfl rfl (any_of HT_.out (by kernel_rfl)) (fun _ _ _ h => h) (Or.inl ⟨by rfl, ?_⟩) ?_ ?_
                rotate_left; · (intro w'; go_simp; with_reducible rfl)
                rotate_left; · (simp only [Act.put, εm, εn, εo, i64_w, i32_w]; rfl)
                refine pure_ (i := 12) (N := some 55) (v := ?_) (a' := ?_) ε13 rfl rfl (any_of HT_.out (by kernel_rfl)) (fun _ _ _ h => h) (Or.inl ⟨by rfl, ?_⟩) ?_ ?_
                rotate_left; · (intro w'; go_simp; with_reducible rfl)
                rotate_left; · (simp only [Act.put, εm, εn, εo, i64_w, i32_w]; rfl)
                refine pure_ (i := 13) (N := some 56) (v := undef) (a' := ?_) ε14 rfl rfl (any_of HT_.out (by kernel_rfl)) (fun _ _ _ h => h) (Or.inr ⟨by rfl, rfl⟩) ?_ ?_
                rotate_left
                ·
                 simp only [Act.put, εm, εn, εo, i64_w, i32_w]
                 rfl
                refine pure_ (i := 14) (N := some 57) (v := undef) (a' := ?_) ε15 rfl rfl (any_of HT_.out (by kernel_rfl)) (fun _ _ _ h => h) (Or.inr ⟨by rfl, rfl⟩) ?_ ?_
                rotate_left
                ·
                 simp only [Act.put, εm, εn, εo, i64_w, i32_w]
                 rfl
                refine pure_ (i := 15) (N := some 58) (v := undef) (a' := ?_) ε47 rfl rfl (any_of HT_.out (by kernel_rfl)) (fun _ _ _ h => h) (Or.inr ⟨by rfl, rfl⟩) ?_ ?_
                rotate_left
                ·
                 simp only [Act.put, εm, εn, εo, i64_w, i32_w]
                 rfl
                refine pure_ (i := 16) (N := some 59) (v := undef) (a' := ?_) ε48 rfl rfl (any_of HT_.out (by kernel_rfl)) (fun _ _ _ h => h) (Or.inr ⟨by rfl, rfl⟩) ?_ ?_
                rotate_left
                ·
                 simp only [Act.put, εm, εn, εo, i64_w, i32_w]
                 rfl
                refine pure_ (i := 17) (N := some 60) (v := undef) (a' := ?_) ε18 rfl rfl (any_of HT_.out (by kernel_rfl)) (fun _ _ _ h => h) (Or.inr ⟨by rfl, rfl⟩) ?_ ?_
                rotate_left
                ·
                 simp only [Act.put, εm, εn, εo, i64_w, i32_w]
                 rfl
                refine pure_ (i := 18) (N := some 61) (v := undef) (a' := ?_) ε19 rfl rfl (any_of HT_.out (by kernel_rfl)) (fun _ _ _ h => h) (Or.inr ⟨by rfl, rfl⟩) ?_ ?_
                rotate_left
                ·
                 simp only [Act.put, εm, εn, εo, i64_w, i32_w]
                 rfl
                refine pure_ (i := 19) (N := some 62) (v := undef) (a' := ?_) ε20 rfl rfl (any_of HT_.out (by kernel_rfl)) (fun _ _ _ h => h) (Or.inr ⟨by rfl, rfl⟩) ?_ ?_
                rotate_left
                ·
                 simp only [Act.put, εm, εn, εo, i64_w, i32_w]
                 rfl
                refine pure_ (i := 20) (N := some 63) (v := ?_) (a' := ?_) ε21 rfl rfl (any_of HT_.out (by kernel_rfl)) (fun _ _ _ h => h) (Or.inl ⟨by rfl, ?_⟩) ?_ ?_
                rotate_left; · (intro w'; go_simp; with_reducible rfl)
                rotate_left; · (simp only [Act.put, εm, εn, εo, i64_w, i32_w]; rfl)
                refine pure_ (i := 21) (N := some 64) (v := ?_) (a' := ?_) ε22 rfl rfl (any_of HT_.out (by kernel_rfl)) (fun _ _ _ h => h) (Or.inl ⟨by rfl, ?_⟩) ?_ ?_
                rotate_left; · (intro w'; go_simp; with_reducible rfl)
                rotate_left; · (simp only [Act.put, εm, εn, εo, i64_w, i32_w]; rfl)
                refine pure_ (i := 22) (N := some 65) (v := undef) (a' := ?_) ε23 rfl rfl (any_of HT_.out (by kernel_rfl)) (fun _ _ _ h => h) (Or.inr ⟨by rfl, rfl⟩) ?_ ?_
                rotate_left
                ·
                 simp only [Act.put, εm, εn, εo, i64_w, i32_w]
                 rfl
                refine pure_ (i := 23) (N := some 66) (v := undef) (a' := ?_) ε24 rfl rfl (any_of HT_.out (by kernel_rfl)) (fun _ _ _ h => h) (Or.inr ⟨by rfl, rfl⟩) ?_ ?_
                rotate_left
                ·
                 simp only [Act.put, εm, εn, εo, i64_w, i32_w]
                 rfl
                refine pure_ (i := 24) (N := some 67) (v := undef) (a' := ?_) ε45 rfl rfl (any_of HT_.out (by kernel_rfl)) (fun _ _ _ h => h) (Or.inr ⟨by rfl, rfl⟩) ?_ ?_
                rotate_left
                ·
                 simp only [Act.put, εm, εn, εo, i64_w, i32_w]
                 rfl
                refine pure_ (i := 25) (N := some 68) (v := undef) (a' := ?_) ε46 rfl rfl (any_of HT_.out (by kernel_rfl)) (fun _ _ _ h => h) (Or.inr ⟨by rfl, rfl⟩) ?_ ?_
                rotate_left
                ·
                 simp only [Act.put, εm, εn, εo, i64_w, i32_w]
                 rfl
                refine pure_ (i := 26) (N := some 69) (v := undef) (a' := ?_) ε27 rfl rfl (any_of HT_.out (by kernel_rfl)) (fun _ _ _ h => h) (Or.inr ⟨by rfl, rfl⟩) ?_ ?_
                rotate_left
                ·
                 simp only [Act.put, εm, εn, εo, i64_w, i32_w]
                 rfl
                refine pure_ (i := 27) (N := some 70) (v := undef) (a' := ?_) ε28 rfl rfl (any_of HT_.out (by kernel_rfl)) (fun _ _ _ h => h) (Or.inr ⟨by rfl, rfl⟩) ?_ ?_
                rotate_left
                ·
                 simp only [Act.put, εm, εn, εo, i64_w, i32_w]
                 rfl
                refine pure_ (i := 28) (N := some 71) (v := undef) (a' := ?_) ε29 rfl rfl (any_of HT_.out (by kernel_rfl)) (fun _ _ _ h => h) (Or.inr ⟨by rfl, rfl⟩) ?_ ?_
                rotate_left
                ·
                 simp only [Act.put, εm, εn, εo, i64_w, i32_w]
                 rfl
                refine pure_ (i := 29) (N := some 72) (v := ?_) (a' := ?_) ε30 rfl rfl (any_of HT_.out (by kernel_rfl)) (fun _ _ _ h => h) (Or.inl ⟨by rfl, ?_⟩) ?_ ?_
                rotate_left; · (intro w'; go_simp; with_reducible rfl)
                rotate_left; · (simp only [Act.put, εm, εn, εo, i64_w, i32_w]; rfl)
                refine pure_ (i := 30) (N := some 73) (v := ?_) (a' := ?_) ε31 rfl rfl (any_of HT_.out (by kernel_rfl)) (fun _ _ _ h => h) (Or.inl ⟨by rfl, ?_⟩) ?_ ?_
                rotate_left; · (intro w'; go_simp; with_reducible rfl)
                rotate_left; · (simp only [Act.put, εm, εn, εo, i64_w, i32_w]; rfl)
                refine pure_ (i := 31) (N := some 74) (v := undef) (a' := ?_) ε32 rfl rfl (any_of HT_.out (by kernel_rfl)) (fun _ _ _ h => h) (Or.inr ⟨by rfl, rfl⟩) ?_ ?_
                rotate_left
                ·
                 simp only [Act.put, εm, εn, εo, i64_w, i32_w]
                 rfl
                refine pure_ (i := 32) (N := some 75) (v := undef) (a' := ?_) ε33 rfl rfl (any_of HT_.out (by kernel_rfl)) (fun _ _ _ h => h) (Or.inr ⟨by rfl, rfl⟩) ?_ ?_
                rotate_left
                ·
                 simp only [Act.put, εm, εn, εo, i64_w, i32_w]
                 rfl
                refine pure_ (i := 33) (N := some 76) (v := undef) (a' := ?_) ε34 rfl rfl (any_of HT_.out (by kernel_rfl)) (fun _ _ _ h => h) (Or.inr ⟨by rfl, rfl⟩) ?_ ?_
                rotate_left
                ·
                 simp only [Act.put, εm, εn, εo, i64_w, i32_w]
                 rfl
                refine pure_ (i := 34) (N := some 77) (v := undef) (a' := ?_) ε35 rfl rfl (any_of HT_.out (by kernel_rfl)) (fun _ _ _ h => h) (Or.inr ⟨by rfl, rfl⟩) ?_ ?_
                rotate_left
                ·
                 simp only [Act.put, εm, εn, εo, i64_w, i32_w]
                 rfl
                refine pure_ (i := 35) (N := some 78) (v := undef) (a' := ?_) ε36 rfl rfl (any_of HT_.out (by kernel_rfl)) (fun _ _ _ h => h) (Or.inr ⟨by rfl, rfl⟩) ?_ ?_
                rotate_left
                ·
                 simp only [Act.put, εm, εn, εo, i64_w, i32_w]
                 rfl
                refine pure_ (i := 36) (N := some 79) (v := ?_) (a' := ?_) ε37 rfl rfl (any_of HT_.out (by kernel_rfl)) (fun _ _ _ h => h) (Or.inl ⟨by rfl, ?_⟩) ?_ ?_
                rotate_left; · (intro w'; go_simp; with_reducible rfl)
                rotate_left; · (simp only [Act.put, εm, εn, εo, i64_w, i32_w]; rfl)
                refine pure_ (i := 37) (N := some 80) (v := ?_) (a' := ?_) ε38 rfl rfl (any_of HT_.out (by kernel_rfl)) (fun _ _ _ h => h) (Or.inl ⟨by rfl, ?_⟩) ?_ ?_
                rotate_left; · (intro w'; go_simp; with_reducible rfl)
                rotate_left; · (simp only [Act.put, εm, εn, εo, i64_w, i32_w]; rfl)
                refine pure_ (i := 38) (N := some 81) (v := undef) (a' := ?_) ε39 rfl rfl (any_of HT_.out (by kernel_rfl)) (fun _ _ _ h => h) (Or.inr ⟨by rfl, rfl⟩) ?_ ?_
                rotate_left
                ·
                 simp only [Act.put, εm, εn, εo, i64_w, i32_w]
                 rfl
                refine pure_ (i := 39) (N := some 82) (v := undef) (a' := ?_) ε40 rfl rfl (any_of HT_.out (by kernel_rfl)) (fun _ _ _ h => h) (Or.inr ⟨by rfl, rfl⟩) ?_ ?_
                rotate_left
                ·
                 simp only [Act.put, εm, εn, εo, i64_w, i32_w]
                 rfl
                refine pure_ (i := 40) (N := some 83) (v := undef) (a' := ?_) ε41 rfl rfl (any_of HT_.out (by kernel_rfl)) (fun _ _ _ h => h) (Or.inr ⟨by rfl, rfl⟩) ?_ ?_
                rotate_left
                ·
                 simp only [Act.put, εm, εn, εo, i64_w, i32_w]
                 rfl
                refine pure_ (i := 41) (N := some 84) (v := undef) (a' := ?_) ε42 rfl rfl (any_of HT_.out (by kernel_rfl)) (fun _ _ _ h => h) (Or.inr ⟨by rfl, rfl⟩) ?_ ?_
                rotate_left
                ·
                 simp only [Act.put, εm, εn, εo, i64_w, i32_w]
                 rfl
                refine pure_ (i := 42) (N := some 85) (v := undef) (a' := ?_) ε43 rfl rfl (any_of HT_.out (by kernel_rfl)) (fun _ _ _ h => h) (Or.inr ⟨by rfl, rfl⟩) ?_ ?_
                rotate_left
                ·
                 simp only [Act.put, εm, εn, εo, i64_w, i32_w]
                 rfl
                refine pure_ (i := 43) (N := some 86) (v := ?_) (a' := ?_) ε44 rfl rfl (any_of HT_.out (by kernel_rfl)) (fun _ _ _ h => h) (Or.inl ⟨by rfl, ?_⟩) ?_ ?_
                rotate_left; · (intro w'; go_simp; with_reducible rfl)
                rotate_left; · (simp only [Act.put, εm, εn, εo, i64_w, i32_w]; rfl)
                refine done_ (done_of HT_.out (by kernel_rfl)) ?_
                try go_wp2
                go_meet
                case rel => exact ⟨_, (true), (by first | rfl | (simp; done) | (simp [*]; done)), H', ⟨by have := HK1.out; have := HK2.out; first | omega | exact Nat.le_refl _⟩, ⟨by (with_reducible repeat (first | apply εd | apply εe | apply εf)); exact HO_5.out⟩, ⟨by (with_reducible repeat (first | apply εd | apply εe | apply εf)); exact HO_7.out⟩, ⟨by repeat (first | (with_reducible first | exact HB.out | apply εj | apply εh | apply εi) | exact HB.out)⟩⟩
               rw [if_neg c19] at H
               exact absurd H (by simp)
              rw [if_neg c18] at H
              have c18b0 : (((rd_L1 (rd_L2 l0 x6_1) x8_2).length : Int) == 2) = false := beq_eq_false_iff_ne.mpr c18
              have c18b1 : (((rd_L1 (rd_L2 l0 x6_1) x8_2).length : Int) != 2) = true := bne_iff_ne.mpr c18
              (first | rw [c18b0] | (simp only [i64_w, i32_w]; rw [c18b0]) | skip)
              have H' := εp H
              clear H
              try go_wp2
              have n0_ := εp (εf HO_5.out)
              have n1_ := εp (εf HO_7.out)
              have n2_ := εp (εi HB.out)
              clear HO_5
              clear HO_7
              clear HB
              have HO_5 := n0_
              have HO_7 := n1_
              have HB := n2_
              clear n0_ n1_ n2_
              refine start_ (n := 44) (S := fun w' => True) (ds := []) ε0 (by kernel_rfl) rfl rfl trivial (fun hHeld => ?_); refine with_tabW spec_MeetOnce.tab12 spec_MeetOnce.bits12 (fun HT_ HW_ => ?_)
              generalize wr.drew = w36 at HO_5 HO_7 HB hHeld ⊢
              refine pure_ (i := 0) (N := some 43) (v := ?_) (a' := ?_) ε1 rfl rfl (any_of HT_.out (by kernel_rfl)) (fun _ _ _ h => h) (Or.inl ⟨by rfl, ?_⟩) ?_ ?_
              rotate_left; · (intro w'; go_simp; with_reducible rfl)
              rotate_left; · (simp only [Act.put, εm, εn, εo, i64_w, i32_w]; rfl)
              refine pure_ (i := 1) (N := some 44) (v := ?_) (a' := ?_) ε2 rfl rfl (any_of HT_.out (by kernel_rfl)) (fun _ _ _ h => h) (Or.inl ⟨by rfl, ?_⟩) ?_ ?_
              rotate_left; · (intro w'; go_simp; with_reducible rfl)
              rotate_left; · (simp only [Act.put, εm, εn, εo, i64_w, i32_w]; rfl)
              refine pure_ (i := 2) (N := some 45) (v := ?_) (a' := ?_) ε3 rfl rfl (any_of HT_.out (by kernel_rfl)) (fun _ _ _ h => h) (Or.inl ⟨by rfl, ?_⟩) ?_ ?_
              rotate_left; · (intro w'; go_simp; with_reducible rfl)
              rotate_left; · (simp only [Act.put, εm, εn, εo, i64_w, i32_w]; rfl)
              refine pure_ (i := 3) (N := some 46) (v := ?_) (a' := ?_) ε4 rfl rfl (any_of HT_.out (by kernel_rfl)) (fun _ _ _ h => h) (Or.inl ⟨by rfl, ?_⟩) ?_ ?_
              rotate_left; · (intro w'; go_simp; with_reducible rfl)
              rotate_left; · (simp only [Act.put, εm, εn, εo, i64_w, i32_w]; rfl)
              refine pure_ (i := 4) (N := some 47) (v := undef) (a' := ?_) ε5 rfl rfl (any_of HT_.out (by kernel_rfl)) (fun _ _ _ h => h) (Or.inr ⟨by rfl, rfl⟩) ?_ ?_
              rotate_left
              ·
               simp only [Act.put, εm, εn, εo, i64_w, i32_w]
               rfl
              refine pure_ (i := 5) (N := some 48) (v := undef) (a' := ?_) ε6 rfl rfl (any_of HT_.out (by kernel_rfl)) (fun _ _ _ h => h) (Or.inr ⟨by rfl, rfl⟩) ?_ ?_
              rotate_left
              ·
               simp only [Act.put, εm, εn, εo, i64_w, i32_w]
               rfl
              refine pure_ (i := 6) (N := some 49) (v := undef) (a' := ?_) ε49 rfl rfl (any_of HT_.out (by kernel_rfl)) (fun _ _ _ h => h) (Or.inr ⟨by rfl, rfl⟩) ?_ ?_
              rotate_left
              ·
               simp only [Act.put, εm, εn, εo, i64_w, i32_w]
               rfl
              refine pure_ (i := 7) (N := some 50) (v := undef) (a' := ?_) ε50 rfl rfl (any_of HT_.out (by kernel_rfl)) (fun _ _ _ h => h) (Or.inr ⟨by rfl, rfl⟩) ?_ ?_
              rotate_left
              ·
               simp only [Act.put, εm, εn, εo, i64_w, i32_w]
               rfl
              refine pure_ (i := 8) (N := some 51) (v := undef) (a' := ?_) ε9 rfl rfl (any_of HT_.out (by kernel_rfl)) (fun _ _ _ h => h) (Or.inr ⟨by rfl, rfl⟩) ?_ ?_
              rotate_left
              ·
               simp only [Act.put, εm, εn, εo, i64_w, i32_w]
               rfl
              refine pure_ (i := 9) (N := some 52) (v := undef) (a' := ?_) ε10 rfl rfl (any_of HT_.out (by kernel_rfl)) (fun _ _ _ h => h) (Or.inr ⟨by rfl, rfl⟩) ?_ ?_
              rotate_left
              ·
               simp only [Act.put, εm, εn, εo, i64_w, i32_w]
               rfl
              refine pure_ (i := 10) (N := some 53) (v := undef) (a' := ?_) ε11 rfl rfl (any_of HT_.out (by kernel_rfl)) (fun _ _ _ h => h) (Or.inr ⟨by rfl, rfl⟩) ?_ ?_
              rotate_left
              ·
               simp only [Act.put, εm, εn, εo, i64_w, i32_w]
               rfl
              refine pure_ (i := 11) (N := some 54) (v := ?_) (a' := ?_) ε12 rfl rfl (any_of HT_.out (by kernel_rfl)) (fun _ _ _ h => h) (Or.inl ⟨by rfl, ?_⟩) ?_ ?_
              rotate_left; · (intro w'; go_simp; with_reducible rfl)
              rotate_left; · (simp only [Act.put, εm, εn, εo, i64_w, i32_w]; rfl)
              refine pure_ (i := 12) (N := some 55) (v := ?_) (a' := ?_) ε13 rfl rfl (any_of HT_.out (by kernel_rfl)) (fun _ _ _ h => h) (Or.inl ⟨by rfl, ?_⟩) ?_ ?_
              rotate_left; · (intro w'; go_simp; with_reducible rfl)
              rotate_left; · (simp only [Act.put, εm, εn, εo, i64_w, i32_w]; rfl)
              refine pure_ (i := 13) (N := some 56) (v := undef) (a' := ?_) ε14 rfl rfl (any_of HT_.out (by kernel_rfl)) (fun _ _ _ h => h) (Or.inr ⟨by rfl, rfl⟩) ?_ ?_
              rotate_left
              ·
               simp only [Act.put, εm, εn, εo, i64_w, i32_w]
               rfl
              refine pure_ (i := 14) (N := some 57) (v := undef) (a' := ?_) ε15 rfl rfl (any_of HT_.out (by kernel_rfl)) (fun _ _ _ h => h) (Or.inr ⟨by rfl, rfl⟩) ?_ ?_
              rotate_left
              ·
               simp only [Act.put, εm, εn, εo, i64_w, i32_w]
               rfl
              refine pure_ (i := 15) (N := some 58) (v := undef) (a' := ?_) ε47 rfl rfl (any_of HT_.out (by kernel_rfl)) (fun _ _ _ h => h) (Or.inr ⟨by rfl, rfl⟩) ?_ ?_
              rotate_left
              ·
               simp only [Act.put, εm, εn, εo, i64_w, i32_w]
               rfl
              refine pure_ (i := 16) (N := some 59) (v := undef) (a' := ?_) ε48 rfl rfl (any_of HT_.out (by kernel_rfl)) (fun _ _ _ h => h) (Or.inr ⟨by rfl, rfl⟩) ?_ ?_
              rotate_left
              ·
               simp only [Act.put, εm, εn, εo, i64_w, i32_w]
               rfl
              refine pure_ (i := 17) (N := some 60) (v := undef) (a' := ?_) ε18 rfl rfl (any_of HT_.out (by kernel_rfl)) (fun _ _ _ h => h) (Or.inr ⟨by rfl, rfl⟩) ?_ ?_
              rotate_left
              ·
               simp only [Act.put, εm, εn, εo, i64_w, i32_w]
               rfl
              refine pure_ (i := 18) (N := some 61) (v := undef) (a' := ?_) ε19 rfl rfl (any_of HT_.out (by kernel_rfl)) (fun _ _ _ h => h) (Or.inr ⟨by rfl, rfl⟩) ?_ ?_
              rotate_left
              ·
               simp only [Act.put, εm, εn, εo, i64_w, i32_w]
               rfl
              refine pure_ (i := 19) (N := some 62) (v := undef) (a' := ?_) ε20 rfl rfl (any_of HT_.out (by kernel_rfl)) (fun _ _ _ h => h) (Or.inr ⟨by rfl, rfl⟩) ?_ ?_
              rotate_left
              ·
               simp only [Act.put, εm, εn, εo, i64_w, i32_w]
               rfl
              refine pure_ (i := 20) (N := some 63) (v := ?_) (a' := ?_) ε21 rfl rfl (any_of HT_.out (by kernel_rfl)) (fun _ _ _ h => h) (Or.inl ⟨by rfl, ?_⟩) ?_ ?_
              rotate_left; · (intro w'; go_simp; with_reducible rfl)
              rotate_left; · (simp only [Act.put, εm, εn, εo, i64_w, i32_w]; rfl)
              refine pure_ (i := 21) (N := some 64) (v := ?_) (a' := ?_) ε22 rfl rfl (any_of HT_.out (by kernel_rfl)) (fun _ _ _ h => h) (Or.inl ⟨by rfl, ?_⟩) ?_ ?_
              rotate_left; · (intro w'; go_simp; with_reducible rfl)
              rotate_left; · (simp only [Act.put, εm, εn, εo, i64_w, i32_w]; rfl)
              refine pure_ (i := 22) (N := some 65) (v := undef) (a' := ?_) ε23 rfl rfl (any_of HT_.out (by kernel_rfl)) (fun _ _ _ h => h) (Or.inr ⟨by rfl, rfl⟩) ?_ ?_
              rotate_left
              ·
               simp only [Act.put, εm, εn, εo, i64_w, i32_w]
               rfl
              refine pure_ (i := 23) (N := some 66) (v := undef) (a' := ?_) ε24 rfl rfl (any_of HT_.out (by kernel_rfl)) (fun _ _ _ h => h) (Or.inr ⟨by rfl, rfl⟩) ?_ ?_
              rotate_left
              ·
               simp only [Act.put, εm, εn, εo, i64_w, i32_w]
               rfl
              refine pure_ (i := 24) (N := some 67) (v := undef) (a' := ?_) ε45 rfl rfl (any_of HT_.out (by kernel_rfl)) (fun _ _ _ h => h) (Or.inr ⟨by rfl, rfl⟩) ?_ ?_
              rotate_left
              ·
               simp only [Act.put, εm, εn, εo, i64_w, i32_w]
               rfl
              refine pure_ (i := 25) (N := some 68) (v := undef) (a' := ?_) ε46 rfl rfl (any_of HT_.out (by kernel_rfl)) (fun _ _ _ h => h) (Or.inr ⟨by rfl, rfl⟩) ?_ ?_
              rotate_left
              ·
               simp only [Act.put, εm, εn, εo, i64_w, i32_w]
               rfl
              refine pure_ (i := 26) (N := some 69) (v := undef) (a' := ?_) ε27 rfl rfl (any_of HT_.out (by kernel_rfl)) (fun _ _ _ h => h) (Or.inr ⟨by rfl, rfl⟩) ?_ ?_
              rotate_left
              ·
               simp only [Act.put, εm, εn, εo, i64_w, i32_w]
               rfl
              refine pure_ (i := 27) (N := some 70) (v := undef) (a' := ?_) ε28 rfl rfl (any_of HT_.out (by kernel_rfl)) (fun _ _ _ h => h) (Or.inr ⟨by rfl, rfl⟩) ?_ ?_
              rotate_left
              ·
               simp only [Act.put, εm, εn, εo, i64_w, i32_w]
               rfl
              refine pure_ (i := 28) (N := some 71) (v := undef) (a' := ?_) ε29 rfl rfl (any_of HT_.out (by kernel_rfl)) (fun _ _ _ h => h) (Or.inr ⟨by rfl, rfl⟩) ?_ ?_
              rotate_left
              ·
               simp only [Act.put, εm, εn, εo, i64_w, i32_w]
               rfl
              refine pure_ (i := 29) (N := some 72) (v := ?_) (a' := ?_) ε30 rfl rfl (any_of HT_.out (by kernel_rfl)) (fun _ _ _ h => h) (Or.inl ⟨by rfl, ?_⟩) ?_ ?_
              rotate_left; · (intro w'; go_simp; with_reducible rfl)
              rotate_left; · (simp only [Act.put, εm, εn, εo, i64_w, i32_w]; rfl)
              refine pure_ (i := 30) (N := some 73) (v := ?_) (a' := ?_) ε31 rfl rfl (any_of HT_.out (by kernel_rfl)) (fun _ _ _ h => h) (Or.inl ⟨by rfl, ?_⟩) ?_ ?_
              rotate_left; · (intro w'; go_simp; with_reducible rfl)
              rotate_left; · (simp only [Act.put, εm, εn, εo, i64_w, i32_w]; rfl)
              refine pure_ (i := 31) (N := some 74) (v := undef) (a' := ?_) ε32 rfl rfl (any_of HT_.out (by kernel_rfl)) (fun _ _ _ h => h) (Or.inr ⟨by rfl, rfl⟩) ?_ ?_
              rotate_left
              ·
               simp only [Act.put, εm, εn, εo, i64_w, i32_w]
               rfl
              refine pure_ (i := 32) (N := some 75) (v := undef) (a' := ?_) ε33 rfl rfl (any_of HT_.out (by kernel_rfl)) (fun _ _ _ h => h) (Or.inr ⟨by rfl, rfl⟩) ?_ ?_
              rotate_left
              ·
               simp only [Act.put, εm, εn, εo, i64_w, i32_w]
               rfl
              refine pure_ (i := 33) (N := some 76) (v := undef) (a' := ?_) ε34 rfl rfl (any_of HT_.out (by kernel_rfl)) (fun _ _ _ h => h) (Or.inr ⟨by rfl, rfl⟩) ?_ ?_
              rotate_left
              ·
               simp only [Act.put, εm, εn, εo, i64_w, i32_w]
               rfl
              refine pure_ (i := 34) (N := some 77) (v := undef) (a' := ?_) ε35 rfl rfl (any_of HT_.out (by kernel_rfl)) (fun _ _ _ h => h) (Or.inr ⟨by rfl, rfl⟩) ?_ ?_
              rotate_left
              ·
               simp only [Act.put, εm, εn, εo, i64_w, i32_w]
               rfl
              refine pure_ (i := 35) (N := some 78) (v := undef) (a' := ?_) ε36 rfl rfl (any_of HT_.out (by kernel_rfl)) (fun _ _ _ h => h) (Or.inr ⟨by rfl, rfl⟩) ?_ ?_
              rotate_left
              ·
               simp only [Act.put, εm, εn, εo, i64_w, i32_w]
               rfl
              refine pure_ (i := 36) (N := some 79) (v := ?_) (a' := ?_) ε37 rfl rfl (any_of HT_.out (by kernel_rfl)) (fun _ _ _ h => h) (Or.inl ⟨by rfl, ?_⟩) ?_ ?_
              rotate_left; · (intro w'; go_simp; with_reducible rfl)
              rotate_left; · (simp only [Act.put, εm, εn, εo, i64_w, i32_w]; rfl)
              refine pure_ (i := 37) (N := some 80) (v := ?_) (a' := ?_) ε38 rfl rfl (any_of HT_.out (by kernel_rfl)) (fun _ _ _ h => h) (Or.inl ⟨by rfl, ?_⟩) ?_ ?_
              rotate_left; · (intro w'; go_simp; with_reducible rfl)
              rotate_left; · (simp only [Act.put, εm, εn, εo, i64_w, i32_w]; rfl)
              refine pure_ (i := 38) (N := some 81) (v := undef) (a' := ?_) ε39 rfl rfl (any_of HT_.out (by kernel_rfl)) (fun _ _ _ h => h) (Or.inr ⟨by rfl, rfl⟩) ?_ ?_
              rotate_left
              ·
               simp only [Act.put, εm, εn, εo, i64_w, i32_w]
               rfl
              refine pure_ (i := 39) (N := some 82) (v := undef) (a' := ?_) ε40 rfl rfl (any_of HT_.out (by kernel_rfl)) (fun _ _ _ h => h) (Or.inr ⟨by rfl, rfl⟩) ?_ ?_
              rotate_left
              ·
               simp only [Act.put, εm, εn, εo, i64_w, i32_w]
               rfl
              refine pure_ (i := 40) (N := some 83) (v := undef) (a' := ?_) ε41 rfl rfl (any_of HT_.out (by kernel_rfl)) (fun _ _ _ h => h) (Or.inr ⟨by rfl, rfl⟩) ?_ ?_
              rotate_left
              ·
               simp only [Act.put, εm, εn, εo, i64_w, i32_w]
               rfl
              refine pure_ (i := 41) (N := some 84) (v := undef) (a' := ?_) ε42 rfl rfl (any_of HT_.out (by kernel_rfl)) (fun _ _ _ h => h) (Or.inr ⟨by rfl, rfl⟩) ?_ ?_
              rotate_left
              ·
               simp only [Act.put, εm, εn, εo, i64_w, i32_w]
               rfl
              refine pure_ (i := 42) (N := some 85) (v := undef) (a' := ?_) ε43 rfl rfl (any_of HT_.out (by kernel_rfl)) (fun _ _ _ h => h) (Or.inr ⟨by rfl, rfl⟩) ?_ ?_
              rotate_left
              ·
               simp only [Act.put, εm, εn, εo, i64_w, i32_w]
               rfl
              refine pure_ (i := 43) (N := some 86) (v := ?_) (a' := ?_) ε44 rfl rfl (any_of HT_.out (by kernel_rfl)) (fun _ _ _ h => h) (Or.inl ⟨by rfl, ?_⟩) ?_ ?_
              rotate_left; · (intro w'; go_simp; with_reducible rfl)
              rotate_left; · (simp only [Act.put, εm, εn, εo, i64_w, i32_w]; rfl)
              refine done_ (done_of HT_.out (by kernel_rfl)) ?_
              try go_wp2
              go_meet
              case rel => exact ⟨_, (true), (by first | rfl | (simp; done) | (simp [*]; done)), H', ⟨by have := HK1.out; have := HK2.out; first | omega | exact Nat.le_refl _⟩, ⟨by (with_reducible repeat (first | apply εd | apply εe | apply εf)); exact HO_5.out⟩, ⟨by (with_reducible repeat (first | apply εd | apply εe | apply εf)); exact HO_7.out⟩, ⟨by repeat (first | (with_reducible first | exact HB.out | apply εj | apply εh | apply εi) | exact HB.out)⟩⟩
             case rest =>
              clear HC17
              try clear c1
              try clear p1
              try clear q1
              try clear hx1
              try clear qi1
              try clear c2
              try clear p2
              try clear c6
              try clear p6
              try clear p12
              try clear q12
              try clear hx12
              try clear qi12
              try clear c18
              try clear c18b0
              try clear c18b1
              try clear c19
              try clear c21
              try clear c22
              try clear hx124_0
              try clear p124
              try clear q124
              obtain ⟨kq, x86_16, rfl, HA, HJ16, HO_5, HO_7, HB⟩ := hcut
              cases kq with
              | zero => exact absurd HA.out (by simp [spec_MeetOnce.j2])
              | succ kj16 =>
               have H := HA.out
               clear HA
               simp only [spec_MeetOnce.j2] at H
               by_cases c37 : x86_16 = true
               ·
                subst c37
                rw [if_pos rfl] at H
                obtain rfl := Option.some.inj H
                go_wp2
                go_ret
                exact ⟨by first | rfl | (simp [errW_none, errW_some] <;> rfl) | (simp only [← hji5]; first | rfl | (simp [errW_none, errW_some] <;> rfl)) | (simp [*, errW_none, errW_some] <;> rfl), by repeat (first | (with_reducible first | exact HB.out | apply εj | apply εh | apply εi) | exact HB.out)⟩
               replace c37 := Bool.eq_false_iff.mpr c37
               subst c37
               have H1 : (if 0 < ((rd_L1 (rd_L2 l0 x6_1) x8_2).length : Int) then (if 1 < ((rd_L1 (rd_L2 l0 x6_1) x8_2).length : Int) then ((some (([rd (rd_L1 (rd_L2 l0 x6_1) x8_2) 0, rd (rd_L1 (rd_L2 l0 x6_1) x8_2) 1] : List Int) : List Int)).bind fun y136 => (if x7_2.length + y136.length < 17592186044416 then ((spec_Min.f (rd (rd_L1 (rd_L2 l0 x6_1) x8_2) 0) (rd (rd_L1 (rd_L2 l0 x6_1) x8_2) 1)).bind fun t144 => ((spec_Max.f (rd (rd_L1 (rd_L2 l0 x6_1) x8_2) 0) (rd (rd_L1 (rd_L2 l0 x6_1) x8_2) 1)).bind fun t147 => (if 0 ≤ (wrap64 ((wrap64 (t144 * a1)) + t147)) then (if (wrap64 ((wrap64 (t144 * a1)) + t147)) < (x5_2.length : Int) then (spec_MeetOnce.l1 kj16 l0 a1 (x5_2.set ((wrap64 ((wrap64 (t144 * a1)) + t147)) : Int).toNat (wrap64 ((rd x5_2 (wrap64 ((wrap64 (t144 * a1)) + t147))) + 1))) x6_1 (x7_2 ++ y136) (wrap64 (x8_2 + 1))) else (none)) else (none)))) else (none))) else (none)) else (none)) = some r := by rw [if_neg (show ¬ (false = true) by decide)] at H; exact H
               clear H
               have H := H1
               clear H1
               by_cases c38 : 0 < ((rd_L1 (rd_L2 l0 x6_1) x8_2).length : Int)
               ·
                rw [if_pos c38] at H
                have c38b0 : decide (0 < ((rd_L1 (rd_L2 l0 x6_1) x8_2).length : Int)) = true := decide_eq_true c38
                have c38b1 : decide (0 < (rd_L1 (rd_L2 l0 x6_1) x8_2).length) = true := decide_eq_true (by omega)
                clear c38
                by_cases c39 : 1 < ((rd_L1 (rd_L2 l0 x6_1) x8_2).length : Int)
                ·
                 rw [if_pos c39] at H
                 have c39b0 : decide (1 < ((rd_L1 (rd_L2 l0 x6_1) x8_2).length : Int)) = true := decide_eq_true c39
                 have c39b1 : decide (1 < (rd_L1 (rd_L2 l0 x6_1) x8_2).length) = true := decide_eq_true (by omega)
                 clear c39
                 obtain ⟨y136, hy136⟩ : ∃ y_ : List Int, y_ = (([rd (rd_L1 (rd_L2 l0 x6_1) x8_2) 0, rd (rd_L1 (rd_L2 l0 x6_1) x8_2) 1] : List Int)) := ⟨_, rfl⟩
                 replace H : (if x7_2.length + y136.length < 17592186044416 then ((spec_Min.f (rd (rd_L1 (rd_L2 l0 x6_1) x8_2) 0) (rd (rd_L1 (rd_L2 l0 x6_1) x8_2) 1)).bind fun t144 => ((spec_Max.f (rd (rd_L1 (rd_L2 l0 x6_1) x8_2) 0) (rd (rd_L1 (rd_L2 l0 x6_1) x8_2) 1)).bind fun t147 => (if 0 ≤ (wrap64 ((wrap64 (t144 * a1)) + t147)) then (if (wrap64 ((wrap64 (t144 * a1)) + t147)) < (x5_2.length : Int) then (spec_MeetOnce.l1 kj16 l0 a1 (x5_2.set ((wrap64 ((wrap64 (t144 * a1)) + t147)) : Int).toNat (wrap64 ((rd x5_2 (wrap64 ((wrap64 (t144 * a1)) + t147))) + 1))) x6_1 (x7_2 ++ y136) (wrap64 (x8_2 + 1))) else (none)) else (none)))) else (none)) = some r := by first | (rw [hy136]; with_reducible exact H) | (have H2_ := (Option.bind_some _ _).symm.trans H; rw [hy136]; with_reducible exact H2_) | (have H2_ := (Option.bind_some _ _).symm.trans H; with_reducible exact H2_) | with_reducible exact H | (rw [hy136]; exact H) | exact H
                 have Ny136 := εp hy136
                 clear hy136
                 by_cases c40 : x7_2.length + y136.length < 17592186044416
                 ·
                  rw [if_pos c40] at H
                  have LMc40 := εp c40
                  clear c40
                  obtain ⟨y139, hy139⟩ : ∃ y_ : List Int, y_ = (x7_2 ++ y136) := ⟨_, rfl⟩
                  replace H : ((spec_Min.f (rd (rd_L1 (rd_L2 l0 x6_1) x8_2) 0) (rd (rd_L1 (rd_L2 l0 x6_1) x8_2) 1)).bind fun t144 => ((spec_Max.f (rd (rd_L1 (rd_L2 l0 x6_1) x8_2) 0) (rd (rd_L1 (rd_L2 l0 x6_1) x8_2) 1)).bind fun t147 => (if 0 ≤ (wrap64 ((wrap64 (t144 * a1)) + t147)) then (if (wrap64 ((wrap64 (t144 * a1)) + t147)) < (x5_2.length : Int) then (spec_MeetOnce.l1 kj16 l0 a1 (x5_2.set ((wrap64 ((wrap64 (t144 * a1)) + t147)) : Int).toNat (wrap64 ((rd x5_2 (wrap64 ((wrap64 (t144 * a1)) + t147))) + 1))) x6_1 y139 (wrap64 (x8_2 + 1))) else (none)) else (none)))) = some r := by first | (rw [hy139]; with_reducible exact H) | (have H2_ := (Option.bind_some _ _).symm.trans H; rw [hy139]; with_reducible exact H2_) | (have H2_ := (Option.bind_some _ _).symm.trans H; with_reducible exact H2_) | with_reducible exact H | (rw [hy139]; exact H) | exact H
                  have Ny139 := εp hy139
                  clear hy139
                  replace H := Option.bind_eq_some_iff.mp H
                  obtain ⟨t144, A410, H⟩ := H
                  try dsimp only at H
                  have A41 := εp A410
                  clear A410
                  replace H := Option.bind_eq_some_iff.mp H
                  obtain ⟨t147, A420, H⟩ := H
                  try dsimp only at H
                  have A42 := εp A420
                  clear A420
                  obtain ⟨ji43, hji43⟩ : ∃ j_ : Int, (wrap64 ((wrap64 (t144 * a1)) + t147)) = j_ := ⟨_, rfl⟩
                  replace H : (if 0 ≤ (ji43) then (if (ji43) < (x5_2.length : Int) then (spec_MeetOnce.l1 kj16 l0 a1 (x5_2.set ((ji43) : Int).toNat (wrap64 ((rd x5_2 (ji43)) + 1))) x6_1 y139 (wrap64 (x8_2 + 1))) else (none)) else (none)) = some r := by first | (rw [hji43] at H; exact H) | (simp only [hji43] at H ⊢; exact H)
                  (try rw [hji43] at A41)
                  (try rw [hji43] at A42)
                  have hji43w : (IntKind.i64.wrap ((wrap64 (t144 * a1)) + t147)) = ji43 := (i64_w _).trans hji43
                  by_cases c44 : 0 ≤ (ji43)
                  ·
                   rw [if_pos c44] at H
                   have c44b0 : decide (0 ≤ (ji43)) = true := decide_eq_true c44
                   clear c44
                   by_cases c45 : (ji43) < (x5_2.length : Int)
                   ·
                    rw [if_pos c45] at H
                    have c45b0 : decide ((ji43) < (x5_2.length : Int)) = true := decide_eq_true c45
                    clear c45
                    obtain ⟨y149, hy149⟩ : ∃ y_ : List Int, y_ = (x5_2.set ((ji43) : Int).toNat (wrap64 ((rd x5_2 (ji43)) + 1))) := ⟨_, rfl⟩
                    replace H : (spec_MeetOnce.l1 kj16 l0 a1 y149 x6_1 y139 (wrap64 (x8_2 + 1))) = some r := by first | (rw [hy149]; with_reducible exact H) | (have H2_ := (Option.bind_some _ _).symm.trans H; rw [hy149]; with_reducible exact H2_) | (have H2_ := (Option.bind_some _ _).symm.trans H; with_reducible exact H2_) | with_reducible exact H | (rw [hy149]; exact H) | exact H
                    have Ny149 := εp hy149
                    clear hy149
                    have H' := εp H
                    clear H
                    try go_wp2
                    have n0_ := εp (εf HO_5.out)
                    have n1_ := εp (εf HO_7.out)
                    have n2_ := εp (εi HB.out)
                    clear HO_5
                    clear HO_7
                    clear HB
                    have HO_5 := n0_
                    have HO_7 := n1_
                    have HB := n2_
                    clear n0_ n1_ n2_
                    have p134 : 0 ≤ (0 : Int) := (by omega)
                    have q134 : 0 < ((rd_L1 (rd_L2 l0 x6_1) x8_2).length : Int) := of_decide_eq_true (by first | (with_reducible assumption) | assumption)
                    obtain ⟨ad134, e134, hx134_0⟩ := Kd.at_int HR123_0.out 0 p134 q134
                    have hw134_0 := hx134_0
                    (try rw [show ((0 : Int)).toNat = 0 from rfl] at hw134_0)
                    (try rw [show 0 * 1 = 0 from rfl] at hw134_0)
                    (try rw [Addr.add_zero'] at hw134_0)
                    cases e134
                    have qi134 : (0 < (rd_L1 (rd_L2 l0 x6_1) x8_2).length) = True := eq_true (by omega)
                    (try rw [show ((0 : Int)).toNat = 0 from rfl] at hx134_0)
                    (try rw [Addr.add_zero'] at hx134_0)
                    replace hx134_0 := (HB.out.cell (World.block_lt_of_cell? w _ hx134_0)).trans hx134_0
                    replace p134 := eq_true p134
                    replace q134 := eq_true q134
                    have p135 : 0 ≤ (1 : Int) := (by omega)
                    have q135 : 1 < ((rd_L1 (rd_L2 l0 x6_1) x8_2).length : Int) := of_decide_eq_true (by first | (with_reducible assumption) | assumption)
                    obtain ⟨ad135, e135, hx135_0⟩ := Kd.at_int HR123_0.out 1 p135 q135
                    have hw135_0 := hx135_0
                    (try rw [show ((1 : Int)).toNat = 1 from rfl] at hw135_0)
                    (try rw [show 1 * 1 = 1 from rfl] at hw135_0)
                    (try simp only [Nat.reduceMul, Nat.reduceEqDiff, Go.Addr.add, ↓reduceIte] at hw135_0)
                    obtain rfl : ad134 = ad135 := (by injection e135)
                    (try simp only [show (1 : Int).toNat = 1 from rfl, Nat.reduceMul, Nat.reduceEqDiff, Go.Addr.add, ↓reduceIte] at hx135_0)
                    have qi135 : (1 < (rd_L1 (rd_L2 l0 x6_1) x8_2).length) = True := eq_true (by omega)
                    (try rw [show ((1 : Int)).toNat = 1 from rfl] at hx135_0)
                    replace hx135_0 := (HB.out.cell (World.block_lt_of_cell? w _ hx135_0)).trans hx135_0
                    replace p135 := eq_true p135
                    replace q135 := eq_true q135
                    refine start_ (n := 10) (S := fun w' => w'.cell? ad134 = some (.int .i64 (rd (rd_L1 (rd_L2 l0 x6_1) x8_2) 0)) ∧ w'.cell? ⟨ad134.block, ad134.off + 1, none⟩ = some (.int .i64 (rd (rd_L1 (rd_L2 l0 x6_1) x8_2) 1))) (ds := []) ε51 (by kernel_rfl) rfl rfl ⟨((HB.out.cell (World.block_lt_of_cell? w _ hw134_0)).trans hw134_0), ((HB.out.cell (World.block_lt_of_cell? w _ hw135_0)).trans hw135_0)⟩ (fun hHeld => ?_); refine with_tabW spec_MeetOnce.tab14 spec_MeetOnce.bits14 (fun HT_ HW_ => ?_)
                    generalize wc.drew = w47 at HO_5 HO_7 HB hx134_0 hx135_0 hHeld ⊢
                    refine pure_ (i := 0) (N := some 87) (v := ?_) (a' := ?_) ε52 rfl rfl (any_of HT_.out (by kernel_rfl)) (fun _ _ _ h => h) (Or.inl ⟨by rfl, ?_⟩) ?_ ?_
                    rotate_left; · (intro w'; go_simp; with_reducible rfl)
                    rotate_left; · (simp only [Act.put, εm, εn, εo, i64_w, i32_w]; rfl)
                    refine pure_ (i := 1) (N := some 88) (v := ?_) (a' := ?_) ε53 rfl rfl (any_of HT_.out (by kernel_rfl)) (fun _ _ _ h => h) (Or.inl ⟨by rfl, ?_⟩) ?_ ?_
                    rotate_left; · (intro w'; go_simp; with_reducible rfl)
                    rotate_left; · (simp only [Act.put, εm, εn, εo, i64_w, i32_w]; rfl)
                    refine pure_ (i := 2) (N := some 89) (v := ?_) (a' := ?_) ε54 rfl rfl (any_of HT_.out (by kernel_rfl)) (fun _ _ _ h => h) (Or.inl ⟨by rfl, ?_⟩) ?_ ?_
                    rotate_left; · (intro w'; go_simp; with_reducible rfl)
                    rotate_left; · (simp only [Act.put, εm, εn, εo, i64_w, i32_w]; rfl)
                    refine pure_ (i := 4) (N := some 91) (v := ?_) (a' := ?_) ε55 rfl rfl (any_of HT_.out (by kernel_rfl)) (fun _ _ _ h => h) (Or.inl ⟨by rfl, ?_⟩) ?_ ?_
                    rotate_left; · (intro w'; go_simp; with_reducible rfl)
                    rotate_left; · (simp only [Act.put, εm, εn, εo, i64_w, i32_w]; rfl)
                    refine pure_ (i := 5) (N := some 92) (v := ?_) (a' := ?_) ε56 rfl rfl (any_of HT_.out (by kernel_rfl)) (fun _ _ _ h => h) (Or.inl ⟨by rfl, ?_⟩) ?_ ?_
                    rotate_left; · (intro w'; go_simp; with_reducible rfl)
                    rotate_left; · (simp only [Act.put, εm, εn, εo, i64_w, i32_w]; rfl)
                    refine take_ (i := 3) (N := some 90) (v := ?_) (a' := ?_) ε57 rfl rfl (take_ofW HT_.out HW_.out (by kernel_rfl)) (fun _ _ _ h => h) (Or.inl ⟨by rfl, ?_⟩) hHeld ?_ ?_
                    rotate_left
                    ·
                     rintro w' ⟨s0, s1⟩
                     go_simp
                     with_reducible rfl
                    rotate_left
                    ·
                     simp only [Act.put, εm, εn, εo, i64_w, i32_w]
                     rfl
                    refine take_ (i := 6) (N := some 93) (v := ?_) (a' := ?_) ε58 rfl rfl (take_ofW HT_.out HW_.out (by kernel_rfl)) (fun _ _ _ h => h) (Or.inl ⟨by rfl, ?_⟩) hHeld ?_ ?_
                    rotate_left
                    ·
                     rintro w' ⟨s0, s1⟩
                     go_simp
                     with_reducible rfl
                    rotate_left
                    ·
                     simp only [Act.put, εm, εn, εo, i64_w, i32_w]
                     rfl
                    refine one_ (i := 7) (N := some 94) ε59 rfl rfl (one_of HT_.out (by kernel_rfl)) (by decide) (fun K hK => ?_)
                    refine Kd.R_lit_step (Kd.int .i64) _ 3 ?hg (N := 94) ?hd (xs := ([rd (rd_L1 (rd_L2 l0 x6_1) x8_2) 0, rd (rd_L1 (rd_L2 l0 x6_1) x8_2) 1] : List Int)) (inner := [.int .i64 (rd (rd_L1 (rd_L2 l0 x6_1) x8_2) 0), .int .i64 (rd (rd_L1 (rd_L2 l0 x6_1) x8_2) 1)]) (ok := fun _ => True) (okp := fun _ => True) ?hr ?hp (fun _ hk => hk) trivial (Below.refl _ _) (Nat.le_refl _) (by simp) ?_; (case hd => rfl); (case hg => rfl); (case hr => first | (go_simp; done) | (go_simp; rfl)); (case hp => exact (Reps.one (show Kd.M (Kd.int .i64) _ _ _ (rd (rd_L1 (rd_L2 l0 x6_1) x8_2) 0) [.int .i64 (rd (rd_L1 (rd_L2 l0 x6_1) x8_2) 0)] from rfl) (Reps.one (show Kd.M (Kd.int .i64) _ _ _ (rd (rd_L1 (rd_L2 l0 x6_1) x8_2) 1) [.int .i64 (rd (rd_L1 (rd_L2 l0 x6_1) x8_2) 1)] from rfl) (Reps.none _ _))))
                    intro v137 w48 ho49 hb hg_ hnew_
                    clear hg_ hnew_
                    (first | rw [← Ny136.out] at ho49 | (simp only [Int.reduceToNat] at ho49; rw [← Ny136.out] at ho49))
                    have n0_ := εp (Kd.R_elder' (by (with_reducible repeat (first | apply εd | apply εe | apply εf)); exact HO_5.out) (Kd.R_base ho49) hb)
                    have n1_ := εp (Kd.R_elder' (by (with_reducible repeat (first | apply εd | apply εe | apply εf)); exact HO_7.out) (Kd.R_base ho49) hb)
                    have n2_ := εp (Kd.R_lower (Kd.R_new' (Kd.R_new' ho49 (Kd.R_lt (by (with_reducible repeat (first | apply εd | apply εe | apply εf)); exact HO_5.out))) (Kd.R_lt (by (with_reducible repeat (first | apply εd | apply εe | apply εf)); exact HO_7.out))) (below_size (by repeat (first | (with_reducible first | exact HB.out | apply εj | apply εh | apply εi) | exact HB.out))))
                    have n3_ := εp (below_step (by repeat (first | (with_reducible first | exact HB.out | apply εj | apply εh | apply εi) | exact HB.out)) hb)
                    clear HO_5
                    clear HO_7
                    clear HB
                    have HO_5 := n0_
                    have HO_7 := n1_
                    have HO138 := n2_
                    have HB := n3_
                    clear n0_ n1_ n2_ n3_
                    clear hb ho49
                    obtain ⟨Ao51, co51, eo51⟩ := Kd.R_slice HO138.out
                    (first | subst eo51 | (injection eo51 with f1_ f2_ f3_; have f4_ := f1_.symm; have f5_ := f3_.symm; clear f1_ f2_ f3_; subst f4_; subst f5_))
                    refine hK.out _ _ ⟨((HB.out.cell (World.block_lt_of_cell? w _ hw134_0)).trans hw134_0), ((HB.out.cell (World.block_lt_of_cell? w _ hw135_0)).trans hw135_0)⟩ (fun hHeld => ?_)
                    clear hK K
                    refine norm_ (a' := ?_) ?_ ?_
                    rotate_left
                    ·
                     show Act.put _ (some 94) _ = _
                     simp only [Act.put, εm, εn, εo, i64_w, i32_w]
                     rfl
                    refine one_ (i := 8) (N := some 95) ε60 rfl rfl (one_of HT_.out (by kernel_rfl)) (by decide) (fun K hK => ?_)
                    refine Kd.R_append_rows_step (Kd.int .i64) (w0 := w) w.heap.size (by rfl) (.tmp 87) (.tmp 94) 45 3 (.int .i64 0) 8 rfl Try.underlying45 info3 rfl (by decide) (by omega) u7 x7_2 y136 _ _ _ (fun k_ => some k_ ≠ (v116 : Value).ownBlock ∧ some k_ ≠ (.slice Ao51 y136.length co51 : Value).ownBlock) (fun _ => False) rfl rfl ?aO ?aR (fun _ _ h => h) (fun _ h => h.elim) ?aF ?aB ?aS ?aL ?_
                    (case aR => repeat (first | exact (Kd.R_reads' HO138.out).2.2 | (with_reducible refine Kd.C_alloc ?_ _) | (with_reducible refine Kd.C_drewN ?_ _) | (with_reducible refine Kd.C_drew ?_)))
                    (case aB => exact (by repeat (first | (with_reducible first | exact HB.out | apply εj | apply εh | apply εi) | exact HB.out)))
                    (case aF => exact (fun k_ hk => ⟨Kd.fresh' (Kd.R_lt (by (with_reducible repeat (first | apply εd | apply εe | apply εf)); exact HO_5.out)) k_ hk, Kd.fresh' (Kd.R_lt (by (with_reducible repeat (first | apply εd | apply εe | apply εf)); exact HO138.out)) k_ hk⟩))
                    (case aO => exact (by (with_reducible repeat (first | apply εd | apply εe | apply εf)); exact HO_7.out))
                    (case aS => exact (below_size (by repeat (first | (with_reducible first | exact HB.out | apply εj | apply εh | apply εi) | exact HB.out))))
                    (case aL => have := LMc40.out; omega)
                    intro v140 w50 ho hb hg hat
                    rw [← Ny139.out] at ho
                    have n0_ := εp (Kd.R_after (ok := (fun k_ => some k_ ≠ (.slice Ao51 y136.length co51 : Value).ownBlock)) (by (with_reducible repeat (first | apply εd | apply εe | apply εf)); exact Kd.R_mono HO_5.out (fun _ hk => ⟨hk.2, hk.1⟩)) hg hat)
                    have n1_ := εp (Kd.R_after (ok := (fun k_ => some k_ ≠ (v116 : Value).ownBlock)) (by (with_reducible repeat (first | apply εd | apply εe | apply εf)); exact Kd.R_mono HO138.out (fun _ hk => ⟨hk.1.2, hk.2⟩)) hg hat)
                    have n2_ := εp (hb)
                    have n3_ := εp (ho)
                    clear HO_5
                    clear HO138
                    clear HB
                    clear HO_7
                    have HO_5 := n0_
                    have HO138 := n1_
                    have HB := n2_
                    have HO141 := n3_
                    clear n0_ n1_ n2_ n3_
                    clear ho hb hg hat
                    refine hK.out _ _ ⟨((HB.out.cell (World.block_lt_of_cell? w _ hw134_0)).trans hw134_0), ((HB.out.cell (World.block_lt_of_cell? w _ hw135_0)).trans hw135_0)⟩ (fun hHeld => ?_)
                    clear hK K
                    refine norm_ (a' := ?_) ?_ ?_
                    rotate_left
                    ·
                     show Act.put _ (some 95) _ = _
                     simp only [Act.put, εm, εn, εo, i64_w, i32_w]
                     rfl
                    refine pure_ (i := 9) (N := some 7) (v := ?_) (a' := ?_) ε61 rfl rfl (any_of HT_.out (by kernel_rfl)) (fun _ _ _ h => h) (Or.inl ⟨by rfl, ?_⟩) ?_ ?_
                    rotate_left; · (intro w'; go_simp; with_reducible rfl)
                    rotate_left; · (simp only [Act.put, εm, εn, εo, i64_w, i32_w]; rfl)
                    refine done_ (done_of HT_.out (by kernel_rfl)) ?_
                    try go_wp2
                    have n0_ := εp (εf HO_5.out)
                    have n1_ := εp (εf HO138.out)
                    have n2_ := εp (εf HO141.out)
                    have n3_ := εp (εi HB.out)
                    clear HO_5
                    clear HO138
                    clear HO141
                    clear HB
                    have HO_5 := n0_
                    have HO138 := n1_
                    have HO141 := n2_
                    have HB := n3_
                    clear n0_ n1_ n2_ n3_
                    have p142 : 0 ≤ (0 : Int) := (by omega)
                    have q142 : 0 < ((rd_L1 (rd_L2 l0 x6_1) x8_2).length : Int) := of_decide_eq_true (by first | (with_reducible assumption) | assumption)
                    obtain ⟨ad142, e142, hx142_0⟩ := Kd.at_int HR123_0.out 0 p142 q142
                    have hw142_0 := hx142_0
                    (try rw [show ((0 : Int)).toNat = 0 from rfl] at hw142_0)
                    (try rw [show 0 * 1 = 0 from rfl] at hw142_0)
                    (try rw [Addr.add_zero'] at hw142_0)
                    obtain rfl : ad134 = ad142 := (by injection e142)
                    have qi142 : (0 < (rd_L1 (rd_L2 l0 x6_1) x8_2).length) = True := eq_true (by omega)
                    (try rw [show ((0 : Int)).toNat = 0 from rfl] at hx142_0)
                    (try rw [Addr.add_zero'] at hx142_0)
                    replace hx142_0 := (HB.out.cell (World.block_lt_of_cell? w _ hx142_0)).trans hx142_0
                    replace p142 := eq_true p142
                    replace q142 := eq_true q142
                    have p143 : 0 ≤ (1 : Int) := (by omega)
                    have q143 : 1 < ((rd_L1 (rd_L2 l0 x6_1) x8_2).length : Int) := of_decide_eq_true (by first | (with_reducible assumption) | assumption)
                    obtain ⟨ad143, e143, hx143_0⟩ := Kd.at_int HR123_0.out 1 p143 q143
                    have hw143_0 := hx143_0
                    (try rw [show ((1 : Int)).toNat = 1 from rfl] at hw143_0)
                    (try rw [show 1 * 1 = 1 from rfl] at hw143_0)
                    (try simp only [Nat.reduceMul, Nat.reduceEqDiff, Go.Addr.add, ↓reduceIte] at hw143_0)
                    obtain rfl : ad134 = ad143 := (by injection e143)
                    (try simp only [show (1 : Int).toNat = 1 from rfl, Nat.reduceMul, Nat.reduceEqDiff, Go.Addr.add, ↓reduceIte] at hx143_0)
                    have qi143 : (1 < (rd_L1 (rd_L2 l0 x6_1) x8_2).length) = True := eq_true (by omega)
                    (try rw [show ((1 : Int)).toNat = 1 from rfl] at hx143_0)
                    replace hx143_0 := (HB.out.cell (World.block_lt_of_cell? w _ hx143_0)).trans hx143_0
                    replace p143 := eq_true p143
                    replace q143 := eq_true q143
                    have p145 : 0 ≤ (0 : Int) := (by omega)
                    have q145 : 0 < ((rd_L1 (rd_L2 l0 x6_1) x8_2).length : Int) := of_decide_eq_true (by first | (with_reducible assumption) | assumption)
                    obtain ⟨ad145, e145, hx145_0⟩ := Kd.at_int HR123_0.out 0 p145 q145
                    have hw145_0 := hx145_0
                    (try rw [show ((0 : Int)).toNat = 0 from rfl] at hw145_0)
                    (try rw [show 0 * 1 = 0 from rfl] at hw145_0)
                    (try rw [Addr.add_zero'] at hw145_0)
                    obtain rfl : ad134 = ad145 := (by injection e145)
                    have qi145 : (0 < (rd_L1 (rd_L2 l0 x6_1) x8_2).length) = True := eq_true (by omega)
                    (try rw [show ((0 : Int)).toNat = 0 from rfl] at hx145_0)
                    (try rw [Addr.add_zero'] at hx145_0)
                    replace hx145_0 := (HB.out.cell (World.block_lt_of_cell? w _ hx145_0)).trans hx145_0
                    replace p145 := eq_true p145
                    replace q145 := eq_true q145
                    have p146 : 0 ≤ (1 : Int) := (by omega)
                    have q146 : 1 < ((rd_L1 (rd_L2 l0 x6_1) x8_2).length : Int) := of_decide_eq_true (by first | (with_reducible assumption) | assumption)
                    obtain ⟨ad146, e146, hx146_0⟩ := Kd.at_int HR123_0.out 1 p146 q146
                    have hw146_0 := hx146_0
                    (try rw [show ((1 : Int)).toNat = 1 from rfl] at hw146_0)
                    (try rw [show 1 * 1 = 1 from rfl] at hw146_0)
                    (try simp only [Nat.reduceMul, Nat.reduceEqDiff, Go.Addr.add, ↓reduceIte] at hw146_0)
                    obtain rfl : ad134 = ad146 := (by injection e146)
                    (try simp only [show (1 : Int).toNat = 1 from rfl, Nat.reduceMul, Nat.reduceEqDiff, Go.Addr.add, ↓reduceIte] at hx146_0)
                    have qi146 : (1 < (rd_L1 (rd_L2 l0 x6_1) x8_2).length) = True := eq_true (by omega)
                    (try rw [show ((1 : Int)).toNat = 1 from rfl] at hx146_0)
                    replace hx146_0 := (HB.out.cell (World.block_lt_of_cell? w _ hx146_0)).trans hx146_0
                    replace p146 := eq_true p146
                    replace q146 := eq_true q146
                    refine start_ (n := 18) (S := fun w' => w'.cell? ad134 = some (.int .i64 (rd (rd_L1 (rd_L2 l0 x6_1) x8_2) 0)) ∧ w'.cell? ⟨ad134.block, ad134.off + 1, none⟩ = some (.int .i64 (rd (rd_L1 (rd_L2 l0 x6_1) x8_2) 1)) ∧ w'.cell? ad134 = some (.int .i64 (rd (rd_L1 (rd_L2 l0 x6_1) x8_2) 0)) ∧ w'.cell? ⟨ad134.block, ad134.off + 1, none⟩ = some (.int .i64 (rd (rd_L1 (rd_L2 l0 x6_1) x8_2) 1))) (ds := []) ε62 (by kernel_rfl) rfl rfl ⟨((HB.out.cell (World.block_lt_of_cell? w _ hw142_0)).trans hw142_0), ((HB.out.cell (World.block_lt_of_cell? w _ hw143_0)).trans hw143_0), ((HB.out.cell (World.block_lt_of_cell? w _ hw145_0)).trans hw145_0), ((HB.out.cell (World.block_lt_of_cell? w _ hw146_0)).trans hw146_0)⟩ (fun hHeld => ?_); refine with_tabW spec_MeetOnce.tab15 spec_MeetOnce.bits15 (fun HT_ HW_ => ?_)
                    generalize w50.drew = w52 at HO_5 HO138 HO141 HB hx142_0 hx143_0 hx145_0 hx146_0 hHeld ⊢
                    refine pure_ (i := 0) (N := some 96) (v := ?_) (a' := ?_) ε63 rfl rfl (any_of HT_.out (by kernel_rfl)) (fun _ _ _ h => h) (Or.inl ⟨by rfl, ?_⟩) ?_ ?_
                    rotate_left; · (intro w'; go_simp; with_reducible rfl)
                    rotate_left; · (simp only [Act.put, εm, εn, εo, i64_w, i32_w]; rfl)
                    refine pure_ (i := 1) (N := some 97) (v := ?_) (a' := ?_) ε64 rfl rfl (any_of HT_.out (by kernel_rfl)) (fun _ _ _ h => h) (Or.inl ⟨by rfl, ?_⟩) ?_ ?_
                    rotate_left; · (intro w'; go_simp; with_reducible rfl)
                    rotate_left; · (simp only [Act.put, εm, εn, εo, i64_w, i32_w]; rfl)
                    refine pure_ (i := 3) (N := some 99) (v := ?_) (a' := ?_) ε65 rfl rfl (any_of HT_.out (by kernel_rfl)) (fun _ _ _ h => h) (Or.inl ⟨by rfl, ?_⟩) ?_ ?_
                    rotate_left; · (intro w'; go_simp; with_reducible rfl)
                    rotate_left; · (simp only [Act.put, εm, εn, εo, i64_w, i32_w]; rfl)
                    refine pure_ (i := 4) (N := some 100) (v := ?_) (a' := ?_) ε66 rfl rfl (any_of HT_.out (by kernel_rfl)) (fun _ _ _ h => h) (Or.inl ⟨by rfl, ?_⟩) ?_ ?_
                    rotate_left; · (intro w'; go_simp; with_reducible rfl)
                    rotate_left; · (simp only [Act.put, εm, εn, εo, i64_w, i32_w]; rfl)
                    refine pure_ (i := 7) (N := some 103) (v := ?_) (a' := ?_) ε67 rfl rfl (any_of HT_.out (by kernel_rfl)) (fun _ _ _ h => h) (Or.inl ⟨by rfl, ?_⟩) ?_ ?_
                    rotate_left; · (intro w'; go_simp; with_reducible rfl)
                    rotate_left; · (simp only [Act.put, εm, εn, εo, i64_w, i32_w]; rfl)
                    refine pure_ (i := 9) (N := some 105) (v := ?_) (a' := ?_) ε68 rfl rfl (any_of HT_.out (by kernel_rfl)) (fun _ _ _ h => h) (Or.inl ⟨by rfl, ?_⟩) ?_ ?_
                    rotate_left; · (intro w'; go_simp; with_reducible rfl)
                    rotate_left; · (simp only [Act.put, εm, εn, εo, i64_w, i32_w]; rfl)
                    refine pure_ (i := 10) (N := some 106) (v := ?_) (a' := ?_) ε69 rfl rfl (any_of HT_.out (by kernel_rfl)) (fun _ _ _ h => h) (Or.inl ⟨by rfl, ?_⟩) ?_ ?_
                    rotate_left; · (intro w'; go_simp; with_reducible rfl)
                    rotate_left; · (simp only [Act.put, εm, εn, εo, i64_w, i32_w]; rfl)
                    refine pure_ (i := 12) (N := some 108) (v := ?_) (a' := ?_) ε70 rfl rfl (any_of HT_.out (by kernel_rfl)) (fun _ _ _ h => h) (Or.inl ⟨by rfl, ?_⟩) ?_ ?_
                    rotate_left; · (intro w'; go_simp; with_reducible rfl)
                    rotate_left; · (simp only [Act.put, εm, εn, εo, i64_w, i32_w]; rfl)
                    refine pure_ (i := 13) (N := some 109) (v := ?_) (a' := ?_) ε71 rfl rfl (any_of HT_.out (by kernel_rfl)) (fun _ _ _ h => h) (Or.inl ⟨by rfl, ?_⟩) ?_ ?_
                    rotate_left; · (intro w'; go_simp; with_reducible rfl)
                    rotate_left; · (simp only [Act.put, εm, εn, εo, i64_w, i32_w]; rfl)
                    refine take_ (i := 2) (N := some 98) (v := ?_) (a' := ?_) ε72 rfl rfl (take_ofW HT_.out HW_.out (by kernel_rfl)) (fun _ _ _ h => h) (Or.inl ⟨by rfl, ?_⟩) hHeld ?_ ?_
                    rotate_left
                    ·
                     rintro w' ⟨s0, s1, s2, s3⟩
                     go_simp
                     with_reducible rfl
                    rotate_left
                    ·
                     simp only [Act.put, εm, εn, εo, i64_w, i32_w]
                     rfl
                    refine take_ (i := 5) (N := some 101) (v := ?_) (a' := ?_) ε73 rfl rfl (take_ofW HT_.out HW_.out (by kernel_rfl)) (fun _ _ _ h => h) (Or.inl ⟨by rfl, ?_⟩) hHeld ?_ ?_
                    rotate_left
                    ·
                     rintro w' ⟨s0, s1, s2, s3⟩
                     go_simp
                     with_reducible rfl
                    rotate_left
                    ·
                     simp only [Act.put, εm, εn, εo, i64_w, i32_w]
                     rfl
                    refine take_ (i := 11) (N := some 107) (v := ?_) (a' := ?_) ε74 rfl rfl (take_ofW HT_.out HW_.out (by kernel_rfl)) (fun _ _ _ h => h) (Or.inl ⟨by rfl, ?_⟩) hHeld ?_ ?_
                    rotate_left
                    ·
                     rintro w' ⟨s0, s1, s2, s3⟩
                     go_simp
                     with_reducible rfl
                    rotate_left
                    ·
                     simp only [Act.put, εm, εn, εo, i64_w, i32_w]
                     rfl
                    refine take_ (i := 14) (N := some 110) (v := ?_) (a' := ?_) ε75 rfl rfl (take_ofW HT_.out HW_.out (by kernel_rfl)) (fun _ _ _ h => h) (Or.inl ⟨by rfl, ?_⟩) hHeld ?_ ?_
                    rotate_left
                    ·
                     rintro w' ⟨s0, s1, s2, s3⟩
                     go_simp
                     with_reducible rfl
                    rotate_left
                    ·
                     simp only [Act.put, εm, εn, εo, i64_w, i32_w]
                     rfl
                    refine one_ (i := 6) (N := some 102) ε76 rfl rfl (one_of HT_.out (by kernel_rfl)) (by decide) (fun K hK => ?_)
                    refine goes_ Try.func74 (by kernel_rfl) rfl #[.int .i64 (rd (rd_L1 (rd_L2 l0 x6_1) x8_2) 0), .int .i64 (rd (rd_L1 (rd_L2 l0 x6_1) x8_2) 1)] (by rfl) rfl rfl (by (try simp only [List.map_toArray, List.map_cons, List.map_nil]); first | done | rfl | (simp only [List.length_drop, List.length_take]; rfl)) ?_
                    with_reducible refine (spec_Min.calls (rd (rd_L1 (rd_L2 l0 x6_1) x8_2) 0) (rd (rd_L1 (rd_L2 l0 x6_1) x8_2) 1) t144 _ A41.out).mono ?_
                    rintro e w' ⟨rfl, ⟨nd1_, rfl⟩⟩
                    refine ⟨_, rfl, ?_⟩
                    refine hK.out _ _ ⟨((HB.out.cell (World.block_lt_of_cell? w _ hw142_0)).trans hw142_0), ((HB.out.cell (World.block_lt_of_cell? w _ hw143_0)).trans hw143_0), ((HB.out.cell (World.block_lt_of_cell? w _ hw145_0)).trans hw145_0), ((HB.out.cell (World.block_lt_of_cell? w _ hw146_0)).trans hw146_0)⟩ (fun hHeld => ?_)
                    clear hK K
                    refine norm_ (a' := ?_) ?_ ?_
                    rotate_left
                    ·
                     show Act.put _ (some 102) _ = _
                     simp only [Act.put, εm, εn, εo, i64_w, i32_w]
                     rfl
                    refine pure_ (i := 8) (N := some 104) (v := ?_) (a' := ?_) ε77 rfl rfl (any_of HT_.out (by kernel_rfl)) (fun _ _ _ h => h) (Or.inl ⟨by rfl, ?_⟩) ?_ ?_
                    rotate_left; · (intro w'; go_simp; with_reducible rfl)
                    rotate_left; · (simp only [Act.put, εm, εn, εo, i64_w, i32_w]; rfl)
                    refine one_ (i := 15) (N := some 111) ε78 rfl rfl (one_of HT_.out (by kernel_rfl)) (by decide) (fun K hK => ?_)
                    refine goes_ Try.func75 (by kernel_rfl) rfl #[.int .i64 (rd (rd_L1 (rd_L2 l0 x6_1) x8_2) 0), .int .i64 (rd (rd_L1 (rd_L2 l0 x6_1) x8_2) 1)] (by rfl) rfl rfl (by (try simp only [List.map_toArray, List.map_cons, List.map_nil]); first | done | rfl | (simp only [List.length_drop, List.length_take]; rfl)) ?_
                    with_reducible refine (spec_Max.calls (rd (rd_L1 (rd_L2 l0 x6_1) x8_2) 0) (rd (rd_L1 (rd_L2 l0 x6_1) x8_2) 1) t147 _ A42.out).mono ?_
                    rintro e w' ⟨rfl, ⟨nd, rfl⟩⟩
                    refine ⟨_, rfl, ?_⟩
                    refine hK.out _ _ ⟨((HB.out.cell (World.block_lt_of_cell? w _ hw142_0)).trans hw142_0), ((HB.out.cell (World.block_lt_of_cell? w _ hw143_0)).trans hw143_0), ((HB.out.cell (World.block_lt_of_cell? w _ hw145_0)).trans hw145_0), ((HB.out.cell (World.block_lt_of_cell? w _ hw146_0)).trans hw146_0)⟩ (fun hHeld => ?_)
                    clear hK K
                    refine norm_ (a' := ?_) ?_ ?_
                    rotate_left
                    ·
                     show Act.put _ (some 111) _ = _
                     simp only [Act.put, εm, εn, εo, i64_w, i32_w]
                     rfl
                    refine pure_ (i := 16) (N := some 112) (v := ?_) (a' := ?_) ε79 rfl rfl (any_of HT_.out (by kernel_rfl)) (fun _ _ _ h => h) (Or.inl ⟨by rfl, ?_⟩) ?_ ?_
                    rotate_left; · (intro w'; go_simp; with_reducible rfl)
                    rotate_left; · (simp only [Act.put, εm, εn, εo, i64_w, i32_w]; rfl)
                    refine pure_ (i := 17) (N := some 10) (v := ?_) (a' := ?_) ε80 rfl rfl (any_of HT_.out (by kernel_rfl)) (fun _ _ _ h => h) (Or.inl ⟨by rfl, ?_⟩) ?_ ?_
                    rotate_left; · (intro w'; go_simp; with_reducible rfl)
                    rotate_left; · (simp only [Act.put, εm, εn, εo, i64_w, i32_w]; rfl)
                    refine done_ (done_of HT_.out (by kernel_rfl)) ?_
                    have n0_ := εp (εe (εe HO_5.out nd1_) nd)
                    have n1_ := εp (εe (εe HO138.out nd1_) nd)
                    have n2_ := εp (εe (εe HO141.out nd1_) nd)
                    have n3_ := εp (show Below w.heap.size w ((w52.drewN nd1_).drewN nd) from (by repeat (first | (with_reducible first | exact HB.out | apply εj | apply εh | apply εi) | exact HB.out)))
                    clear HO_5 HO138 HO141 HB
                    generalize ((w52.drewN nd1_).drewN nd) = w53_ at n0_ n1_ n2_ n3_ ⊢
                    have HO_5 := n0_
                    have HO138 := n1_
                    have HO141 := n2_
                    have HB := n3_
                    clear n0_ n1_ n2_ n3_
                    obtain ⟨Ao53, co53, eo53⟩ := Kd.R_slice HO_5.out
                    subst eo53
                    have p148 : 0 ≤ ((ji43) : Int) := of_decide_eq_true (by first | (with_reducible assumption) | assumption)
                    have q148 : (ji43) < (x5_2.length : Int) := of_decide_eq_true (by first | (with_reducible assumption) | assumption)
                    obtain ⟨ad148, e148, hx148_0⟩ := Kd.at_int (Kd.R_reads' HO_5.out).2.2 (ji43) p148 q148
                    cases e148
                    replace p148 := eq_true p148
                    replace q148 := eq_true q148
                    have p46 : 0 ≤ ((ji43) : Int) := of_decide_eq_true (by first | (with_reducible assumption) | assumption)
                    have q46 : ((ji43) : Int) < ((x5_2.length : Int) : Int) := of_decide_eq_true (by first | (with_reducible assumption) | assumption)
                    obtain ⟨go46, co46, eo46, gb46, gl46, cl46, HG46⟩ := Kd.R_form HO_5.out (by omega)
                    (first | cases eo46 | (injection eo46 with ea_ en_ ec_; (first | subst ea_ | (injection ea_ with ea_; subst ea_)); subst ec_; clear en_))
                    have GB46 := εp gb46
                    have GG46 := εp HG46
                    clear gb46 gl46 HG46
                    (first | simp only [add_plain] at hx148_0 | skip)
                    obtain ⟨hx46_0, hf46_0⟩ := Kd.R_celln 0 HO_5.out ((ji43) : Int) p46 q46
                    replace p46 := eq_true p46
                    replace q46 := eq_true q46
                    obtain ⟨hy54_, hz54_⟩ := Kd.R_celln 0 HO_5.out ((ji43) : Int) (of_decide_eq_true (by first | (with_reducible assumption) | assumption)) (of_decide_eq_true (by first | (with_reducible assumption) | assumption))
                    have HP54 := Kd.R_putg HO_5.out ((ji43) : Int) (wrap64 ((rd x5_2 (ji43)) + 1))
                    try go_wp2_with (first | ((with_reducible refine gate_store (t := 3) (p := 120) rfl ?_); refine store_event (t := 3) (p := 120) (v := ?vo_w55) (w1 := (w53_.setCell ⟨go46, ((ji43) : Int).toNat, none⟩ (.int .i64 (wrap64 ((rd x5_2 (ji43)) + 1))))) ?hg ?ho ?hn ?hr ?_; (case ho => rfl); (case hg => rfl); (case hn => rfl); (case hr => first | (go_simp; done) | (go_simp; rfl)); intro w55 hw; have hg : w53_.grownBy w55 (some go46) := (by rw [hw]; exact HP54.2); have hp_ : Kd.R (Kd.int .i64) 3 w55 w.heap.size (fun k_ => some k_ ≠ (.slice Ao51 y136.length co51 : Value).ownBlock ∧ some k_ ≠ (v140 : Value).ownBlock) (.slice (some ⟨go46, 0, none⟩) x5_2.length co53) y149 := (by rw [hw, Ny149.out]; exact HP54.1); clear HP54; have n0_ := εp (hp_); have n1_ := εp (Kd.R_after (v := (.slice (some ⟨go46, 0, none⟩) x5_2.length co53)) (v1 := (.slice (some ⟨go46, 0, none⟩) x5_2.length co53)) (ok := (fun k_ => some k_ ≠ (v140 : Value).ownBlock)) (by (with_reducible repeat (first | apply εd | apply εe | apply εf)); exact Kd.R_mono HO138.out (fun _ hk => ⟨hk.2, hk.1⟩)) hg (.inl rfl)); have n2_ := εp (Kd.R_after (v := (.slice (some ⟨go46, 0, none⟩) x5_2.length co53)) (v1 := (.slice (some ⟨go46, 0, none⟩) x5_2.length co53)) (ok := (fun k_ => some k_ ≠ (.slice Ao51 y136.length co51 : Value).ownBlock)) (by (with_reducible repeat (first | apply εd | apply εe | apply εf)); exact Kd.R_mono HO141.out (fun _ hk => ⟨hk.2, hk.1⟩)) hg (.inl rfl)); have n3_ := εp ((by rw [hw]; exact below_set (HB.out) GB46.out : Below w.heap.size w w55)); clear HO_5; clear HO138; clear HO141; clear HB; have HO_5 := n0_; have HO138 := n1_; have HO141 := n2_; have HB := n3_; clear n0_ n1_ n2_ n3_; clear hg hw hp_))
                    go_roundg kj16
                    case measure => have := HK1.out; have := HK2.out; have := HJ16.out; omega
                    case rel => exact ⟨(y149), (y139), (wrap64 (x8_2 + 1)), (by first | rfl | (simp; done) | (simp [*]; done)), H', ⟨by have := HK1.out; have := HK2.out; have := HJ16.out; omega⟩, ⟨by (with_reducible repeat (first | apply εd | apply εe | apply εf)); exact Kd.R_mono HO_5.out (fun _ hk => hk.2)⟩, ⟨by (with_reducible repeat (first | apply εd | apply εe | apply εf)); exact Kd.R_mono HO141.out (fun _ hk => hk.2)⟩, ⟨by repeat (first | (with_reducible first | exact HB.out | apply εj | apply εh | apply εi) | exact HB.out)⟩⟩
                   rw [if_neg c45] at H
                   exact absurd H (by simp)
                  rw [if_neg c44] at H
                  exact absurd H (by simp)
                 rw [if_neg c40] at H
                 exact absurd H (by simp)
                rw [if_neg c39] at H
                exact absurd H (by simp)
               rw [if_neg c38] at H
               exact absurd H (by simp)
            rw [if_neg c16] at H
            exact absurd H (by simp)
           rw [if_neg c15] at H
           have c15b0 : decide (x8_2 < ((rd_L2 l0 x6_1).length : Int)) = false := decide_eq_false c15
           clear c15
           have H' := εp H
           clear H
           have p121 : 0 ≤ (x6_1 : Int) := of_decide_eq_true (by first | (with_reducible assumption) | assumption)
           have q121 : x6_1 < (l0.length : Int) := of_decide_eq_true (by first | (with_reducible assumption) | assumption)
           obtain ⟨ad121, A121_0, c121_0, e121, hx121_0, hl121_0, hi121_0⟩ := at_L2 HR0.out x6_1 p121 q121
           cases e121
           replace hx121_0 := (HB.out.cell (World.block_lt_of_cell? w _ hx121_0)).trans hx121_0
           have HR121_0 := εp hi121_0
           have HC121_0 := εp hl121_0
           clear hi121_0 hl121_0
           replace p121 := eq_true p121
           replace q121 := eq_true q121
           go_wp2
           go_roundg k2
           case measure => have := HK1.out; have := HK2.out; omega
           case rel => exact ⟨(x5_2), (wrap64 (x6_1 + 1)), (by first | rfl | (simp; done) | (simp [*]; done)), H', ⟨by have := HK1.out; have := HK2.out; omega⟩, ⟨by (with_reducible repeat (first | apply εd | apply εe | apply εf)); exact Kd.R_mono HO_5.out (fun _ hk => trivial)⟩, ⟨by repeat (first | (with_reducible first | exact HB.out | apply εj | apply εh | apply εi) | exact HB.out)⟩⟩
          rw [if_neg c14] at H
          exact absurd H (by simp)
         rw [if_neg c13] at H
         exact absurd H (by simp)
      rw [if_neg c10] at H
      have c10b0 : decide (x6_1 < (l0.length : Int)) = false := decide_eq_false c10
      clear c10
      have H' := εp H
      clear H
      go_wp2
      go_loopg [11] k1 (fun kq v11 w' => ∃ (x11_2 : Int), v11 = .int .i64 x11_2 ∧ Aside0 (spec_MeetOnce.l2 kq a1 x5_1 x11_2 = some r) ∧ Aside0 (kq ≤ k1) ∧ Aside0 (Kd.R (Kd.int .i64) 3 w' w.heap.size (fun _ => True) v116 x5_1) ∧ Aside0 (Below w.heap.size w w'))
      case atStart => exact ⟨(0), (by first | rfl | (simp; done) | (simp [*]; done)), H', ⟨Nat.le_refl _⟩, ⟨by (with_reducible repeat (first | apply εd | apply εe | apply εf)); exact HO_5.out⟩, ⟨by repeat (first | (with_reducible first | exact HB.out | apply εj | apply εh | apply εi) | exact HB.out)⟩⟩
      case round =>
       clear H'
       try clear c1
       try clear p1
       try clear q1
       try clear hx1
       try clear qi1
       try clear c2
       try clear p2
       try clear c3
       try clear c4
       try clear p4
       try clear q4
       try clear hx4
       try clear hf4
       try clear c6
       try clear p6
       try clear c7
       try clear c10
       try clear c10b0
       try clear c12
       try clear p12
       try clear q12
       try clear hx12
       try clear qi12
       try clear c13
       try clear p13
       try clear q13
       try clear hx13
       try clear qi13
       try clear c14
       try clear p14
       try clear q14
       try clear hx14
       try clear qi14
       try clear c15
       try clear c15b0
       try clear c16
       try clear c18
       try clear c18b0
       try clear c18b1
       try clear c19
       try clear c21
       try clear c22
       try clear c37
       try clear c38
       try clear c38b0
       try clear c38b1
       try clear c39
       try clear c39b0
       try clear c39b1
       try clear c40
       try clear c44
       try clear c44b0
       try clear c45
       try clear c45b0
       try clear p46
       try clear q46
       try clear hx46
       try clear hf46
       try clear hx121_0
       try clear hx124_0
       try clear hx134_0
       try clear hx135_0
       try clear hx142_0
       try clear hx143_0
       try clear hx145_0
       try clear hx146_0
       try clear hx148_0
       try clear hx46_0
       try clear p1
       try clear p12
       try clear p121
       try clear p124
       try clear p134
       try clear p135
       try clear p142
       try clear p143
       try clear p145
       try clear p146
       try clear p148
       try clear p2
       try clear p46
       try clear p6
       try clear q1
       try clear q12
       try clear q121
       try clear q124
       try clear q134
       try clear q135
       try clear q142
       try clear q143
       try clear q145
       try clear q146
       try clear q148
       try clear q46
       obtain ⟨x11_2, rfl, HA, HK2, HO_5, HB⟩ := hrel
       cases gk with
       | zero => exact absurd HA.out (by simp [spec_MeetOnce.l2])
       | succ k2 =>
        have H := HA.out
        clear HA
        simp only [spec_MeetOnce.l2] at H
        by_cases c56 : x11_2 < a1
        ·
         rw [if_pos c56] at H
         have c56b0 : decide (x11_2 < a1) = true := decide_eq_true c56
         clear c56
         have H' := εp H
         clear H
         go_wp2
         go_loopg [12] k2 (fun kq v12 w' => ∃ (x12_3 : Int), v12 = .int .i64 x12_3 ∧ Aside0 (spec_MeetOnce.l3 kq a1 x5_1 x11_2 x12_3 = some r) ∧ Aside0 (kq ≤ k2) ∧ Aside0 (Kd.R (Kd.int .i64) 3 w' w.heap.size (fun _ => True) v116 x5_1) ∧ Aside0 (Below w.heap.size w w'))
         case atStart => exact ⟨(wrap64 (x11_2 + 1)), (by first | rfl | (simp; done) | (simp [*]; done)), H', ⟨Nat.le_refl _⟩, ⟨by (with_reducible repeat (first | apply εd | apply εe | apply εf)); exact HO_5.out⟩, ⟨by repeat (first | (with_reducible first | exact HB.out | apply εj | apply εh | apply εi) | exact HB.out)⟩⟩
         case round =>
          clear H'
          try clear c1
          try clear p1
          try clear q1
          try clear hx1
          try clear qi1
          try clear c2
          try clear p2
          try clear c3
          try clear c4
          try clear p4
          try clear q4
          try clear hx4
          try clear hf4
          try clear c5
          try clear c6
          try clear p6
          try clear c7
          try clear c10
          try clear c10b0
          try clear c12
          try clear p12
          try clear q12
          try clear hx12
          try clear qi12
          try clear c13
          try clear p13
          try clear q13
          try clear hx13
          try clear qi13
          try clear c14
          try clear p14
          try clear q14
          try clear hx14
          try clear qi14
          try clear c15
          try clear c15b0
          try clear c16
          try clear c18
          try clear c18b0
          try clear c18b1
          try clear c19
          try clear c21
          try clear c22
          try clear c37
          try clear c38
          try clear c38b0
          try clear c38b1
          try clear c39
          try clear c39b0
          try clear c39b1
          try clear c40
          try clear c44
          try clear c44b0
          try clear c45
          try clear c45b0
          try clear p46
          try clear q46
          try clear hx46
          try clear hf46
          try clear c56
          try clear c56b0
          try clear hx121_0
          try clear hx124_0
          try clear hx134_0
          try clear hx135_0
          try clear hx142_0
          try clear hx143_0
          try clear hx145_0
          try clear hx146_0
          try clear hx148_0
          try clear hx46_0
          try clear p1
          try clear p12
          try clear p121
          try clear p124
          try clear p13
          try clear p134
          try clear p135
          try clear p14
          try clear p142
          try clear p143
          try clear p145
          try clear p146
          try clear p148
          try clear p2
          try clear p4
          try clear p46
          try clear p6
          try clear q1
          try clear q12
          try clear q121
          try clear q124
          try clear q13
          try clear q134
          try clear q135
          try clear q14
          try clear q142
          try clear q143
          try clear q145
          try clear q146
          try clear q148
          try clear q4
          try clear q46
          obtain ⟨x12_3, rfl, HA, HK3, HO_5, HB⟩ := hrel
          cases gk with
          | zero => exact absurd HA.out (by simp [spec_MeetOnce.l3])
          | succ k3 =>
           have H := HA.out
           clear HA
           simp only [spec_MeetOnce.l3] at H
           by_cases c57 : x12_3 < a1
           ·
            rw [if_pos c57] at H
            have c57b0 : decide (x12_3 < a1) = true := decide_eq_true c57
            clear c57
            obtain ⟨ji58, hji58⟩ : ∃ j_ : Int, (wrap64 ((wrap64 (x11_2 * a1)) + x12_3)) = j_ := ⟨_, rfl⟩
            replace H : (if 0 ≤ (ji58) then (if (ji58) < (x5_1.length : Int) then (if (rd x5_1 (ji58)) = 1 then (spec_MeetOnce.l3 k3 a1 x5_1 x11_2 (wrap64 (x12_3 + 1))) else (some false)) else (none)) else (none)) = some r := by first | (rw [hji58] at H; exact H) | (simp only [hji58] at H ⊢; exact H)
            have hji58w : (IntKind.i64.wrap ((wrap64 (x11_2 * a1)) + x12_3)) = ji58 := (i64_w _).trans hji58
            by_cases c59 : 0 ≤ (ji58)
            ·
             rw [if_pos c59] at H
             have c59b0 : decide (0 ≤ (ji58)) = true := decide_eq_true c59
             clear c59
             by_cases c60 : (ji58) < (x5_1.length : Int)
             ·
              rw [if_pos c60] at H
              have c60b0 : decide ((ji58) < (x5_1.length : Int)) = true := decide_eq_true c60
              clear c60
              by_cases c61 : (rd x5_1 (ji58)) = 1
              ·
               rw [if_pos c61] at H
               have c61b0 : ((rd x5_1 (ji58)) == 1) = true := beq_iff_eq.mpr c61
               have c61b1 : ((rd x5_1 (ji58)) != 1) = false := bne_eq_false_iff_eq.mpr c61
               clear c61
               have H' := εp H
               clear H
               obtain ⟨Ao62, co62, eo62⟩ := Kd.R_slice HO_5.out
               subst eo62
               have p150 : 0 ≤ ((ji58) : Int) := of_decide_eq_true (by first | (with_reducible assumption) | assumption)
               have q150 : (ji58) < (x5_1.length : Int) := of_decide_eq_true (by first | (with_reducible assumption) | assumption)
               obtain ⟨ad150, e150, hx150_0⟩ := Kd.at_int (Kd.R_reads' HO_5.out).2.2 (ji58) p150 q150
               cases e150
               replace p150 := eq_true p150
               replace q150 := eq_true q150
               go_wp2
               go_roundg k3
               case measure => have := HK1.out; have := HK2.out; have := HK3.out; omega
               case rel => exact ⟨(wrap64 (x12_3 + 1)), (by first | rfl | (simp; done) | (simp [*]; done)), H', ⟨by have := HK1.out; have := HK2.out; have := HK3.out; omega⟩, ⟨by (with_reducible repeat (first | apply εd | apply εe | apply εf)); exact HO_5.out⟩, ⟨by repeat (first | (with_reducible first | exact HB.out | apply εj | apply εh | apply εi) | exact HB.out)⟩⟩
              rw [if_neg c61] at H
              have c61b0 : ((rd x5_1 (ji58)) == 1) = false := beq_eq_false_iff_ne.mpr c61
              have c61b1 : ((rd x5_1 (ji58)) != 1) = true := bne_iff_ne.mpr c61
              obtain rfl := Option.some.inj H
              obtain ⟨Ao63, co63, eo63⟩ := Kd.R_slice HO_5.out
              subst eo63
              have p150 : 0 ≤ ((ji58) : Int) := of_decide_eq_true (by first | (with_reducible assumption) | assumption)
              have q150 : (ji58) < (x5_1.length : Int) := of_decide_eq_true (by first | (with_reducible assumption) | assumption)
              obtain ⟨ad150, e150, hx150_0⟩ := Kd.at_int (Kd.R_reads' HO_5.out).2.2 (ji58) p150 q150
              cases e150
              replace p150 := eq_true p150
              replace q150 := eq_true q150
              go_wp2
              go_ret
              exact ⟨by first | rfl | (simp [errW_none, errW_some] <;> rfl) | (simp only [← hji5, ← hji58]; first | rfl | (simp [errW_none, errW_some] <;> rfl)) | (simp [*, errW_none, errW_some] <;> rfl), by repeat (first | (with_reducible first | exact HB.out | apply εj | apply εh | apply εi) | exact HB.out)⟩
             rw [if_neg c60] at H
             exact absurd H (by simp)
            rw [if_neg c59] at H
            exact absurd H (by simp)
           rw [if_neg c57] at H
           have c57b0 : decide (x12_3 < a1) = false := decide_eq_false c57
           clear c57
           have H' := εp H
           clear H
           go_wp2
           go_roundg k3
           case measure => have := HK1.out; have := HK2.out; have := HK3.out; omega
           case rel => exact ⟨(wrap64 (x11_2 + 1)), (by first | rfl | (simp; done) | (simp [*]; done)), H', ⟨by have := HK1.out; have := HK2.out; have := HK3.out; omega⟩, ⟨by (with_reducible repeat (first | apply εd | apply εe | apply εf)); exact HO_5.out⟩, ⟨by repeat (first | (with_reducible first | exact HB.out | apply εj | apply εh | apply εi) | exact HB.out)⟩⟩
        rw [if_neg c56] at H
        have c56b0 : decide (x11_2 < a1) = false := decide_eq_false c56
        clear c56
        obtain rfl := Option.some.inj H
        go_wp2
        go_ret
        exact ⟨by first | rfl | (simp [errW_none, errW_some] <;> rfl) | (simp only [← hji5]; first | rfl | (simp [errW_none, errW_some] <;> rfl)) | (simp [*, errW_none, errW_some] <;> rfl), by repeat (first | (with_reducible first | exact HB.out | apply εj | apply εh | apply εi) | exact HB.out)⟩
   rw [if_neg c7] at H
   exact absurd H (by simp)
  rw [if_neg c6] at H
  exact absurd H (by simp)
 replace c4 := Bool.eq_false_iff.mpr c4
 subst c4
 have H1 : (some false) = some r := by rw [if_neg (show ¬ (false = true) by decide)] at H; exact H
 clear H
 have H := H1
 clear H1
 obtain rfl := Option.some.inj H
 go_enter Try.func56, Try.ntmps56
 go_wp2_with (first | ((with_reducible refine gate_callee (f := 62) rfl ?_); refine goesL_ (some 14) rfl rfl Try.func62 (by kernel_rfl) rfl #[.int .i64 a1, .int .i64 2, .int .i64 20] rfl (by (try simp only [List.map_toArray, List.map_cons, List.map_nil]); first | done | rfl | (simp only [List.length_drop, List.length_take]; rfl)) ?_; (with_reducible refine (spec_l1In.calls a1 2 20 false _ A3.out).mono ?_); rintro e w' ⟨rfl, ⟨nd, rfl⟩⟩; refine ⟨_, rfl, ?_⟩))
 go_ret
 exact ⟨by first | rfl | (simp [errW_none, errW_some] <;> rfl) | (simp [*, errW_none, errW_some] <;> rfl), by repeat (first | (with_reducible first | exact HB.out | apply εj | apply εh | apply εi) | exact HB.out)⟩

end Go.Proofs.Ytfcidjlnokhkjaa.QFnExactMeetOnce
