-- Laid by this session's own program (wip/myprint.py), the kit's printer its engine; turned by hand where that fell. Lean checks it.
import Derived.Test.YtfcidjlnokhkjaaQFnSeasonsx0
import Derived.Test.YtfcidjlnokhkjaaQFnSeasonsx1
namespace Go.Proofs.Ytfcidjlnokhkjaa.QFnSeasons
open Go.RowKit Go.Proofs.YtfcidjlnokhkjaaW.PrintWords Go.Proofs.YtfcidjlnokhkjaaW.PrintLast Go.Proofs.YtfcidjlnokhkjaaW.PrintMore
attribute [local go_sem] max2_int min2_int max_two min_two max_three min_three max_four min_four   -- for this text's walks alone
set_option linter.unusedVariables false
set_option linter.unusedSimpArgs false

/-! ### impl_MeetOnce: function 58 -/
mutual
def impl_MeetOnce.l0 : Nat → Int → List Int → List (List (List Int)) → Int → Int → Option (Bool)
 | 0, _, _, _, _, _ => none
 | k + 1, x1, x5, x20, x21, x22 => if x22 < x21 then (if 0 ≤ x22 then (if x22 < (x20.length : Int) then (if 0 ≤ x1 then (if (x1 : Int).toNat ≤ 281474976710656 then (impl_MeetOnce.l1 k x1 x5 (List.replicate (x1 : Int).toNat false) x20 x21 x22 (rd_L2 x20 x22) ((rd_L2 x20 x22).length : Int) 0) else (none)) else (none)) else (none)) else (none)) else (impl_MeetOnce.l2 k x1 x5 x1 0)
def impl_MeetOnce.l1 : Nat → Int → List Int → List Bool → List (List (List Int)) → Int → Int → List (List Int) → Int → Int → Option (Bool)
 | 0, _, _, _, _, _, _, _, _, _ => none
 | k + 1, x1, x5, x8, x20, x21, x22, x28, x29, x30 => if x30 < x29 then (if 0 ≤ x30 then (if x30 < (x28.length : Int) then (if ((rd_L1 x28 x30).length : Int) = 2 then (if 0 < ((rd_L1 x28 x30).length : Int) then ((impl_InRange.f (rd (rd_L1 x28 x30) 0) 0 (wrap64 (x1 - 1))).bind fun t170 => (if t170 = true then (if 1 < ((rd_L1 x28 x30).length : Int) then ((impl_InRange.f (rd (rd_L1 x28 x30) 1) 0 (wrap64 (x1 - 1))).bind fun t172 => (if t172 = true then (if (rd (rd_L1 x28 x30) 0) = (rd (rd_L1 x28 x30) 1) then (some false) else (if 0 ≤ (rd (rd_L1 x28 x30) 0) then (if (rd (rd_L1 x28 x30) 0) < (x8.length : Int) then (if rdOf false x8 (rd (rd_L1 x28 x30) 0) = true then (some false) else (if 0 ≤ (rd (rd_L1 x28 x30) 1) then (if (rd (rd_L1 x28 x30) 1) < (x8.length : Int) then (if rdOf false x8 (rd (rd_L1 x28 x30) 1) = true then (some false) else (if 0 ≤ (wrap64 ((wrap64 ((mn (rd (rd_L1 x28 x30) 0) (rd (rd_L1 x28 x30) 1)) * x1)) + (mx (rd (rd_L1 x28 x30) 0) (rd (rd_L1 x28 x30) 1)))) then (if (wrap64 ((wrap64 ((mn (rd (rd_L1 x28 x30) 0) (rd (rd_L1 x28 x30) 1)) * x1)) + (mx (rd (rd_L1 x28 x30) 0) (rd (rd_L1 x28 x30) 1)))) < (x5.length : Int) then (impl_MeetOnce.l1 k x1 (x5.set ((wrap64 ((wrap64 ((mn (rd (rd_L1 x28 x30) 0) (rd (rd_L1 x28 x30) 1)) * x1)) + (mx (rd (rd_L1 x28 x30) 0) (rd (rd_L1 x28 x30) 1)))) : Int).toNat (wrap64 ((rd x5 (wrap64 ((wrap64 ((mn (rd (rd_L1 x28 x30) 0) (rd (rd_L1 x28 x30) 1)) * x1)) + (mx (rd (rd_L1 x28 x30) 0) (rd (rd_L1 x28 x30) 1))))) + 1))) ((x8.set ((rd (rd_L1 x28 x30) 0) : Int).toNat true).set ((rd (rd_L1 x28 x30) 1) : Int).toNat true) x20 x21 x22 x28 x29 (wrap64 (x30 + 1))) else (none)) else (none))) else (none)) else (none))) else (none)) else (none))) else (some false))) else (none)) else (some false))) else (none)) else (some false)) else (none)) else (none)) else (impl_MeetOnce.l0 k x1 x5 x20 x21 (wrap64 (x22 + 1)))
def impl_MeetOnce.l2 : Nat → Int → List Int → Int → Int → Option (Bool)
 | 0, _, _, _, _ => none
 | k + 1, x1, x5, x114, x115 => if x115 < x114 then (impl_MeetOnce.l3 k x1 x5 x115 (wrap64 (x115 + 1)) x114 x115) else (some true)
def impl_MeetOnce.l3 : Nat → Int → List Int → Int → Int → Int → Int → Option (Bool)
 | 0, _, _, _, _, _, _ => none
 | k + 1, x1, x5, x11, x12, x114, x115 => if x12 < x1 then (if 0 ≤ (wrap64 ((wrap64 (x11 * x1)) + x12)) then (if (wrap64 ((wrap64 (x11 * x1)) + x12)) < (x5.length : Int) then (if (rd x5 (wrap64 ((wrap64 (x11 * x1)) + x12))) = 1 then (impl_MeetOnce.l3 k x1 x5 x11 (wrap64 (x12 + 1)) x114 x115) else (some false)) else (none)) else (none)) else (impl_MeetOnce.l2 k x1 x5 x114 (wrap64 (x115 + 1)))
end
def impl_MeetOnce.f (k : Nat) (l0 : List (List (List Int))) (a1 : Int) : Option (Bool) := (impl_InRange.f a1 2 20).bind fun t160 => (if t160 = true then (if 0 ≤ (wrap64 (a1 * a1)) then (if (wrap64 (a1 * a1) : Int).toNat ≤ 35184372088832 then (impl_MeetOnce.l0 k a1 (List.replicate (wrap64 (a1 * a1) : Int).toNat 0) l0 (l0.length : Int) 0) else (none)) else (none)) else (some false))
theorem impl_MeetOnce.mono_l : ∀ k, (∀ y0 y1 y2 y3 y4, LeO (impl_MeetOnce.l0 k y0 y1 y2 y3 y4) (impl_MeetOnce.l0 (k + 1) y0 y1 y2 y3 y4)) ∧ (∀ y0 y1 y2 y3 y4 y5 y6 y7 y8, LeO (impl_MeetOnce.l1 k y0 y1 y2 y3 y4 y5 y6 y7 y8) (impl_MeetOnce.l1 (k + 1) y0 y1 y2 y3 y4 y5 y6 y7 y8)) ∧ (∀ y0 y1 y2 y3, LeO (impl_MeetOnce.l2 k y0 y1 y2 y3) (impl_MeetOnce.l2 (k + 1) y0 y1 y2 y3)) ∧ (∀ y0 y1 y2 y3 y4 y5, LeO (impl_MeetOnce.l3 k y0 y1 y2 y3 y4 y5) (impl_MeetOnce.l3 (k + 1) y0 y1 y2 y3 y4 y5))
 | 0 => ⟨fun _ _ _ _ _ r h => by simp [impl_MeetOnce.l0] at h, fun _ _ _ _ _ _ _ _ _ r h => by simp [impl_MeetOnce.l1] at h, fun _ _ _ _ r h => by simp [impl_MeetOnce.l2] at h, fun _ _ _ _ _ _ r h => by simp [impl_MeetOnce.l3] at h⟩
 | k + 1 => by
  obtain ⟨ih0, ih1, ih2, ih3⟩ := impl_MeetOnce.mono_l k
  refine ⟨?_, ?_, ?_, ?_⟩
  ·
   intro y0 y1 y2 y3 y4
   unfold impl_MeetOnce.l0
   repeat' first
   | (with_reducible exact ih0 _ _ _ _ _)
   | (with_reducible exact ih1 _ _ _ _ _ _ _ _ _)
   | (with_reducible exact ih2 _ _ _ _)
   | (with_reducible exact ih3 _ _ _ _ _ _)
   | (with_reducible exact LeO.refl _)
   | (with_reducible exact LeO.none _)
   | (with_reducible refine LeO.ite ?_ ?_)
   | (with_reducible refine LeO.bind ?_ (fun _ => ?_))
   | exact ih0 _ _ _ _ _
   | exact ih1 _ _ _ _ _ _ _ _ _
   | exact ih2 _ _ _ _
   | exact ih3 _ _ _ _ _ _
   | exact LeO.none _
   | refine LeO.ite ?_ ?_
   | refine LeO.bind ?_ (fun _ => ?_)
  ·
   intro y0 y1 y2 y3 y4 y5 y6 y7 y8
   unfold impl_MeetOnce.l1
   repeat' first
   | (with_reducible exact ih0 _ _ _ _ _)
   | (with_reducible exact ih1 _ _ _ _ _ _ _ _ _)
   | (with_reducible exact ih2 _ _ _ _)
   | (with_reducible exact ih3 _ _ _ _ _ _)
   | (with_reducible exact LeO.refl _)
   | (with_reducible exact LeO.none _)
   | (with_reducible refine LeO.ite ?_ ?_)
   | (with_reducible refine LeO.bind ?_ (fun _ => ?_))
   | exact ih0 _ _ _ _ _
   | exact ih1 _ _ _ _ _ _ _ _ _
   | exact ih2 _ _ _ _
   | exact ih3 _ _ _ _ _ _
   | exact LeO.none _
   | refine LeO.ite ?_ ?_
   | refine LeO.bind ?_ (fun _ => ?_)
  ·
   intro y0 y1 y2 y3
   unfold impl_MeetOnce.l2
   repeat' first
   | (with_reducible exact ih0 _ _ _ _ _)
   | (with_reducible exact ih1 _ _ _ _ _ _ _ _ _)
   | (with_reducible exact ih2 _ _ _ _)
   | (with_reducible exact ih3 _ _ _ _ _ _)
   | (with_reducible exact LeO.refl _)
   | (with_reducible exact LeO.none _)
   | (with_reducible refine LeO.ite ?_ ?_)
   | (with_reducible refine LeO.bind ?_ (fun _ => ?_))
   | exact ih0 _ _ _ _ _
   | exact ih1 _ _ _ _ _ _ _ _ _
   | exact ih2 _ _ _ _
   | exact ih3 _ _ _ _ _ _
   | exact LeO.none _
   | refine LeO.ite ?_ ?_
   | refine LeO.bind ?_ (fun _ => ?_)
  ·
   intro y0 y1 y2 y3 y4 y5
   unfold impl_MeetOnce.l3
   repeat' first
   | (with_reducible exact ih0 _ _ _ _ _)
   | (with_reducible exact ih1 _ _ _ _ _ _ _ _ _)
   | (with_reducible exact ih2 _ _ _ _)
   | (with_reducible exact ih3 _ _ _ _ _ _)
   | (with_reducible exact LeO.refl _)
   | (with_reducible exact LeO.none _)
   | (with_reducible refine LeO.ite ?_ ?_)
   | (with_reducible refine LeO.bind ?_ (fun _ => ?_))
   | exact ih0 _ _ _ _ _
   | exact ih1 _ _ _ _ _ _ _ _ _
   | exact ih2 _ _ _ _
   | exact ih3 _ _ _ _ _ _
   | exact LeO.none _
   | refine LeO.ite ?_ ?_
   | refine LeO.bind ?_ (fun _ => ?_)
theorem impl_MeetOnce.mono : ∀ a0 a1 k, LeO (impl_MeetOnce.f k a0 a1) (impl_MeetOnce.f (k + 1) a0 a1) := by
 intro a0 a1 k
 obtain ⟨ih0, ih1, ih2, ih3⟩ := impl_MeetOnce.mono_l k
 unfold impl_MeetOnce.f
 repeat' first
   | (with_reducible exact ih0 _ _ _ _ _)
   | (with_reducible exact ih1 _ _ _ _ _ _ _ _ _)
   | (with_reducible exact ih2 _ _ _ _)
   | (with_reducible exact ih3 _ _ _ _ _ _)
   | (with_reducible exact LeO.refl _)
   | (with_reducible exact LeO.none _)
   | (with_reducible refine LeO.ite ?_ ?_)
   | (with_reducible refine LeO.bind ?_ (fun _ => ?_))
   | exact ih0 _ _ _ _ _
   | exact ih1 _ _ _ _ _ _ _ _ _
   | exact ih2 _ _ _ _
   | exact ih3 _ _ _ _ _ _
   | exact LeO.none _
   | refine LeO.ite ?_ ?_
   | refine LeO.bind ?_ (fun _ => ?_)
def impl_MeetOnce.T11 : Bool × List (List Nat × List Nat) := (true, [([], []), ([0], [0]), ([1], [1]), ([2], [2]), ([3], [3]), ([4, 3], [3, 4]), ([5, 3], [3, 5]), ([3], [3]), ([7, 3], [3, 7]), ([6, 8, 3, 3], [3, 6, 8]), ([9, 3], [3, 9]), ([3, 10], [3, 10]), ([11, 9], [11]), ([12], [12]), ([13, 12], [12, 13]), ([14, 12], [12, 14]), ([12], [12]), ([16, 12], [12, 16]), ([15, 17, 12, 12], [12, 15, 17]), ([18, 12], [12, 18]), ([12, 19], [12, 19]), ([20, 18], [20]), ([21], [21]), ([22, 21], [21, 22]), ([23, 21], [21, 23]), ([21], [21]), ([25, 21], [21, 25]), ([26, 21], [21, 26]), ([24, 27, 21], [21, 24, 27]), ([21, 28], [21, 28]), ([29, 21], [29]), ([30], [30]), ([30], [30]), ([32, 30], [30, 32]), ([33, 30], [30, 33]), ([31, 34, 30], [30, 31, 34]), ([35, 30], [30, 35]), ([30, 36], [30, 36]), ([37, 30], [37]), ([38], [38]), ([38], [38]), ([40, 38], [38, 40]), ([41, 38], [38, 41]), ([39, 42, 38], [38, 39, 42]), ([43, 38], [38, 43]), ([38, 44], [38, 44])])
def impl_MeetOnce.B11 : List Nat := [0, 1, 3, 7, 15, 31, 63, 15, 143, 511, 1023, 2047, 4095, 8191, 16383, 32767, 8191, 73727, 262143, 524287, 1048575, 2097151, 4194303, 8388607, 16777215, 4194303, 37748735, 104857599, 268435455, 536870911, 1073741823, 2147483647, 2147483647, 6442450943, 15032385535, 34359738367, 68719476735, 137438953471, 274877906943, 549755813887, 549755813887, 1649267441663, 3848290697215, 8796093022207, 17592186044415, 35184372088831]
theorem impl_MeetOnce.tab11 : rtab .any (opsOf Try.f58 11) = impl_MeetOnce.T11 := by kernel_rfl
theorem impl_MeetOnce.bits11 : waitsOk impl_MeetOnce.T11.2 impl_MeetOnce.B11 = true := by kernel_rfl
def impl_MeetOnce.T13 : Bool × List (List Nat × List Nat) := (true, [([], []), ([], []), ([1], [1]), ([2], [2]), ([], []), ([], []), ([5], [5]), ([6], [6]), ([0, 3, 0, 1, 2, 3, 7], [0, 3]), ([8, 0, 1, 2, 3, 7], [8]), ([4, 7, 0, 1, 2, 3, 4, 5, 6, 7, 8, 9], [4, 7]), ([10, 9, 0, 1, 2, 3, 4, 5, 6, 7, 8, 9], [10])])
def impl_MeetOnce.B13 : List Nat := [0, 0, 2, 6, 0, 0, 32, 96, 239, 495, 1023, 2047]
theorem impl_MeetOnce.tab13 : rtab .any (opsOf Try.f58 13) = impl_MeetOnce.T13 := by kernel_rfl
theorem impl_MeetOnce.bits13 : waitsOk impl_MeetOnce.T13.2 impl_MeetOnce.B13 = true := by kernel_rfl
def impl_MeetOnce.T14 : Bool × List (List Nat × List Nat) := (true, [([], []), ([], []), ([1], [1]), ([2], [2]), ([], []), ([4], [4]), ([5], [5]), ([3, 6], [3, 6]), ([], []), ([7, 8], [7, 8]), ([], []), ([10], [10]), ([11], [11]), ([], []), ([13], [13]), ([14], [14]), ([12, 15], [12, 15]), ([9, 16], [9, 16]), ([0, 17], [0, 17]), ([18], [18]), ([19], [19]), ([0, 17, 0, 1, 2, 3, 4, 5, 6, 7, 8, 9, 10, 11, 12, 13, 14, 15, 16, 17, 18, 19, 20], [0, 17]), ([21, 20, 0, 1, 2, 3, 4, 5, 6, 7, 8, 9, 10, 11, 12, 13, 14, 15, 16, 17, 18, 19, 20], [20, 21])])
def impl_MeetOnce.B14 : List Nat := [0, 0, 2, 6, 0, 16, 48, 126, 0, 510, 0, 1024, 3072, 0, 8192, 24576, 64512, 131070, 262143, 524287, 1048575, 2097151, 4194303]
theorem impl_MeetOnce.tab14 : rtab .any (opsOf Try.f58 14) = impl_MeetOnce.T14 := by kernel_rfl
theorem impl_MeetOnce.bits14 : waitsOk impl_MeetOnce.T14.2 impl_MeetOnce.B14 = true := by kernel_rfl
set_option linter.defProp false
def εf := @Kd.R_drew
def εh := @pw_below_drewN
def εi := @below_drew1
def εj := @below_alloc
def εm := @List.setIfInBounds_toArray
def εn := @List.set_cons_zero
def εo := @List.set_cons_succ
def εp := @Aside0.mk
abbrev ε0 : Array Bool := #[false, false, false, false, false, false, false, false, false, false, false, false, false, false, false, false, false, false, false, false, false, false, false, false, false, false, false, false, false, false, false, false, false, false, false, false, false, false, false, false, false, false, false, false, false, false]
abbrev ε1 : Array Bool := #[true, false, false, false, false, false, false, false, false, false, false, false, false, false, false, false, false, false, false, false, false, false, false, false, false, false, false, false, false, false, false, false, false, false, false, false, false, false, false, false, false, false, false, false, false, false]
abbrev ε2 : Array Bool := #[true, true, false, false, false, false, false, false, false, false, false, false, false, false, false, false, false, false, false, false, false, false, false, false, false, false, false, false, false, false, false, false, false, false, false, false, false, false, false, false, false, false, false, false, false, false]
abbrev ε3 : Array Bool := #[true, true, true, false, false, false, false, false, false, false, false, false, false, false, false, false, false, false, false, false, false, false, false, false, false, false, false, false, false, false, false, false, false, false, false, false, false, false, false, false, false, false, false, false, false, false]
abbrev ε4 : Array Bool := #[true, true, true, true, false, false, false, false, false, false, false, false, false, false, false, false, false, false, false, false, false, false, false, false, false, false, false, false, false, false, false, false, false, false, false, false, false, false, false, false, false, false, false, false, false, false]
abbrev ε5 : Array Bool := #[true, true, true, true, true, false, false, false, false, false, false, false, false, false, false, false, false, false, false, false, false, false, false, false, false, false, false, false, false, false, false, false, false, false, false, false, false, false, false, false, false, false, false, false, false, false]
abbrev ε6 : Array Bool := #[true, true, true, true, true, true, false, false, false, false, false, false, false, false, false, false, false, false, false, false, false, false, false, false, false, false, false, false, false, false, false, false, false, false, false, false, false, false, false, false, false, false, false, false, false, false]
abbrev ε7 : Array Bool := #[true, true, true, true, true, true, false, true, false, false, false, false, false, false, false, false, false, false, false, false, false, false, false, false, false, false, false, false, false, false, false, false, false, false, false, false, false, false, false, false, false, false, false, false, false, false]
abbrev ε8 : Array Bool := #[true, true, true, true, true, true, false, true, true, false, false, false, false, false, false, false, false, false, false, false, false, false, false, false, false, false, false, false, false, false, false, false, false, false, false, false, false, false, false, false, false, false, false, false, false, false]
abbrev ε9 : Array Bool := #[true, true, true, true, true, true, true, true, true, false, false, false, false, false, false, false, false, false, false, false, false, false, false, false, false, false, false, false, false, false, false, false, false, false, false, false, false, false, false, false, false, false, false, false, false, false]
abbrev ε10 : Array Bool := #[true, true, true, true, true, true, true, true, true, true, false, false, false, false, false, false, false, false, false, false, false, false, false, false, false, false, false, false, false, false, false, false, false, false, false, false, false, false, false, false, false, false, false, false, false, false]
abbrev ε11 : Array Bool := #[true, true, true, true, true, true, true, true, true, true, true, false, false, false, false, false, false, false, false, false, false, false, false, false, false, false, false, false, false, false, false, false, false, false, false, false, false, false, false, false, false, false, false, false, false, false]
abbrev ε12 : Array Bool := #[true, true, true, true, true, true, true, true, true, true, true, true, false, false, false, false, false, false, false, false, false, false, false, false, false, false, false, false, false, false, false, false, false, false, false, false, false, false, false, false, false, false, false, false, false, false]
abbrev ε13 : Array Bool := #[true, true, true, true, true, true, true, true, true, true, true, true, true, false, false, false, false, false, false, false, false, false, false, false, false, false, false, false, false, false, false, false, false, false, false, false, false, false, false, false, false, false, false, false, false, false]
abbrev ε14 : Array Bool := #[true, true, true, true, true, true, true, true, true, true, true, true, true, true, false, false, false, false, false, false, false, false, false, false, false, false, false, false, false, false, false, false, false, false, false, false, false, false, false, false, false, false, false, false, false, false]
abbrev ε15 : Array Bool := #[true, true, true, true, true, true, true, true, true, true, true, true, true, true, true, false, false, false, false, false, false, false, false, false, false, false, false, false, false, false, false, false, false, false, false, false, false, false, false, false, false, false, false, false, false, false]
abbrev ε16 : Array Bool := #[true, true, true, true, true, true, true, true, true, true, true, true, true, true, true, false, true, false, false, false, false, false, false, false, false, false, false, false, false, false, false, false, false, false, false, false, false, false, false, false, false, false, false, false, false, false]
abbrev ε17 : Array Bool := #[true, true, true, true, true, true, true, true, true, true, true, true, true, true, true, false, true, true, false, false, false, false, false, false, false, false, false, false, false, false, false, false, false, false, false, false, false, false, false, false, false, false, false, false, false, false]
abbrev ε18 : Array Bool := #[true, true, true, true, true, true, true, true, true, true, true, true, true, true, true, true, true, true, false, false, false, false, false, false, false, false, false, false, false, false, false, false, false, false, false, false, false, false, false, false, false, false, false, false, false, false]
abbrev ε19 : Array Bool := #[true, true, true, true, true, true, true, true, true, true, true, true, true, true, true, true, true, true, true, false, false, false, false, false, false, false, false, false, false, false, false, false, false, false, false, false, false, false, false, false, false, false, false, false, false, false]
abbrev ε20 : Array Bool := #[true, true, true, true, true, true, true, true, true, true, true, true, true, true, true, true, true, true, true, true, false, false, false, false, false, false, false, false, false, false, false, false, false, false, false, false, false, false, false, false, false, false, false, false, false, false]
abbrev ε21 : Array Bool := #[true, true, true, true, true, true, true, true, true, true, true, true, true, true, true, true, true, true, true, true, true, false, false, false, false, false, false, false, false, false, false, false, false, false, false, false, false, false, false, false, false, false, false, false, false, false]
abbrev ε22 : Array Bool := #[true, true, true, true, true, true, true, true, true, true, true, true, true, true, true, true, true, true, true, true, true, true, false, false, false, false, false, false, false, false, false, false, false, false, false, false, false, false, false, false, false, false, false, false, false, false]
abbrev ε23 : Array Bool := #[true, true, true, true, true, true, true, true, true, true, true, true, true, true, true, true, true, true, true, true, true, true, true, false, false, false, false, false, false, false, false, false, false, false, false, false, false, false, false, false, false, false, false, false, false, false]
abbrev ε24 : Array Bool := #[true, true, true, true, true, true, true, true, true, true, true, true, true, true, true, true, true, true, true, true, true, true, true, true, false, false, false, false, false, false, false, false, false, false, false, false, false, false, false, false, false, false, false, false, false, false]
abbrev ε25 : Array Bool := #[true, true, true, true, true, true, true, true, true, true, true, true, true, true, true, true, true, true, true, true, true, true, true, true, false, true, false, false, false, false, false, false, false, false, false, false, false, false, false, false, false, false, false, false, false, false]
abbrev ε26 : Array Bool := #[true, true, true, true, true, true, true, true, true, true, true, true, true, true, true, true, true, true, true, true, true, true, true, true, false, true, true, false, false, false, false, false, false, false, false, false, false, false, false, false, false, false, false, false, false, false]
abbrev ε27 : Array Bool := #[true, true, true, true, true, true, true, true, true, true, true, true, true, true, true, true, true, true, true, true, true, true, true, true, true, true, true, false, false, false, false, false, false, false, false, false, false, false, false, false, false, false, false, false, false, false]
abbrev ε28 : Array Bool := #[true, true, true, true, true, true, true, true, true, true, true, true, true, true, true, true, true, true, true, true, true, true, true, true, true, true, true, true, false, false, false, false, false, false, false, false, false, false, false, false, false, false, false, false, false, false]
abbrev ε29 : Array Bool := #[true, true, true, true, true, true, true, true, true, true, true, true, true, true, true, true, true, true, true, true, true, true, true, true, true, true, true, true, true, false, false, false, false, false, false, false, false, false, false, false, false, false, false, false, false, false]
abbrev ε30 : Array Bool := #[true, true, true, true, true, true, true, true, true, true, true, true, true, true, true, true, true, true, true, true, true, true, true, true, true, true, true, true, true, true, false, false, false, false, false, false, false, false, false, false, false, false, false, false, false, false]
abbrev ε31 : Array Bool := #[true, true, true, true, true, true, true, true, true, true, true, true, true, true, true, true, true, true, true, true, true, true, true, true, true, true, true, true, true, true, true, false, false, false, false, false, false, false, false, false, false, false, false, false, false, false]
abbrev ε32 : Array Bool := #[true, true, true, true, true, true, true, true, true, true, true, true, true, true, true, true, true, true, true, true, true, true, true, true, true, true, true, true, true, true, true, true, false, false, false, false, false, false, false, false, false, false, false, false, false, false]
abbrev ε33 : Array Bool := #[true, true, true, true, true, true, true, true, true, true, true, true, true, true, true, true, true, true, true, true, true, true, true, true, true, true, true, true, true, true, true, true, true, false, false, false, false, false, false, false, false, false, false, false, false, false]
abbrev ε34 : Array Bool := #[true, true, true, true, true, true, true, true, true, true, true, true, true, true, true, true, true, true, true, true, true, true, true, true, true, true, true, true, true, true, true, true, true, true, false, false, false, false, false, false, false, false, false, false, false, false]
abbrev ε35 : Array Bool := #[true, true, true, true, true, true, true, true, true, true, true, true, true, true, true, true, true, true, true, true, true, true, true, true, true, true, true, true, true, true, true, true, true, true, true, false, false, false, false, false, false, false, false, false, false, false]
abbrev ε36 : Array Bool := #[true, true, true, true, true, true, true, true, true, true, true, true, true, true, true, true, true, true, true, true, true, true, true, true, true, true, true, true, true, true, true, true, true, true, true, true, false, false, false, false, false, false, false, false, false, false]
abbrev ε37 : Array Bool := #[true, true, true, true, true, true, true, true, true, true, true, true, true, true, true, true, true, true, true, true, true, true, true, true, true, true, true, true, true, true, true, true, true, true, true, true, true, false, false, false, false, false, false, false, false, false]
abbrev ε38 : Array Bool := #[true, true, true, true, true, true, true, true, true, true, true, true, true, true, true, true, true, true, true, true, true, true, true, true, true, true, true, true, true, true, true, true, true, true, true, true, true, true, false, false, false, false, false, false, false, false]
abbrev ε39 : Array Bool := #[true, true, true, true, true, true, true, true, true, true, true, true, true, true, true, true, true, true, true, true, true, true, true, true, true, true, true, true, true, true, true, true, true, true, true, true, true, true, true, false, false, false, false, false, false, false]
abbrev ε40 : Array Bool := #[true, true, true, true, true, true, true, true, true, true, true, true, true, true, true, true, true, true, true, true, true, true, true, true, true, true, true, true, true, true, true, true, true, true, true, true, true, true, true, true, false, false, false, false, false, false]
abbrev ε41 : Array Bool := #[true, true, true, true, true, true, true, true, true, true, true, true, true, true, true, true, true, true, true, true, true, true, true, true, true, true, true, true, true, true, true, true, true, true, true, true, true, true, true, true, true, false, false, false, false, false]
abbrev ε42 : Array Bool := #[true, true, true, true, true, true, true, true, true, true, true, true, true, true, true, true, true, true, true, true, true, true, true, true, true, true, true, true, true, true, true, true, true, true, true, true, true, true, true, true, true, true, false, false, false, false]
abbrev ε43 : Array Bool := #[true, true, true, true, true, true, true, true, true, true, true, true, true, true, true, true, true, true, true, true, true, true, true, true, true, true, true, true, true, true, true, true, true, true, true, true, true, true, true, true, true, true, true, false, false, false]
abbrev ε44 : Array Bool := #[true, true, true, true, true, true, true, true, true, true, true, true, true, true, true, true, true, true, true, true, true, true, true, true, true, true, true, true, true, true, true, true, true, true, true, true, true, true, true, true, true, true, true, true, false, false]
abbrev ε45 : Array Bool := #[true, true, true, true, true, true, true, true, true, true, true, true, true, true, true, true, true, true, true, true, true, true, true, true, true, true, true, true, true, true, true, true, true, true, true, true, true, true, true, true, true, true, true, true, true, false]
abbrev ε46 : Array Bool := #[true, true, true, true, true, true, true, true, true, true, true, true, true, true, true, true, true, true, true, true, true, true, true, true, true, true, true, true, true, true, true, true, true, true, true, true, true, true, true, true, true, true, true, true, true, true]
abbrev ε47 : Array Bool := #[false, false, false, false, false, false, false, false, false, false, false, false]
abbrev ε48 : Array Bool := #[true, false, false, false, false, false, false, false, false, false, false, false]
abbrev ε49 : Array Bool := #[true, true, false, false, false, false, false, false, false, false, false, false]
abbrev ε50 : Array Bool := #[true, true, true, false, false, false, false, false, false, false, false, false]
abbrev ε51 : Array Bool := #[true, true, true, false, true, false, false, false, false, false, false, false]
abbrev ε52 : Array Bool := #[true, true, true, false, true, true, false, false, false, false, false, false]
abbrev ε53 : Array Bool := #[true, true, true, false, true, true, true, false, false, false, false, false]
abbrev ε54 : Array Bool := #[true, true, true, true, true, true, true, false, false, false, false, false]
abbrev ε55 : Array Bool := #[true, true, true, true, true, true, true, true, false, false, false, false]
abbrev ε56 : Array Bool := #[true, true, true, true, true, true, true, true, true, false, false, false]
abbrev ε57 : Array Bool := #[true, true, true, true, true, true, true, true, true, true, false, false]
abbrev ε58 : Array Bool := #[true, true, true, true, true, true, true, true, true, true, true, false]
abbrev ε59 : Array Bool := #[true, true, true, true, true, true, true, true, true, true, true, true]
abbrev ε60 : Array Bool := #[false, false, false, false, false, false, false, false, false, false, false, false, false, false, false, false, false, false, false, false, false, false, false]
abbrev ε61 : Array Bool := #[true, false, false, false, false, false, false, false, false, false, false, false, false, false, false, false, false, false, false, false, false, false, false]
abbrev ε62 : Array Bool := #[true, true, false, false, false, false, false, false, false, false, false, false, false, false, false, false, false, false, false, false, false, false, false]
abbrev ε63 : Array Bool := #[true, true, true, false, false, false, false, false, false, false, false, false, false, false, false, false, false, false, false, false, false, false, false]
abbrev ε64 : Array Bool := #[true, true, true, false, true, false, false, false, false, false, false, false, false, false, false, false, false, false, false, false, false, false, false]
abbrev ε65 : Array Bool := #[true, true, true, false, true, true, false, false, false, false, false, false, false, false, false, false, false, false, false, false, false, false, false]
abbrev ε66 : Array Bool := #[true, true, true, false, true, true, false, false, true, false, false, false, false, false, false, false, false, false, false, false, false, false, false]
abbrev ε67 : Array Bool := #[true, true, true, false, true, true, false, false, true, false, true, false, false, false, false, false, false, false, false, false, false, false, false]
abbrev ε68 : Array Bool := #[true, true, true, false, true, true, false, false, true, false, true, true, false, false, false, false, false, false, false, false, false, false, false]
abbrev ε69 : Array Bool := #[true, true, true, false, true, true, false, false, true, false, true, true, false, true, false, false, false, false, false, false, false, false, false]
abbrev ε70 : Array Bool := #[true, true, true, false, true, true, false, false, true, false, true, true, false, true, true, false, false, false, false, false, false, false, false]
abbrev ε71 : Array Bool := #[true, true, true, true, true, true, false, false, true, false, true, true, false, true, true, false, false, false, false, false, false, false, false]
abbrev ε72 : Array Bool := #[true, true, true, true, true, true, true, false, true, false, true, true, false, true, true, false, false, false, false, false, false, false, false]
abbrev ε73 : Array Bool := #[true, true, true, true, true, true, true, true, true, false, true, true, false, true, true, false, false, false, false, false, false, false, false]
abbrev ε74 : Array Bool := #[true, true, true, true, true, true, true, true, true, true, true, true, false, true, true, false, false, false, false, false, false, false, false]
abbrev ε75 : Array Bool := #[true, true, true, true, true, true, true, true, true, true, true, true, true, true, true, false, false, false, false, false, false, false, false]
abbrev ε76 : Array Bool := #[true, true, true, true, true, true, true, true, true, true, true, true, true, true, true, true, false, false, false, false, false, false, false]
abbrev ε77 : Array Bool := #[true, true, true, true, true, true, true, true, true, true, true, true, true, true, true, true, true, false, false, false, false, false, false]
abbrev ε78 : Array Bool := #[true, true, true, true, true, true, true, true, true, true, true, true, true, true, true, true, true, true, false, false, false, false, false]
abbrev ε79 : Array Bool := #[true, true, true, true, true, true, true, true, true, true, true, true, true, true, true, true, true, true, true, false, false, false, false]
abbrev ε80 : Array Bool := #[true, true, true, true, true, true, true, true, true, true, true, true, true, true, true, true, true, true, true, true, false, false, false]
abbrev ε81 : Array Bool := #[true, true, true, true, true, true, true, true, true, true, true, true, true, true, true, true, true, true, true, true, true, false, false]
abbrev ε82 : Array Bool := #[true, true, true, true, true, true, true, true, true, true, true, true, true, true, true, true, true, true, true, true, true, true, false]
abbrev ε83 : Array Bool := #[true, true, true, true, true, true, true, true, true, true, true, true, true, true, true, true, true, true, true, true, true, true, true]
abbrev ε84 : Array Bool := #[true, true, true, true, true, true, true, true, true, true, true, true, true, true, true, true, true, true, true, true, true, true, true, true, true, false, false, false, false, false, false, false, false, false, false, false, false, false, false, false, false, false, false, false, false, false]
abbrev ε85 : Array Bool := #[true, true, true, true, true, true, true, true, true, true, true, true, true, true, true, true, true, true, true, true, true, true, true, true, true, true, false, false, false, false, false, false, false, false, false, false, false, false, false, false, false, false, false, false, false, false]
abbrev ε86 : Array Bool := #[true, true, true, true, true, true, true, true, true, true, true, true, true, true, true, true, false, false, false, false, false, false, false, false, false, false, false, false, false, false, false, false, false, false, false, false, false, false, false, false, false, false, false, false, false, false]
abbrev ε87 : Array Bool := #[true, true, true, true, true, true, true, true, true, true, true, true, true, true, true, true, true, false, false, false, false, false, false, false, false, false, false, false, false, false, false, false, false, false, false, false, false, false, false, false, false, false, false, false, false, false]
abbrev ε88 : Array Bool := #[true, true, true, true, true, true, true, false, false, false, false, false, false, false, false, false, false, false, false, false, false, false, false, false, false, false, false, false, false, false, false, false, false, false, false, false, false, false, false, false, false, false, false, false, false, false]
abbrev ε89 : Array Bool := #[true, true, true, true, true, true, true, true, false, false, false, false, false, false, false, false, false, false, false, false, false, false, false, false, false, false, false, false, false, false, false, false, false, false, false, false, false, false, false, false, false, false, false, false, false, false]
set_option maxHeartbeats 8000000 in
set_option maxRecDepth 100000 in
theorem impl_MeetOnce.calls (k : Nat) (A0 : Option Addr) (c0 : Nat) (l0 : List (List (List Int))) (a1 : Int) (r : Bool) (w : World) (hr0 : Kd.C (Kd.slice 45 (Kd.slice 3 (Kd.int .i64))) w A0 l0.length l0) (hc0 : l0.length ≤ c0) (h : impl_MeetOnce.f k l0 a1 = some r) :
  Calls Try.prog 58 #[.slice A0 l0.length c0, .int .i64 a1] w fun e w' => e = .returned (.bool r) ∧ Below w.heap.size w w' := by
 have HR0 := εp hr0
 have HC0 := εp hc0
 clear hr0 hc0
 have HB := εp (Below.refl w.heap.size w)
 have H : ((impl_InRange.f a1 2 20).bind fun t160 => (if t160 = true then (if 0 ≤ (wrap64 (a1 * a1)) then (if (wrap64 (a1 * a1) : Int).toNat ≤ 35184372088832 then (impl_MeetOnce.l0 k a1 (List.replicate (wrap64 (a1 * a1) : Int).toNat 0) l0 (l0.length : Int) 0) else (none)) else (none)) else (some false))) = some r := h
 clear h
 replace H := Option.bind_eq_some_iff.mp H
 obtain ⟨t160, A30, H⟩ := H
 try dsimp only at H
 have A3 := εp A30
 clear A30
 by_cases c4 : t160 = true
 ·
  subst c4
  rw [if_pos rfl] at H
  obtain ⟨ji5, hji5⟩ : ∃ j_ : Int, (wrap64 (a1 * a1)) = j_ := ⟨_, rfl⟩
  replace H : (if 0 ≤ (ji5) then (if (ji5 : Int).toNat ≤ 35184372088832 then (impl_MeetOnce.l0 k a1 (List.replicate (ji5 : Int).toNat 0) l0 (l0.length : Int) 0) else (none)) else (none)) = some r := by first | (rw [hji5] at H; exact H) | (simp only [hji5] at H ⊢; exact H)
  (try rw [hji5] at A3)
  have hji5w : (IntKind.i64.wrap (a1 * a1)) = ji5 := (i64_w _).trans hji5
  by_cases c6 : 0 ≤ (ji5)
  ·
   rw [if_pos c6] at H
   have c6b0 := eq_true c6
   have c6b1 : decide (0 ≤ (ji5)) = true := decide_eq_true c6
   clear c6
   by_cases c7 : (ji5 : Int).toNat ≤ 35184372088832
   ·
    rw [if_pos c7] at H
    have c7b0 := eq_true c7
    have c7b1 : decide ((ji5 : Int).toNat ≤ 35184372088832) = true := decide_eq_true c7
    clear c7
    obtain ⟨y161, hy161⟩ : ∃ y_ : List Int, y_ = (List.replicate (ji5 : Int).toNat 0) := ⟨_, rfl⟩
    replace H : (impl_MeetOnce.l0 k a1 y161 l0 (l0.length : Int) 0) = some r := by first | (rw [hy161]; with_reducible exact H) | (have H2_ := (Option.bind_some _ _).symm.trans H; rw [hy161]; with_reducible exact H2_) | (have H2_ := (Option.bind_some _ _).symm.trans H; with_reducible exact H2_) | with_reducible exact H | (rw [hy161]; exact H) | exact H
    have Ny161 := εp hy161
    clear hy161
    have H' := εp H
    clear H
    go_enter Try.func58, Try.ntmps58
    go_wp2_with (first | ((with_reducible refine gate_callee (f := 64) rfl ?_); refine goesL_ (some 14) rfl rfl Try.func64 (by kernel_rfl) rfl #[.int .i64 a1, .int .i64 2, .int .i64 20] rfl (by (try simp only [List.map_toArray, List.map_cons, List.map_nil]); first | done | rfl | (simp only [List.length_drop, List.length_take]; rfl)) ?_; (with_reducible refine (impl_InRange.calls a1 2 20 true _ A3.out).mono ?_); rintro e w' ⟨rfl, ⟨nd, rfl⟩⟩; refine ⟨_, rfl, ?_⟩) | ((with_reducible refine gate_dst (N := 19) rfl ?_); refine Kd.R_make (Kd.int .i64) _ 3 rfl (N := 19) rfl 45 _ _ rfl ji5 rfl rfl Try.underlying45 (.int .i64 0) 8 info3 rfl (by decide) (by omega) 0 (ok := fun _ => True) (okp := fun _ => True) rfl (fun _ hk => hk) trivial (of_decide_eq_true (by first | (with_reducible assumption) | assumption)) (Nat.le_trans (Nat.mul_le_mul_right _ (of_decide_eq_true (by first | (with_reducible assumption) | assumption) : ji5.toNat ≤ 35184372088832)) (by omega)) (Below.refl _ _) (Nat.le_refl _) ?_; intro v162 w8 ho9 hb hg_ hnew_; clear hg_ hnew_; (first | rw [← Ny161.out] at ho9 | (simp only [Int.reduceToNat] at ho9; rw [← Ny161.out] at ho9)); have n0_ := εp (Kd.R_lower ho9 (below_size (by repeat (first | (with_reducible first | exact HB.out | apply εj | apply εh | apply εi) | exact HB.out)))); have n1_ := εp (below_step (by repeat (first | (with_reducible first | exact HB.out | apply εj | apply εh | apply εi) | exact HB.out)) hb); clear HB; have HO163 := n0_; have HB := n1_; clear n0_ n1_; clear hb ho9))
    go_loopg [22] k (fun kq v22 w' => ∃ (x5_1 : List Int) (x22_1 : Int), v22 = .int .i64 x22_1 ∧ Aside0 (impl_MeetOnce.l0 kq a1 x5_1 l0 (l0.length : Int) x22_1 = some r) ∧ Aside0 (kq ≤ k) ∧ Aside0 (Kd.R (Kd.int .i64) 3 w' w.heap.size (fun _ => True) v162 x5_1) ∧ Aside0 (Below w.heap.size w w'))
    case atStart => exact ⟨(y161), (0), (by first | rfl | (simp; done) | (simp [*]; done)), H', ⟨Nat.le_refl _⟩, ⟨by (with_reducible repeat (first | apply Kd.R_alloc | apply Kd.R_drewN | apply εf)); exact HO163.out⟩, ⟨by repeat (first | (with_reducible first | exact HB.out | apply εj | apply εh | apply εi) | exact HB.out)⟩⟩
    case round =>
     clear H'
     try clear p2
     try clear c4
     try clear c5
     try clear c6
     try clear c6b0
     try clear c6b1
     try clear p6
     try clear c7
     try clear c7b0
     try clear c7b1
     obtain ⟨x5_1, x22_1, rfl, HA, HK1, HO_5, HB⟩ := hrel
     cases gk with
     | zero => exact absurd HA.out (by simp [impl_MeetOnce.l0])
     | succ k1 =>
      have H := HA.out
      clear HA
      simp only [impl_MeetOnce.l0] at H
      by_cases c10 : x22_1 < (l0.length : Int)
      ·
       rw [if_pos c10] at H
       have c10b0 : decide (x22_1 < (l0.length : Int)) = true := decide_eq_true c10
       clear c10
       by_cases c11 : 0 ≤ x22_1
       ·
        rw [if_pos c11] at H
        have c11b0 : decide (0 ≤ x22_1) = true := decide_eq_true c11
        clear c11
        by_cases c12 : x22_1 < (l0.length : Int)
        ·
         rw [if_pos c12] at H
         have c12b0 : decide (x22_1 < (l0.length : Int)) = true := decide_eq_true c12
         clear c12
         by_cases c13 : 0 ≤ a1
         ·
          rw [if_pos c13] at H
          have c13b0 := eq_true c13
          have c13b1 : decide (0 ≤ a1) = true := decide_eq_true c13
          clear c13
          by_cases c14 : (a1 : Int).toNat ≤ 281474976710656
          ·
           rw [if_pos c14] at H
           have c14b0 := eq_true c14
           have c14b1 : decide ((a1 : Int).toNat ≤ 281474976710656) = true := decide_eq_true c14
           clear c14
           obtain ⟨y165, hy165⟩ : ∃ y_ : List Bool, y_ = (List.replicate (a1 : Int).toNat false) := ⟨_, rfl⟩
           replace H : (impl_MeetOnce.l1 k1 a1 x5_1 y165 l0 (l0.length : Int) x22_1 (rd_L2 l0 x22_1) ((rd_L2 l0 x22_1).length : Int) 0) = some r := by first | (rw [hy165]; with_reducible exact H) | (have H2_ := (Option.bind_some _ _).symm.trans H; rw [hy165]; with_reducible exact H2_) | (have H2_ := (Option.bind_some _ _).symm.trans H; with_reducible exact H2_) | with_reducible exact H | (rw [hy165]; exact H) | exact H
           have Ny165 := εp hy165
           clear hy165
           have H' := εp H
           clear H
           have p164 : 0 ≤ (x22_1 : Int) := of_decide_eq_true (by first | (with_reducible assumption) | assumption)
           have q164 : x22_1 < (l0.length : Int) := of_decide_eq_true (by first | (with_reducible assumption) | assumption)
           obtain ⟨ad164, A164_0, c164_0, e164, hx164_0, hl164_0, hi164_0⟩ := at_L2 HR0.out x22_1 p164 q164
           cases e164
           (try (replace hx164_0 := (HB.out.cell (World.block_lt_of_cell? w _ hx164_0)).trans hx164_0))
           have HR164_0 := εp hi164_0
           have HC164_0 := εp hl164_0
           clear hi164_0 hl164_0
           replace p164 := eq_true p164
           replace q164 := eq_true q164
           go_wp2_with (first | ((with_reducible refine gate_dst (N := 27) rfl ?_); refine Kd.R_make Kd.bool _ 4 rfl (N := 27) rfl 86 _ _ rfl a1 rfl rfl Try.underlying86 (.bool false) 1 info4 rfl (by decide) (by omega) false (ok := fun _ => True) (okp := fun _ => True) rfl (fun _ hk => hk) trivial (of_decide_eq_true (by first | (with_reducible assumption) | assumption)) (Nat.le_trans (Nat.mul_le_mul_right _ (of_decide_eq_true (by first | (with_reducible assumption) | assumption) : a1.toNat ≤ 281474976710656)) (by omega)) (Below.refl _ _) (Nat.le_refl _) ?_; intro v166 w15 ho16 hb hg_ hnew_; clear hg_ hnew_; (first | rw [← Ny165.out] at ho16 | (simp only [Int.reduceToNat] at ho16; rw [← Ny165.out] at ho16)); have n0_ := εp (Kd.R_below (by (with_reducible repeat (first | apply Kd.R_alloc | apply Kd.R_drewN | apply εf)); exact HO_5.out) hb); have n1_ := εp (Kd.R_lower ho16 (below_size (by repeat (first | (with_reducible first | exact HB.out | apply εj | apply εh | apply εi) | exact HB.out)))); have n2_ := εp (below_step (by repeat (first | (with_reducible first | exact HB.out | apply εj | apply εh | apply εi) | exact HB.out)) hb); clear HO_5; clear HB; have HO_5 := n0_; have HO167 := n1_; have HB := n2_; clear n0_ n1_ n2_; clear hb ho16))
           go_loopg [30] k1 (fun kq v30 w' => ∃ (x5_2 : List Int) (x8_2 : List Bool) (x30_2 : Int), v30 = .int .i64 x30_2 ∧ Aside0 (impl_MeetOnce.l1 kq a1 x5_2 x8_2 l0 (l0.length : Int) x22_1 (rd_L2 l0 x22_1) ((rd_L2 l0 x22_1).length : Int) x30_2 = some r) ∧ Aside0 (kq ≤ k1) ∧ Aside0 (Kd.R (Kd.int .i64) 3 w' w.heap.size (fun _ => True) v162 x5_2) ∧ Aside0 (Kd.R Kd.bool 4 w' w.heap.size (fun _ => True) v166 x8_2) ∧ Aside0 (Below w.heap.size w w'))
           case atStart => exact ⟨(x5_1), (y165), (0), (by first | rfl | (simp; done) | (simp [*]; done)), H', ⟨Nat.le_refl _⟩, ⟨by (with_reducible repeat (first | apply Kd.R_alloc | apply Kd.R_drewN | apply εf)); exact HO_5.out⟩, ⟨by (with_reducible repeat (first | apply Kd.R_alloc | apply Kd.R_drewN | apply εf)); exact HO167.out⟩, ⟨by repeat (first | (with_reducible first | exact HB.out | apply εj | apply εh | apply εi) | exact HB.out)⟩⟩
           case round =>
            clear H'
            try clear c1
            try clear p1
            try clear q1
            try clear hx1
            try clear p2
            try clear c4
            try clear c5
            try clear c6
            try clear c6b0
            try clear c6b1
            try clear p6
            try clear c7
            try clear c7b0
            try clear c7b1
            try clear c10
            try clear c10b0
            try clear c11
            try clear c11b0
            try clear c12
            try clear c12b0
            try clear c13
            try clear c13b0
            try clear c13b1
            try clear c14
            try clear c14b0
            try clear c14b1
            try clear c16
            try clear p16
            try clear q16
            try clear hx16
            try clear hx164_0
            try clear p164
            try clear p2
            try clear p6
            try clear q164
            obtain ⟨x5_2, x8_2, x30_2, rfl, HA, HK2, HO_5, HO_8, HB⟩ := hrel
            cases gk with
            | zero => exact absurd HA.out (by simp [impl_MeetOnce.l1])
            | succ k2 =>
             have H := HA.out
             clear HA
             simp only [impl_MeetOnce.l1] at H
             by_cases c17 : x30_2 < ((rd_L2 l0 x22_1).length : Int)
             ·
              rw [if_pos c17] at H
              have c17b0 : decide (x30_2 < ((rd_L2 l0 x22_1).length : Int)) = true := decide_eq_true c17
              clear c17
              by_cases c18 : 0 ≤ x30_2
              ·
               rw [if_pos c18] at H
               have c18b0 : decide (0 ≤ x30_2) = true := decide_eq_true c18
               clear c18
               by_cases c19 : x30_2 < ((rd_L2 l0 x22_1).length : Int)
               ·
                rw [if_pos c19] at H
                have c19b0 : decide (x30_2 < ((rd_L2 l0 x22_1).length : Int)) = true := decide_eq_true c19
                clear c19
                by_cases c20 : ((rd_L1 (rd_L2 l0 x22_1) x30_2).length : Int) = 2
                ·
                 rw [if_pos c20] at H
                 have c20b0 : (((rd_L1 (rd_L2 l0 x22_1) x30_2).length : Int) == 2) = true := beq_iff_eq.mpr c20
                 have c20b1 : (((rd_L1 (rd_L2 l0 x22_1) x30_2).length : Int) != 2) = false := bne_eq_false_iff_eq.mpr c20
                 clear c20
                 by_cases c21 : 0 < ((rd_L1 (rd_L2 l0 x22_1) x30_2).length : Int)
                 ·
                  rw [if_pos c21] at H
                  have c21b0 : decide (0 < ((rd_L1 (rd_L2 l0 x22_1) x30_2).length : Int)) = true := decide_eq_true c21
                  have c21b1 : decide (0 < (rd_L1 (rd_L2 l0 x22_1) x30_2).length) = true := decide_eq_true (by omega)
                  clear c21
                  replace H := Option.bind_eq_some_iff.mp H
                  obtain ⟨t170, A220, H⟩ := H
                  try dsimp only at H
                  have A22 := εp A220
                  clear A220
                  by_cases c23 : t170 = true
                  ·
                   subst c23
                   rw [if_pos rfl] at H
                   by_cases c24 : 1 < ((rd_L1 (rd_L2 l0 x22_1) x30_2).length : Int)
                   ·
                    rw [if_pos c24] at H
                    have c24b0 : decide (1 < ((rd_L1 (rd_L2 l0 x22_1) x30_2).length : Int)) = true := decide_eq_true c24
                    have c24b1 : decide (1 < (rd_L1 (rd_L2 l0 x22_1) x30_2).length) = true := decide_eq_true (by omega)
                    clear c24
                    replace H := Option.bind_eq_some_iff.mp H
                    obtain ⟨t172, A250, H⟩ := H
                    try dsimp only at H
                    have A25 := εp A250
                    clear A250
                    by_cases c26 : t172 = true
                    ·
                     subst c26
                     rw [if_pos rfl] at H
                     by_cases c27 : (rd (rd_L1 (rd_L2 l0 x22_1) x30_2) 0) = (rd (rd_L1 (rd_L2 l0 x22_1) x30_2) 1)
                     ·
                      rw [if_pos c27] at H
                      have c27b0 : ((rd (rd_L1 (rd_L2 l0 x22_1) x30_2) 0) == (rd (rd_L1 (rd_L2 l0 x22_1) x30_2) 1)) = true := beq_iff_eq.mpr c27
                      have c27b1 : ((rd (rd_L1 (rd_L2 l0 x22_1) x30_2) 0) != (rd (rd_L1 (rd_L2 l0 x22_1) x30_2) 1)) = false := bne_eq_false_iff_eq.mpr c27
                      clear c27
                      obtain rfl := Option.some.inj H
                      have p168 : 0 ≤ (x30_2 : Int) := of_decide_eq_true (by first | (with_reducible assumption) | assumption)
                      have q168 : x30_2 < ((rd_L2 l0 x22_1).length : Int) := of_decide_eq_true (by first | (with_reducible assumption) | assumption)
                      obtain ⟨ad168, A168_0, c168_0, e168, hx168_0, hl168_0, hi168_0⟩ := at_L1 HR164_0.out x30_2 p168 q168
                      cases e168
                      (try (replace hx168_0 := (HB.out.cell (World.block_lt_of_cell? w _ hx168_0)).trans hx168_0))
                      have HR168_0 := εp hi168_0
                      have HC168_0 := εp hl168_0
                      clear hi168_0 hl168_0
                      replace p168 := eq_true p168
                      replace q168 := eq_true q168
                      try go_wp2
                      have n0_ := εp (εf HO_5.out)
                      have n1_ := εp (εf HO_8.out)
                      have n2_ := εp (εi HB.out)
                      clear HO_5
                      clear HO_8
                      clear HB
                      have HO_5 := n0_
                      have HO_8 := n1_
                      have HB := n2_
                      clear n0_ n1_ n2_
                      have p169 : 0 ≤ (0 : Int) := (by omega)
                      have q169 : 0 < ((rd_L1 (rd_L2 l0 x22_1) x30_2).length : Int) := of_decide_eq_true (by first | (with_reducible assumption) | assumption)
                      obtain ⟨ad169, e169, hx169_0⟩ := Kd.at_int HR168_0.out 0 p169 q169
                      have hw169_0 := hx169_0
                      (try rw [show ((0 : Int)).toNat = 0 from rfl] at hw169_0)
                      (try rw [show 0 * 1 = 0 from rfl] at hw169_0)
                      (try rw [Addr.add_zero'] at hw169_0)
                      cases e169
                      have qi169 : (0 < (rd_L1 (rd_L2 l0 x22_1) x30_2).length) = True := eq_true (by omega)
                      (try rw [show ((0 : Int)).toNat = 0 from rfl] at hx169_0)
                      (try rw [Addr.add_zero'] at hx169_0)
                      (try (replace hx169_0 := (HB.out.cell (World.block_lt_of_cell? w _ hx169_0)).trans hx169_0))
                      replace p169 := eq_true p169
                      replace q169 := eq_true q169
                      have p171 : 0 ≤ (1 : Int) := (by omega)
                      have q171 : 1 < ((rd_L1 (rd_L2 l0 x22_1) x30_2).length : Int) := of_decide_eq_true (by first | (with_reducible assumption) | assumption)
                      obtain ⟨ad171, e171, hx171_0⟩ := Kd.at_int HR168_0.out 1 p171 q171
                      have hw171_0 := hx171_0
                      (try rw [show ((1 : Int)).toNat = 1 from rfl] at hw171_0)
                      (try rw [show 1 * 1 = 1 from rfl] at hw171_0)
                      (try simp only [Nat.reduceMul, Nat.reduceEqDiff, Go.Addr.add, ↓reduceIte] at hw171_0)
                      obtain rfl : ad169 = ad171 := (by injection e171)
                      (try simp only [show (1 : Int).toNat = 1 from rfl, Nat.reduceMul, Nat.reduceEqDiff, Go.Addr.add, ↓reduceIte] at hx171_0)
                      have qi171 : (1 < (rd_L1 (rd_L2 l0 x22_1) x30_2).length) = True := eq_true (by omega)
                      (try rw [show ((1 : Int)).toNat = 1 from rfl] at hx171_0)
                      (try (replace hx171_0 := (HB.out.cell (World.block_lt_of_cell? w _ hx171_0)).trans hx171_0))
                      replace p171 := eq_true p171
                      replace q171 := eq_true q171
                      have p173 : 0 ≤ (0 : Int) := (by omega)
                      have q173 : 0 < ((rd_L1 (rd_L2 l0 x22_1) x30_2).length : Int) := of_decide_eq_true (by first | (with_reducible assumption) | assumption)
                      obtain ⟨ad173, e173, hx173_0⟩ := Kd.at_int HR168_0.out 0 p173 q173
                      have hw173_0 := hx173_0
                      (try rw [show ((0 : Int)).toNat = 0 from rfl] at hw173_0)
                      (try rw [show 0 * 1 = 0 from rfl] at hw173_0)
                      (try rw [Addr.add_zero'] at hw173_0)
                      obtain rfl : ad169 = ad173 := (by injection e173)
                      have qi173 : (0 < (rd_L1 (rd_L2 l0 x22_1) x30_2).length) = True := eq_true (by omega)
                      (try rw [show ((0 : Int)).toNat = 0 from rfl] at hx173_0)
                      (try rw [Addr.add_zero'] at hx173_0)
                      (try (replace hx173_0 := (HB.out.cell (World.block_lt_of_cell? w _ hx173_0)).trans hx173_0))
                      replace p173 := eq_true p173
                      replace q173 := eq_true q173
                      have p174 : 0 ≤ (1 : Int) := (by omega)
                      have q174 : 1 < ((rd_L1 (rd_L2 l0 x22_1) x30_2).length : Int) := of_decide_eq_true (by first | (with_reducible assumption) | assumption)
                      obtain ⟨ad174, e174, hx174_0⟩ := Kd.at_int HR168_0.out 1 p174 q174
                      have hw174_0 := hx174_0
                      (try rw [show ((1 : Int)).toNat = 1 from rfl] at hw174_0)
                      (try rw [show 1 * 1 = 1 from rfl] at hw174_0)
                      (try simp only [Nat.reduceMul, Nat.reduceEqDiff, Go.Addr.add, ↓reduceIte] at hw174_0)
                      obtain rfl : ad169 = ad174 := (by injection e174)
                      (try simp only [show (1 : Int).toNat = 1 from rfl, Nat.reduceMul, Nat.reduceEqDiff, Go.Addr.add, ↓reduceIte] at hx174_0)
                      have qi174 : (1 < (rd_L1 (rd_L2 l0 x22_1) x30_2).length) = True := eq_true (by omega)
                      (try rw [show ((1 : Int)).toNat = 1 from rfl] at hx174_0)
                      (try (replace hx174_0 := (HB.out.cell (World.block_lt_of_cell? w _ hx174_0)).trans hx174_0))
                      replace p174 := eq_true p174
                      replace q174 := eq_true q174
                      refine start_ (n := 46) (S := fun w' => w'.cell? ad169 = some (.int .i64 (rd (rd_L1 (rd_L2 l0 x22_1) x30_2) 0)) ∧ w'.cell? ⟨ad169.block, ad169.off + 1, none⟩ = some (.int .i64 (rd (rd_L1 (rd_L2 l0 x22_1) x30_2) 1)) ∧ w'.cell? ad169 = some (.int .i64 (rd (rd_L1 (rd_L2 l0 x22_1) x30_2) 0)) ∧ w'.cell? ⟨ad169.block, ad169.off + 1, none⟩ = some (.int .i64 (rd (rd_L1 (rd_L2 l0 x22_1) x30_2) 1))) (ds := []) ε0 (by kernel_rfl) rfl rfl ⟨((HB.out.cell (World.block_lt_of_cell? w _ hw169_0)).trans hw169_0), ((HB.out.cell (World.block_lt_of_cell? w _ hw171_0)).trans hw171_0), ((HB.out.cell (World.block_lt_of_cell? w _ hw173_0)).trans hw173_0), ((HB.out.cell (World.block_lt_of_cell? w _ hw174_0)).trans hw174_0)⟩ (fun hHeld => ?_); refine with_tabW impl_MeetOnce.tab11 impl_MeetOnce.bits11 (fun HT_ HW_ => ?_)
                      generalize wr.drew = w28 at HO_5 HO_8 HB hx169_0 hx171_0 hx173_0 hx174_0 hHeld ⊢
                      refine pure_ (i := 0) (N := some 34) (v := ?_) (a' := ?_) ε1 rfl rfl (any_of HT_.out (by kernel_rfl)) (fun _ _ _ h => h) (Or.inl ⟨by rfl, ?_⟩) ?_ ?_
                      rotate_left; · (intro w'; go_simp; with_reducible rfl)
                      rotate_left; · (simp only [Act.put, εm, εn, εo, i64_w, i32_w]; rfl)
                      refine pure_ (i := 1) (N := some 35) (v := ?_) (a' := ?_) ε2 rfl rfl (any_of HT_.out (by kernel_rfl)) (fun _ _ _ h => h) (Or.inl ⟨by rfl, ?_⟩) ?_ ?_
                      rotate_left; · (intro w'; go_simp; with_reducible rfl)
                      rotate_left; · (simp only [Act.put, εm, εn, εo, i64_w, i32_w]; rfl)
                      refine pure_ (i := 2) (N := some 36) (v := ?_) (a' := ?_) ε3 rfl rfl (any_of HT_.out (by kernel_rfl)) (fun _ _ _ h => h) (Or.inl ⟨by rfl, ?_⟩) ?_ ?_
                      rotate_left; · (intro w'; go_simp; with_reducible rfl)
                      rotate_left; · (simp only [Act.put, εm, εn, εo, i64_w, i32_w]; rfl)
                      refine pure_ (i := 3) (N := some 37) (v := ?_) (a' := ?_) ε4 rfl rfl (any_of HT_.out (by kernel_rfl)) (fun _ _ _ h => h) (Or.inl ⟨by rfl, ?_⟩) ?_ ?_
                      rotate_left; · (intro w'; go_simp; with_reducible rfl)
                      rotate_left; · (simp only [Act.put, εm, εn, εo, i64_w, i32_w]; rfl)
                      refine pure_ (i := 4) (N := some 38) (v := ?_) (a' := ?_) ε5 rfl rfl (any_of HT_.out (by kernel_rfl)) (fun _ _ _ h => h) (Or.inl ⟨by rfl, ?_⟩) ?_ ?_
                      rotate_left; · (intro w'; go_simp; with_reducible rfl)
                      rotate_left; · (simp only [Act.put, εm, εn, εo, i64_w, i32_w]; rfl)
                      refine pure_ (i := 5) (N := some 39) (v := ?_) (a' := ?_) ε6 rfl rfl (any_of HT_.out (by kernel_rfl)) (fun _ _ _ h => h) (Or.inl ⟨by rfl, ?_⟩) ?_ ?_
                      rotate_left; · (intro w'; go_simp; with_reducible rfl)
                      rotate_left; · (simp only [Act.put, εm, εn, εo, i64_w, i32_w]; rfl)
                      refine pure_ (i := 7) (N := some 41) (v := ?_) (a' := ?_) ε7 rfl rfl (any_of HT_.out (by kernel_rfl)) (fun _ _ _ h => h) (Or.inl ⟨by rfl, ?_⟩) ?_ ?_
                      rotate_left; · (intro w'; go_simp; with_reducible rfl)
                      rotate_left; · (simp only [Act.put, εm, εn, εo, i64_w, i32_w]; rfl)
                      refine pure_ (i := 8) (N := some 42) (v := ?_) (a' := ?_) ε8 rfl rfl (any_of HT_.out (by kernel_rfl)) (fun _ _ _ h => h) (Or.inl ⟨by rfl, ?_⟩) ?_ ?_
                      rotate_left; · (intro w'; go_simp; with_reducible rfl)
                      rotate_left; · (simp only [Act.put, εm, εn, εo, i64_w, i32_w]; rfl)
                      refine take_ (i := 6) (N := some 40) (v := ?_) (a' := ?_) ε9 rfl rfl (take_ofW HT_.out HW_.out (by kernel_rfl)) (fun _ _ _ h => h) (Or.inl ⟨by rfl, ?_⟩) hHeld ?_ ?_
                      rotate_left
                      ·
                       rintro w' ⟨s0, s1, s2, s3⟩
                       go_simp
                       with_reducible rfl
                      rotate_left
                      ·
                       simp only [Act.put, εm, εn, εo, i64_w, i32_w]
                       rfl
                      refine one_ (i := 9) (N := some 43) ε10 rfl rfl (one_of HT_.out (by kernel_rfl)) (by decide) (fun K hK => ?_)
                      refine goes_ Try.func64 (by kernel_rfl) rfl #[.int .i64 (rd (rd_L1 (rd_L2 l0 x22_1) x30_2) 0), .int .i64 0, .int .i64 (wrap64 (a1 - 1))] (by rfl) rfl rfl (by (try simp only [List.map_toArray, List.map_cons, List.map_nil]); first | done | rfl | (simp only [List.length_drop, List.length_take]; rfl)) ?_
                      with_reducible refine (impl_InRange.calls (rd (rd_L1 (rd_L2 l0 x22_1) x30_2) 0) 0 (wrap64 (a1 - 1)) true _ A22.out).mono ?_
                      rintro e w' ⟨rfl, ⟨nd, rfl⟩⟩
                      refine ⟨_, rfl, ?_⟩
                      refine hK.out _ _ ⟨((HB.out.cell (World.block_lt_of_cell? w _ hw169_0)).trans hw169_0), ((HB.out.cell (World.block_lt_of_cell? w _ hw171_0)).trans hw171_0), ((HB.out.cell (World.block_lt_of_cell? w _ hw173_0)).trans hw173_0), ((HB.out.cell (World.block_lt_of_cell? w _ hw174_0)).trans hw174_0)⟩ (fun hHeld => ?_)
                      clear hK K
                      refine norm_ (a' := ?_) ?_ ?_
                      rotate_left
                      ·
                       show Act.put _ (some 43) _ = _
                       simp only [Act.put, εm, εn, εo, i64_w, i32_w]
                       rfl
                      refine pure_ (i := 10) (N := some 44) (v := ?_) (a' := ?_) ε11 rfl rfl (any_of HT_.out (by kernel_rfl)) (fun _ _ _ h => h) (Or.inl ⟨by rfl, ?_⟩) ?_ ?_
                      rotate_left; · (intro w'; go_simp; with_reducible rfl)
                      rotate_left; · (simp only [Act.put, εm, εn, εo, i64_w, i32_w]; rfl)
                      refine pure_ (i := 11) (N := some 45) (v := ?_) (a' := ?_) ε12 rfl rfl (any_of HT_.out (by kernel_rfl)) (fun _ _ _ h => h) (Or.inl ⟨by rfl, ?_⟩) ?_ ?_
                      rotate_left; · (intro w'; go_simp; with_reducible rfl)
                      rotate_left; · (simp only [Act.put, εm, εn, εo, i64_w, i32_w]; rfl)
                      refine pure_ (i := 12) (N := some 46) (v := ?_) (a' := ?_) ε13 rfl rfl (any_of HT_.out (by kernel_rfl)) (fun _ _ _ h => h) (Or.inl ⟨by rfl, ?_⟩) ?_ ?_
                      rotate_left; · (intro w'; go_simp; with_reducible rfl)
                      rotate_left; · (simp only [Act.put, εm, εn, εo, i64_w, i32_w]; rfl)
                      refine pure_ (i := 13) (N := some 47) (v := ?_) (a' := ?_) ε14 rfl rfl (any_of HT_.out (by kernel_rfl)) (fun _ _ _ h => h) (Or.inl ⟨by rfl, ?_⟩) ?_ ?_
                      rotate_left; · (intro w'; go_simp; with_reducible rfl)
                      rotate_left; · (simp only [Act.put, εm, εn, εo, i64_w, i32_w]; rfl)
                      refine pure_ (i := 14) (N := some 48) (v := ?_) (a' := ?_) ε15 rfl rfl (any_of HT_.out (by kernel_rfl)) (fun _ _ _ h => h) (Or.inl ⟨by rfl, ?_⟩) ?_ ?_
                      rotate_left; · (intro w'; go_simp; with_reducible rfl)
                      rotate_left; · (simp only [Act.put, εm, εn, εo, i64_w, i32_w]; rfl)
                      refine pure_ (i := 16) (N := some 50) (v := ?_) (a' := ?_) ε16 rfl rfl (any_of HT_.out (by kernel_rfl)) (fun _ _ _ h => h) (Or.inl ⟨by rfl, ?_⟩) ?_ ?_
                      rotate_left; · (intro w'; go_simp; with_reducible rfl)
                      rotate_left; · (simp only [Act.put, εm, εn, εo, i64_w, i32_w]; rfl)
                      refine pure_ (i := 17) (N := some 51) (v := ?_) (a' := ?_) ε17 rfl rfl (any_of HT_.out (by kernel_rfl)) (fun _ _ _ h => h) (Or.inl ⟨by rfl, ?_⟩) ?_ ?_
                      rotate_left; · (intro w'; go_simp; with_reducible rfl)
                      rotate_left; · (simp only [Act.put, εm, εn, εo, i64_w, i32_w]; rfl)
                      refine take_ (i := 15) (N := some 49) (v := ?_) (a' := ?_) ε18 rfl rfl (take_ofW HT_.out HW_.out (by kernel_rfl)) (fun _ _ _ h => h) (Or.inl ⟨by rfl, ?_⟩) hHeld ?_ ?_
                      rotate_left
                      ·
                       rintro w' ⟨s0, s1, s2, s3⟩
                       go_simp
                       with_reducible rfl
                      rotate_left
                      ·
                       simp only [Act.put, εm, εn, εo, i64_w, i32_w]
                       rfl
                      refine one_ (i := 18) (N := some 52) ε19 rfl rfl (one_of HT_.out (by kernel_rfl)) (by decide) (fun K hK => ?_)
                      refine goes_ Try.func64 (by kernel_rfl) rfl #[.int .i64 (rd (rd_L1 (rd_L2 l0 x22_1) x30_2) 1), .int .i64 0, .int .i64 (wrap64 (a1 - 1))] (by rfl) rfl rfl (by (try simp only [List.map_toArray, List.map_cons, List.map_nil]); first | done | rfl | (simp only [List.length_drop, List.length_take]; rfl)) ?_
                      with_reducible refine (impl_InRange.calls (rd (rd_L1 (rd_L2 l0 x22_1) x30_2) 1) 0 (wrap64 (a1 - 1)) true _ A25.out).mono ?_
                      rintro e w' ⟨rfl, ⟨nd, rfl⟩⟩
                      refine ⟨_, rfl, ?_⟩
                      refine hK.out _ _ ⟨((HB.out.cell (World.block_lt_of_cell? w _ hw169_0)).trans hw169_0), ((HB.out.cell (World.block_lt_of_cell? w _ hw171_0)).trans hw171_0), ((HB.out.cell (World.block_lt_of_cell? w _ hw173_0)).trans hw173_0), ((HB.out.cell (World.block_lt_of_cell? w _ hw174_0)).trans hw174_0)⟩ (fun hHeld => ?_)
                      clear hK K
                      refine norm_ (a' := ?_) ?_ ?_
                      rotate_left
                      ·
                       show Act.put _ (some 52) _ = _
                       simp only [Act.put, εm, εn, εo, i64_w, i32_w]
                       rfl
                      refine pure_ (i := 19) (N := some 53) (v := ?_) (a' := ?_) ε20 rfl rfl (any_of HT_.out (by kernel_rfl)) (fun _ _ _ h => h) (Or.inl ⟨by rfl, ?_⟩) ?_ ?_
                      rotate_left; · (intro w'; go_simp; with_reducible rfl)
                      rotate_left; · (simp only [Act.put, εm, εn, εo, i64_w, i32_w]; rfl)
                      refine pure_ (i := 20) (N := some 54) (v := ?_) (a' := ?_) ε21 rfl rfl (any_of HT_.out (by kernel_rfl)) (fun _ _ _ h => h) (Or.inl ⟨by rfl, ?_⟩) ?_ ?_
                      rotate_left; · (intro w'; go_simp; with_reducible rfl)
                      rotate_left; · (simp only [Act.put, εm, εn, εo, i64_w, i32_w]; rfl)
                      refine pure_ (i := 21) (N := some 55) (v := ?_) (a' := ?_) ε22 rfl rfl (any_of HT_.out (by kernel_rfl)) (fun _ _ _ h => h) (Or.inl ⟨by rfl, ?_⟩) ?_ ?_
                      rotate_left; · (intro w'; go_simp; with_reducible rfl)
                      rotate_left; · (simp only [Act.put, εm, εn, εo, i64_w, i32_w]; rfl)
                      refine pure_ (i := 22) (N := some 56) (v := ?_) (a' := ?_) ε23 rfl rfl (any_of HT_.out (by kernel_rfl)) (fun _ _ _ h => h) (Or.inl ⟨by rfl, ?_⟩) ?_ ?_
                      rotate_left; · (intro w'; go_simp; with_reducible rfl)
                      rotate_left; · (simp only [Act.put, εm, εn, εo, i64_w, i32_w]; rfl)
                      refine pure_ (i := 23) (N := some 57) (v := ?_) (a' := ?_) ε24 rfl rfl (any_of HT_.out (by kernel_rfl)) (fun _ _ _ h => h) (Or.inl ⟨by rfl, ?_⟩) ?_ ?_
                      rotate_left; · (intro w'; go_simp; with_reducible rfl)
                      rotate_left; · (simp only [Act.put, εm, εn, εo, i64_w, i32_w]; rfl)
                      refine pure_ (i := 25) (N := some 59) (v := ?_) (a' := ?_) ε25 rfl rfl (any_of HT_.out (by kernel_rfl)) (fun _ _ _ h => h) (Or.inl ⟨by rfl, ?_⟩) ?_ ?_
                      rotate_left; · (intro w'; go_simp; with_reducible rfl)
                      rotate_left; · (simp only [Act.put, εm, εn, εo, i64_w, i32_w]; rfl)
                      refine pure_ (i := 26) (N := some 60) (v := ?_) (a' := ?_) ε26 rfl rfl (any_of HT_.out (by kernel_rfl)) (fun _ _ _ h => h) (Or.inl ⟨by rfl, ?_⟩) ?_ ?_
                      rotate_left; · (intro w'; go_simp; with_reducible rfl)
                      rotate_left; · (simp only [Act.put, εm, εn, εo, i64_w, i32_w]; rfl)
                      refine take_ (i := 24) (N := some 58) (v := ?_) (a' := ?_) ε27 rfl rfl (take_ofW HT_.out HW_.out (by kernel_rfl)) (fun _ _ _ h => h) (Or.inl ⟨by rfl, ?_⟩) hHeld ?_ ?_
                      rotate_left
                      ·
                       rintro w' ⟨s0, s1, s2, s3⟩
                       go_simp
                       with_reducible rfl
                      rotate_left
                      ·
                       simp only [Act.put, εm, εn, εo, i64_w, i32_w]
                       rfl
                      refine take_ (i := 27) (N := some 61) (v := ?_) (a' := ?_) ε28 rfl rfl (take_ofW HT_.out HW_.out (by kernel_rfl)) (fun _ _ _ h => h) (Or.inl ⟨by rfl, ?_⟩) hHeld ?_ ?_
                      rotate_left
                      ·
                       rintro w' ⟨s0, s1, s2, s3⟩
                       go_simp
                       with_reducible rfl
                      rotate_left
                      ·
                       simp only [Act.put, εm, εn, εo, i64_w, i32_w]
                       rfl
                      refine pure_ (i := 28) (N := some 62) (v := ?_) (a' := ?_) ε29 rfl rfl (any_of HT_.out (by kernel_rfl)) (fun _ _ _ h => h) (Or.inl ⟨by rfl, ?_⟩) ?_ ?_
                      rotate_left; · (intro w'; go_simp; with_reducible rfl)
                      rotate_left; · (simp only [Act.put, εm, εn, εo, i64_w, i32_w]; rfl)
                      refine pure_ (i := 29) (N := some 63) (v := ?_) (a' := ?_) ε30 rfl rfl (any_of HT_.out (by kernel_rfl)) (fun _ _ _ h => h) (Or.inl ⟨by rfl, ?_⟩) ?_ ?_
                      rotate_left; · (intro w'; go_simp; with_reducible rfl)
                      rotate_left; · (simp only [Act.put, εm, εn, εo, i64_w, i32_w]; rfl)
                      refine pure_ (i := 30) (N := some 64) (v := ?_) (a' := ?_) ε31 rfl rfl (any_of HT_.out (by kernel_rfl)) (fun _ _ _ h => h) (Or.inl ⟨by rfl, ?_⟩) ?_ ?_
                      rotate_left; · (intro w'; go_simp; with_reducible rfl)
                      rotate_left; · (simp only [Act.put, εm, εn, εo, i64_w, i32_w]; rfl)
                      refine pure_ (i := 31) (N := some 65) (v := undef) (a' := ?_) ε32 rfl rfl (any_of HT_.out (by kernel_rfl)) (fun _ _ _ h => h) (Or.inr ⟨by rfl, rfl⟩) ?_ ?_
                      rotate_left
                      ·
                       simp only [Act.put, εm, εn, εo, i64_w, i32_w]
                       rfl
                      refine pure_ (i := 32) (N := some 66) (v := undef) (a' := ?_) ε33 rfl rfl (any_of HT_.out (by kernel_rfl)) (fun _ _ _ h => h) (Or.inr ⟨by rfl, rfl⟩) ?_ ?_
                      rotate_left
                      ·
                       simp only [Act.put, εm, εn, εo, i64_w, i32_w]
                       rfl
                      refine pure_ (i := 33) (N := some 67) (v := undef) (a' := ?_) ε34 rfl rfl (any_of HT_.out (by kernel_rfl)) (fun _ _ _ h => h) (Or.inr ⟨by rfl, rfl⟩) ?_ ?_
                      rotate_left
                      ·
                       simp only [Act.put, εm, εn, εo, i64_w, i32_w]
                       rfl
                      refine pure_ (i := 34) (N := some 68) (v := undef) (a' := ?_) ε35 rfl rfl (any_of HT_.out (by kernel_rfl)) (fun _ _ _ h => h) (Or.inr ⟨by rfl, rfl⟩) ?_ ?_
                      rotate_left
                      ·
                       simp only [Act.put, εm, εn, εo, i64_w, i32_w]
                       rfl
                      refine pure_ (i := 35) (N := some 69) (v := undef) (a' := ?_) ε36 rfl rfl (any_of HT_.out (by kernel_rfl)) (fun _ _ _ h => h) (Or.inr ⟨by rfl, rfl⟩) ?_ ?_
                      rotate_left
                      ·
                       simp only [Act.put, εm, εn, εo, i64_w, i32_w]
                       rfl
                      refine pure_ (i := 36) (N := some 70) (v := undef) (a' := ?_) ε37 rfl rfl (any_of HT_.out (by kernel_rfl)) (fun _ _ _ h => h) (Or.inr ⟨by rfl, rfl⟩) ?_ ?_
                      rotate_left
                      ·
                       simp only [Act.put, εm, εn, εo, i64_w, i32_w]
                       rfl
                      refine pure_ (i := 37) (N := some 71) (v := ?_) (a' := ?_) ε38 rfl rfl (any_of HT_.out (by kernel_rfl)) (fun _ _ _ h => h) (Or.inl ⟨by rfl, ?_⟩) ?_ ?_
                      rotate_left; · (intro w'; go_simp; with_reducible rfl)
                      rotate_left; · (simp only [Act.put, εm, εn, εo, i64_w, i32_w]; rfl)
                      refine pure_ (i := 38) (N := some 72) (v := ?_) (a' := ?_) ε39 rfl rfl (any_of HT_.out (by kernel_rfl)) (fun _ _ _ h => h) (Or.inl ⟨by rfl, ?_⟩) ?_ ?_
                      rotate_left; · (intro w'; go_simp; with_reducible rfl)
                      rotate_left; · (simp only [Act.put, εm, εn, εo, i64_w, i32_w]; rfl)
                      refine pure_ (i := 39) (N := some 73) (v := undef) (a' := ?_) ε40 rfl rfl (any_of HT_.out (by kernel_rfl)) (fun _ _ _ h => h) (Or.inr ⟨by rfl, rfl⟩) ?_ ?_
                      rotate_left
                      ·
                       simp only [Act.put, εm, εn, εo, i64_w, i32_w]
                       rfl
                      refine pure_ (i := 40) (N := some 74) (v := undef) (a' := ?_) ε41 rfl rfl (any_of HT_.out (by kernel_rfl)) (fun _ _ _ h => h) (Or.inr ⟨by rfl, rfl⟩) ?_ ?_
                      rotate_left
                      ·
                       simp only [Act.put, εm, εn, εo, i64_w, i32_w]
                       rfl
                      refine pure_ (i := 41) (N := some 75) (v := undef) (a' := ?_) ε42 rfl rfl (any_of HT_.out (by kernel_rfl)) (fun _ _ _ h => h) (Or.inr ⟨by rfl, rfl⟩) ?_ ?_
                      rotate_left
                      ·
                       simp only [Act.put, εm, εn, εo, i64_w, i32_w]
                       rfl
                      refine pure_ (i := 42) (N := some 76) (v := undef) (a' := ?_) ε43 rfl rfl (any_of HT_.out (by kernel_rfl)) (fun _ _ _ h => h) (Or.inr ⟨by rfl, rfl⟩) ?_ ?_
                      rotate_left
                      ·
                       simp only [Act.put, εm, εn, εo, i64_w, i32_w]
                       rfl
                      refine pure_ (i := 43) (N := some 77) (v := undef) (a' := ?_) ε44 rfl rfl (any_of HT_.out (by kernel_rfl)) (fun _ _ _ h => h) (Or.inr ⟨by rfl, rfl⟩) ?_ ?_
                      rotate_left
                      ·
                       simp only [Act.put, εm, εn, εo, i64_w, i32_w]
                       rfl
                      refine pure_ (i := 44) (N := some 78) (v := undef) (a' := ?_) ε45 rfl rfl (any_of HT_.out (by kernel_rfl)) (fun _ _ _ h => h) (Or.inr ⟨by rfl, rfl⟩) ?_ ?_
                      rotate_left
                      ·
                       simp only [Act.put, εm, εn, εo, i64_w, i32_w]
                       rfl
                      refine pure_ (i := 45) (N := some 79) (v := ?_) (a' := ?_) ε46 rfl rfl (any_of HT_.out (by kernel_rfl)) (fun _ _ _ h => h) (Or.inl ⟨by rfl, ?_⟩) ?_ ?_
                      rotate_left; · (intro w'; go_simp; with_reducible rfl)
                      rotate_left; · (simp only [Act.put, εm, εn, εo, i64_w, i32_w]; rfl)
                      refine done_ (done_of HT_.out (by kernel_rfl)) ?_
                      try go_wp2
                      go_ret
                      exact ⟨by first | rfl | (simp [errW_none, errW_some] <;> rfl) | (simp only [← hji5]; first | rfl | (simp [errW_none, errW_some] <;> rfl)) | (simp [*, errW_none, errW_some] <;> rfl), by repeat (first | (with_reducible first | exact HB.out | apply εj | apply εh | apply εi) | exact HB.out)⟩
                     rw [if_neg c27] at H
                     have c27b0 : ((rd (rd_L1 (rd_L2 l0 x22_1) x30_2) 0) == (rd (rd_L1 (rd_L2 l0 x22_1) x30_2) 1)) = false := beq_eq_false_iff_ne.mpr c27
                     have c27b1 : ((rd (rd_L1 (rd_L2 l0 x22_1) x30_2) 0) != (rd (rd_L1 (rd_L2 l0 x22_1) x30_2) 1)) = true := bne_iff_ne.mpr c27
                     by_cases c29 : 0 ≤ (rd (rd_L1 (rd_L2 l0 x22_1) x30_2) 0)
                     ·
                      rw [if_pos c29] at H
                      have c29b0 : decide (0 ≤ (rd (rd_L1 (rd_L2 l0 x22_1) x30_2) 0)) = true := decide_eq_true c29
                      clear c29
                      by_cases c30 : (rd (rd_L1 (rd_L2 l0 x22_1) x30_2) 0) < (x8_2.length : Int)
                      ·
                       rw [if_pos c30] at H
                       have c30b0 : decide ((rd (rd_L1 (rd_L2 l0 x22_1) x30_2) 0) < (x8_2.length : Int)) = true := decide_eq_true c30
                       clear c30
                       obtain ⟨bq31, hbq31⟩ : ∃ b_ : Bool, b_ = (rdOf false x8_2 (rd (rd_L1 (rd_L2 l0 x22_1) x30_2) 0)) := ⟨_, rfl⟩
                       replace H : (if bq31 = true then (some false) else (if 0 ≤ (rd (rd_L1 (rd_L2 l0 x22_1) x30_2) 1) then (if (rd (rd_L1 (rd_L2 l0 x22_1) x30_2) 1) < (x8_2.length : Int) then (if rdOf false x8_2 (rd (rd_L1 (rd_L2 l0 x22_1) x30_2) 1) = true then (some false) else (if 0 ≤ (wrap64 ((wrap64 ((mn (rd (rd_L1 (rd_L2 l0 x22_1) x30_2) 0) (rd (rd_L1 (rd_L2 l0 x22_1) x30_2) 1)) * a1)) + (mx (rd (rd_L1 (rd_L2 l0 x22_1) x30_2) 0) (rd (rd_L1 (rd_L2 l0 x22_1) x30_2) 1)))) then (if (wrap64 ((wrap64 ((mn (rd (rd_L1 (rd_L2 l0 x22_1) x30_2) 0) (rd (rd_L1 (rd_L2 l0 x22_1) x30_2) 1)) * a1)) + (mx (rd (rd_L1 (rd_L2 l0 x22_1) x30_2) 0) (rd (rd_L1 (rd_L2 l0 x22_1) x30_2) 1)))) < (x5_2.length : Int) then (impl_MeetOnce.l1 k2 a1 (x5_2.set ((wrap64 ((wrap64 ((mn (rd (rd_L1 (rd_L2 l0 x22_1) x30_2) 0) (rd (rd_L1 (rd_L2 l0 x22_1) x30_2) 1)) * a1)) + (mx (rd (rd_L1 (rd_L2 l0 x22_1) x30_2) 0) (rd (rd_L1 (rd_L2 l0 x22_1) x30_2) 1)))) : Int).toNat (wrap64 ((rd x5_2 (wrap64 ((wrap64 ((mn (rd (rd_L1 (rd_L2 l0 x22_1) x30_2) 0) (rd (rd_L1 (rd_L2 l0 x22_1) x30_2) 1)) * a1)) + (mx (rd (rd_L1 (rd_L2 l0 x22_1) x30_2) 0) (rd (rd_L1 (rd_L2 l0 x22_1) x30_2) 1))))) + 1))) ((x8_2.set ((rd (rd_L1 (rd_L2 l0 x22_1) x30_2) 0) : Int).toNat true).set ((rd (rd_L1 (rd_L2 l0 x22_1) x30_2) 1) : Int).toNat true) l0 (l0.length : Int) x22_1 (rd_L2 l0 x22_1) ((rd_L2 l0 x22_1).length : Int) (wrap64 (x30_2 + 1))) else (none)) else (none))) else (none)) else (none))) = some r := by rw [← hbq31] at H; exact H
                       have Nbq31 := εp hbq31
                       clear hbq31
                       by_cases c32 : bq31 = true
                       ·
                        subst c32
                        rw [if_pos rfl] at H
                        obtain rfl := Option.some.inj H
                        have p168 : 0 ≤ (x30_2 : Int) := of_decide_eq_true (by first | (with_reducible assumption) | assumption)
                        have q168 : x30_2 < ((rd_L2 l0 x22_1).length : Int) := of_decide_eq_true (by first | (with_reducible assumption) | assumption)
                        obtain ⟨ad168, A168_0, c168_0, e168, hx168_0, hl168_0, hi168_0⟩ := at_L1 HR164_0.out x30_2 p168 q168
                        cases e168
                        (try (replace hx168_0 := (HB.out.cell (World.block_lt_of_cell? w _ hx168_0)).trans hx168_0))
                        have HR168_0 := εp hi168_0
                        have HC168_0 := εp hl168_0
                        clear hi168_0 hl168_0
                        replace p168 := eq_true p168
                        replace q168 := eq_true q168
                        try go_wp2
                        have n0_ := εp (εf HO_5.out)
                        have n1_ := εp (εf HO_8.out)
                        have n2_ := εp (εi HB.out)
                        clear HO_5
                        clear HO_8
                        clear HB
                        have HO_5 := n0_
                        have HO_8 := n1_
                        have HB := n2_
                        clear n0_ n1_ n2_
                        have p169 : 0 ≤ (0 : Int) := (by omega)
                        have q169 : 0 < ((rd_L1 (rd_L2 l0 x22_1) x30_2).length : Int) := of_decide_eq_true (by first | (with_reducible assumption) | assumption)
                        obtain ⟨ad169, e169, hx169_0⟩ := Kd.at_int HR168_0.out 0 p169 q169
                        have hw169_0 := hx169_0
                        (try rw [show ((0 : Int)).toNat = 0 from rfl] at hw169_0)
                        (try rw [show 0 * 1 = 0 from rfl] at hw169_0)
                        (try rw [Addr.add_zero'] at hw169_0)
                        cases e169
                        have qi169 : (0 < (rd_L1 (rd_L2 l0 x22_1) x30_2).length) = True := eq_true (by omega)
                        (try rw [show ((0 : Int)).toNat = 0 from rfl] at hx169_0)
                        (try rw [Addr.add_zero'] at hx169_0)
                        (try (replace hx169_0 := (HB.out.cell (World.block_lt_of_cell? w _ hx169_0)).trans hx169_0))
                        replace p169 := eq_true p169
                        replace q169 := eq_true q169
                        have p171 : 0 ≤ (1 : Int) := (by omega)
                        have q171 : 1 < ((rd_L1 (rd_L2 l0 x22_1) x30_2).length : Int) := of_decide_eq_true (by first | (with_reducible assumption) | assumption)
                        obtain ⟨ad171, e171, hx171_0⟩ := Kd.at_int HR168_0.out 1 p171 q171
                        have hw171_0 := hx171_0
                        (try rw [show ((1 : Int)).toNat = 1 from rfl] at hw171_0)
                        (try rw [show 1 * 1 = 1 from rfl] at hw171_0)
                        (try simp only [Nat.reduceMul, Nat.reduceEqDiff, Go.Addr.add, ↓reduceIte] at hw171_0)
                        obtain rfl : ad169 = ad171 := (by injection e171)
                        (try simp only [show (1 : Int).toNat = 1 from rfl, Nat.reduceMul, Nat.reduceEqDiff, Go.Addr.add, ↓reduceIte] at hx171_0)
                        have qi171 : (1 < (rd_L1 (rd_L2 l0 x22_1) x30_2).length) = True := eq_true (by omega)
                        (try rw [show ((1 : Int)).toNat = 1 from rfl] at hx171_0)
                        (try (replace hx171_0 := (HB.out.cell (World.block_lt_of_cell? w _ hx171_0)).trans hx171_0))
                        replace p171 := eq_true p171
                        replace q171 := eq_true q171
                        have p173 : 0 ≤ (0 : Int) := (by omega)
                        have q173 : 0 < ((rd_L1 (rd_L2 l0 x22_1) x30_2).length : Int) := of_decide_eq_true (by first | (with_reducible assumption) | assumption)
                        obtain ⟨ad173, e173, hx173_0⟩ := Kd.at_int HR168_0.out 0 p173 q173
                        have hw173_0 := hx173_0
                        (try rw [show ((0 : Int)).toNat = 0 from rfl] at hw173_0)
                        (try rw [show 0 * 1 = 0 from rfl] at hw173_0)
                        (try rw [Addr.add_zero'] at hw173_0)
                        obtain rfl : ad169 = ad173 := (by injection e173)
                        have qi173 : (0 < (rd_L1 (rd_L2 l0 x22_1) x30_2).length) = True := eq_true (by omega)
                        (try rw [show ((0 : Int)).toNat = 0 from rfl] at hx173_0)
                        (try rw [Addr.add_zero'] at hx173_0)
                        (try (replace hx173_0 := (HB.out.cell (World.block_lt_of_cell? w _ hx173_0)).trans hx173_0))
                        replace p173 := eq_true p173
                        replace q173 := eq_true q173
                        have p174 : 0 ≤ (1 : Int) := (by omega)
                        have q174 : 1 < ((rd_L1 (rd_L2 l0 x22_1) x30_2).length : Int) := of_decide_eq_true (by first | (with_reducible assumption) | assumption)
                        obtain ⟨ad174, e174, hx174_0⟩ := Kd.at_int HR168_0.out 1 p174 q174
                        have hw174_0 := hx174_0
                        (try rw [show ((1 : Int)).toNat = 1 from rfl] at hw174_0)
                        (try rw [show 1 * 1 = 1 from rfl] at hw174_0)
                        (try simp only [Nat.reduceMul, Nat.reduceEqDiff, Go.Addr.add, ↓reduceIte] at hw174_0)
                        obtain rfl : ad169 = ad174 := (by injection e174)
                        (try simp only [show (1 : Int).toNat = 1 from rfl, Nat.reduceMul, Nat.reduceEqDiff, Go.Addr.add, ↓reduceIte] at hx174_0)
                        have qi174 : (1 < (rd_L1 (rd_L2 l0 x22_1) x30_2).length) = True := eq_true (by omega)
                        (try rw [show ((1 : Int)).toNat = 1 from rfl] at hx174_0)
                        (try (replace hx174_0 := (HB.out.cell (World.block_lt_of_cell? w _ hx174_0)).trans hx174_0))
                        replace p174 := eq_true p174
                        replace q174 := eq_true q174
                        have p175 : 0 ≤ (0 : Int) := (by omega)
                        have q175 : 0 < ((rd_L1 (rd_L2 l0 x22_1) x30_2).length : Int) := of_decide_eq_true (by first | (with_reducible assumption) | assumption)
                        obtain ⟨ad175, e175, hx175_0⟩ := Kd.at_int HR168_0.out 0 p175 q175
                        have hw175_0 := hx175_0
                        (try rw [show ((0 : Int)).toNat = 0 from rfl] at hw175_0)
                        (try rw [show 0 * 1 = 0 from rfl] at hw175_0)
                        (try rw [Addr.add_zero'] at hw175_0)
                        obtain rfl : ad169 = ad175 := (by injection e175)
                        have qi175 : (0 < (rd_L1 (rd_L2 l0 x22_1) x30_2).length) = True := eq_true (by omega)
                        (try rw [show ((0 : Int)).toNat = 0 from rfl] at hx175_0)
                        (try rw [Addr.add_zero'] at hx175_0)
                        (try (replace hx175_0 := (HB.out.cell (World.block_lt_of_cell? w _ hx175_0)).trans hx175_0))
                        replace p175 := eq_true p175
                        replace q175 := eq_true q175
                        (try (obtain ⟨ao_, co_, eo_⟩ := Kd.R_slice HO_8.out; subst eo_))
                        have p176 : 0 ≤ ((rd (rd_L1 (rd_L2 l0 x22_1) x30_2) 0) : Int) := of_decide_eq_true (by first | (with_reducible assumption) | assumption)
                        have q176 : (rd (rd_L1 (rd_L2 l0 x22_1) x30_2) 0) < (x8_2.length : Int) := of_decide_eq_true (by first | (with_reducible assumption) | assumption)
                        obtain ⟨ad176, e176, hx176_0⟩ := Kd.at_bool (Kd.R_reads' HO_8.out).2.2 (rd (rd_L1 (rd_L2 l0 x22_1) x30_2) 0) p176 q176
                        (try rw [← Nbq31.out] at hx176_0)
                        cases e176
                        replace p176 := eq_true p176
                        replace q176 := eq_true q176
                        refine start_ (n := 46) (S := fun w' => w'.cell? ad169 = some (.int .i64 (rd (rd_L1 (rd_L2 l0 x22_1) x30_2) 0)) ∧ w'.cell? ⟨ad169.block, ad169.off + 1, none⟩ = some (.int .i64 (rd (rd_L1 (rd_L2 l0 x22_1) x30_2) 1)) ∧ w'.cell? ad169 = some (.int .i64 (rd (rd_L1 (rd_L2 l0 x22_1) x30_2) 0)) ∧ w'.cell? ⟨ad169.block, ad169.off + 1, none⟩ = some (.int .i64 (rd (rd_L1 (rd_L2 l0 x22_1) x30_2) 1)) ∧ w'.cell? ad169 = some (.int .i64 (rd (rd_L1 (rd_L2 l0 x22_1) x30_2) 0)) ∧ w'.cell? (ad176.add ((rd (rd_L1 (rd_L2 l0 x22_1) x30_2) 0)).toNat) = some (.bool true)) (ds := []) ε0 (by kernel_rfl) rfl rfl ⟨((HB.out.cell (World.block_lt_of_cell? w _ hw169_0)).trans hw169_0), ((HB.out.cell (World.block_lt_of_cell? w _ hw171_0)).trans hw171_0), ((HB.out.cell (World.block_lt_of_cell? w _ hw173_0)).trans hw173_0), ((HB.out.cell (World.block_lt_of_cell? w _ hw174_0)).trans hw174_0), ((HB.out.cell (World.block_lt_of_cell? w _ hw175_0)).trans hw175_0), hx176_0⟩ (fun hHeld => ?_); refine with_tabW impl_MeetOnce.tab11 impl_MeetOnce.bits11 (fun HT_ HW_ => ?_)
                        generalize wr.drew = w33 at HO_5 HO_8 HB hx169_0 hx171_0 hx173_0 hx174_0 hx175_0 hx176_0 hHeld ⊢
                        refine pure_ (i := 0) (N := some 34) (v := ?_) (a' := ?_) ε1 rfl rfl (any_of HT_.out (by kernel_rfl)) (fun _ _ _ h => h) (Or.inl ⟨by rfl, ?_⟩) ?_ ?_
                        rotate_left; · (intro w'; go_simp; with_reducible rfl)
                        rotate_left; · (simp only [Act.put, εm, εn, εo, i64_w, i32_w]; rfl)
                        refine pure_ (i := 1) (N := some 35) (v := ?_) (a' := ?_) ε2 rfl rfl (any_of HT_.out (by kernel_rfl)) (fun _ _ _ h => h) (Or.inl ⟨by rfl, ?_⟩) ?_ ?_
                        rotate_left; · (intro w'; go_simp; with_reducible rfl)
                        rotate_left; · (simp only [Act.put, εm, εn, εo, i64_w, i32_w]; rfl)
                        refine pure_ (i := 2) (N := some 36) (v := ?_) (a' := ?_) ε3 rfl rfl (any_of HT_.out (by kernel_rfl)) (fun _ _ _ h => h) (Or.inl ⟨by rfl, ?_⟩) ?_ ?_
                        rotate_left; · (intro w'; go_simp; with_reducible rfl)
                        rotate_left; · (simp only [Act.put, εm, εn, εo, i64_w, i32_w]; rfl)
                        refine pure_ (i := 3) (N := some 37) (v := ?_) (a' := ?_) ε4 rfl rfl (any_of HT_.out (by kernel_rfl)) (fun _ _ _ h => h) (Or.inl ⟨by rfl, ?_⟩) ?_ ?_
                        rotate_left; · (intro w'; go_simp; with_reducible rfl)
                        rotate_left; · (simp only [Act.put, εm, εn, εo, i64_w, i32_w]; rfl)
                        refine pure_ (i := 4) (N := some 38) (v := ?_) (a' := ?_) ε5 rfl rfl (any_of HT_.out (by kernel_rfl)) (fun _ _ _ h => h) (Or.inl ⟨by rfl, ?_⟩) ?_ ?_
                        rotate_left; · (intro w'; go_simp; with_reducible rfl)
                        rotate_left; · (simp only [Act.put, εm, εn, εo, i64_w, i32_w]; rfl)
                        refine pure_ (i := 5) (N := some 39) (v := ?_) (a' := ?_) ε6 rfl rfl (any_of HT_.out (by kernel_rfl)) (fun _ _ _ h => h) (Or.inl ⟨by rfl, ?_⟩) ?_ ?_
                        rotate_left; · (intro w'; go_simp; with_reducible rfl)
                        rotate_left; · (simp only [Act.put, εm, εn, εo, i64_w, i32_w]; rfl)
                        refine pure_ (i := 7) (N := some 41) (v := ?_) (a' := ?_) ε7 rfl rfl (any_of HT_.out (by kernel_rfl)) (fun _ _ _ h => h) (Or.inl ⟨by rfl, ?_⟩) ?_ ?_
                        rotate_left; · (intro w'; go_simp; with_reducible rfl)
                        rotate_left; · (simp only [Act.put, εm, εn, εo, i64_w, i32_w]; rfl)
                        refine pure_ (i := 8) (N := some 42) (v := ?_) (a' := ?_) ε8 rfl rfl (any_of HT_.out (by kernel_rfl)) (fun _ _ _ h => h) (Or.inl ⟨by rfl, ?_⟩) ?_ ?_
                        rotate_left; · (intro w'; go_simp; with_reducible rfl)
                        rotate_left; · (simp only [Act.put, εm, εn, εo, i64_w, i32_w]; rfl)
                        refine take_ (i := 6) (N := some 40) (v := ?_) (a' := ?_) ε9 rfl rfl (take_ofW HT_.out HW_.out (by kernel_rfl)) (fun _ _ _ h => h) (Or.inl ⟨by rfl, ?_⟩) hHeld ?_ ?_
                        rotate_left
                        ·
                         rintro w' ⟨s0, s1, s2, s3, s4, s5⟩
                         go_simp
                         with_reducible rfl
                        rotate_left
                        ·
                         simp only [Act.put, εm, εn, εo, i64_w, i32_w]
                         rfl
                        refine one_ (i := 9) (N := some 43) ε10 rfl rfl (one_of HT_.out (by kernel_rfl)) (by decide) (fun K hK => ?_)
                        refine goes_ Try.func64 (by kernel_rfl) rfl #[.int .i64 (rd (rd_L1 (rd_L2 l0 x22_1) x30_2) 0), .int .i64 0, .int .i64 (wrap64 (a1 - 1))] (by rfl) rfl rfl (by (try simp only [List.map_toArray, List.map_cons, List.map_nil]); first | done | rfl | (simp only [List.length_drop, List.length_take]; rfl)) ?_
                        with_reducible refine (impl_InRange.calls (rd (rd_L1 (rd_L2 l0 x22_1) x30_2) 0) 0 (wrap64 (a1 - 1)) true _ A22.out).mono ?_
                        rintro e w' ⟨rfl, ⟨nd, rfl⟩⟩
                        refine ⟨_, rfl, ?_⟩
                        refine hK.out _ _ ⟨((HB.out.cell (World.block_lt_of_cell? w _ hw169_0)).trans hw169_0), ((HB.out.cell (World.block_lt_of_cell? w _ hw171_0)).trans hw171_0), ((HB.out.cell (World.block_lt_of_cell? w _ hw173_0)).trans hw173_0), ((HB.out.cell (World.block_lt_of_cell? w _ hw174_0)).trans hw174_0), ((HB.out.cell (World.block_lt_of_cell? w _ hw175_0)).trans hw175_0), hHeld.2.2.2.2.2⟩ (fun hHeld => ?_)
                        clear hK K
                        refine norm_ (a' := ?_) ?_ ?_
                        rotate_left
                        ·
                         show Act.put _ (some 43) _ = _
                         simp only [Act.put, εm, εn, εo, i64_w, i32_w]
                         rfl
                        refine pure_ (i := 10) (N := some 44) (v := ?_) (a' := ?_) ε11 rfl rfl (any_of HT_.out (by kernel_rfl)) (fun _ _ _ h => h) (Or.inl ⟨by rfl, ?_⟩) ?_ ?_
                        rotate_left; · (intro w'; go_simp; with_reducible rfl)
                        rotate_left; · (simp only [Act.put, εm, εn, εo, i64_w, i32_w]; rfl)
                        refine pure_ (i := 11) (N := some 45) (v := ?_) (a' := ?_) ε12 rfl rfl (any_of HT_.out (by kernel_rfl)) (fun _ _ _ h => h) (Or.inl ⟨by rfl, ?_⟩) ?_ ?_
                        rotate_left; · (intro w'; go_simp; with_reducible rfl)
                        rotate_left; · (simp only [Act.put, εm, εn, εo, i64_w, i32_w]; rfl)
                        refine pure_ (i := 12) (N := some 46) (v := ?_) (a' := ?_) ε13 rfl rfl (any_of HT_.out (by kernel_rfl)) (fun _ _ _ h => h) (Or.inl ⟨by rfl, ?_⟩) ?_ ?_
                        rotate_left; · (intro w'; go_simp; with_reducible rfl)
                        rotate_left; · (simp only [Act.put, εm, εn, εo, i64_w, i32_w]; rfl)
                        refine pure_ (i := 13) (N := some 47) (v := ?_) (a' := ?_) ε14 rfl rfl (any_of HT_.out (by kernel_rfl)) (fun _ _ _ h => h) (Or.inl ⟨by rfl, ?_⟩) ?_ ?_
                        rotate_left; · (intro w'; go_simp; with_reducible rfl)
                        rotate_left; · (simp only [Act.put, εm, εn, εo, i64_w, i32_w]; rfl)
                        refine pure_ (i := 14) (N := some 48) (v := ?_) (a' := ?_) ε15 rfl rfl (any_of HT_.out (by kernel_rfl)) (fun _ _ _ h => h) (Or.inl ⟨by rfl, ?_⟩) ?_ ?_
                        rotate_left; · (intro w'; go_simp; with_reducible rfl)
                        rotate_left; · (simp only [Act.put, εm, εn, εo, i64_w, i32_w]; rfl)
                        refine pure_ (i := 16) (N := some 50) (v := ?_) (a' := ?_) ε16 rfl rfl (any_of HT_.out (by kernel_rfl)) (fun _ _ _ h => h) (Or.inl ⟨by rfl, ?_⟩) ?_ ?_
                        rotate_left; · (intro w'; go_simp; with_reducible rfl)
                        rotate_left; · (simp only [Act.put, εm, εn, εo, i64_w, i32_w]; rfl)
                        refine pure_ (i := 17) (N := some 51) (v := ?_) (a' := ?_) ε17 rfl rfl (any_of HT_.out (by kernel_rfl)) (fun _ _ _ h => h) (Or.inl ⟨by rfl, ?_⟩) ?_ ?_
                        rotate_left; · (intro w'; go_simp; with_reducible rfl)
                        rotate_left; · (simp only [Act.put, εm, εn, εo, i64_w, i32_w]; rfl)
                        refine take_ (i := 15) (N := some 49) (v := ?_) (a' := ?_) ε18 rfl rfl (take_ofW HT_.out HW_.out (by kernel_rfl)) (fun _ _ _ h => h) (Or.inl ⟨by rfl, ?_⟩) hHeld ?_ ?_
                        rotate_left
                        ·
                         rintro w' ⟨s0, s1, s2, s3, s4, s5⟩
                         go_simp
                         with_reducible rfl
                        rotate_left
                        ·
                         simp only [Act.put, εm, εn, εo, i64_w, i32_w]
                         rfl
                        refine one_ (i := 18) (N := some 52) ε19 rfl rfl (one_of HT_.out (by kernel_rfl)) (by decide) (fun K hK => ?_)
                        refine goes_ Try.func64 (by kernel_rfl) rfl #[.int .i64 (rd (rd_L1 (rd_L2 l0 x22_1) x30_2) 1), .int .i64 0, .int .i64 (wrap64 (a1 - 1))] (by rfl) rfl rfl (by (try simp only [List.map_toArray, List.map_cons, List.map_nil]); first | done | rfl | (simp only [List.length_drop, List.length_take]; rfl)) ?_
                        with_reducible refine (impl_InRange.calls (rd (rd_L1 (rd_L2 l0 x22_1) x30_2) 1) 0 (wrap64 (a1 - 1)) true _ A25.out).mono ?_
                        rintro e w' ⟨rfl, ⟨nd, rfl⟩⟩
                        refine ⟨_, rfl, ?_⟩
                        obtain ⟨Ao34, co34, eo34⟩ := Kd.R_slice HO_8.out
                        (first | subst eo34 | (injection eo34 with f1_ f2_ f3_; have f4_ := f1_.symm; have f5_ := f3_.symm; clear f1_ f2_ f3_; subst f4_; subst f5_))
                        refine hK.out _ _ ⟨((HB.out.cell (World.block_lt_of_cell? w _ hw169_0)).trans hw169_0), ((HB.out.cell (World.block_lt_of_cell? w _ hw171_0)).trans hw171_0), ((HB.out.cell (World.block_lt_of_cell? w _ hw173_0)).trans hw173_0), ((HB.out.cell (World.block_lt_of_cell? w _ hw174_0)).trans hw174_0), ((HB.out.cell (World.block_lt_of_cell? w _ hw175_0)).trans hw175_0), hHeld.2.2.2.2.2⟩ (fun hHeld => ?_)
                        clear hK K
                        refine norm_ (a' := ?_) ?_ ?_
                        rotate_left
                        ·
                         show Act.put _ (some 52) _ = _
                         simp only [Act.put, εm, εn, εo, i64_w, i32_w]
                         rfl
                        refine pure_ (i := 19) (N := some 53) (v := ?_) (a' := ?_) ε20 rfl rfl (any_of HT_.out (by kernel_rfl)) (fun _ _ _ h => h) (Or.inl ⟨by rfl, ?_⟩) ?_ ?_
                        rotate_left; · (intro w'; go_simp; with_reducible rfl)
                        rotate_left; · (simp only [Act.put, εm, εn, εo, i64_w, i32_w]; rfl)
                        refine pure_ (i := 20) (N := some 54) (v := ?_) (a' := ?_) ε21 rfl rfl (any_of HT_.out (by kernel_rfl)) (fun _ _ _ h => h) (Or.inl ⟨by rfl, ?_⟩) ?_ ?_
                        rotate_left; · (intro w'; go_simp; with_reducible rfl)
                        rotate_left; · (simp only [Act.put, εm, εn, εo, i64_w, i32_w]; rfl)
                        refine pure_ (i := 21) (N := some 55) (v := ?_) (a' := ?_) ε22 rfl rfl (any_of HT_.out (by kernel_rfl)) (fun _ _ _ h => h) (Or.inl ⟨by rfl, ?_⟩) ?_ ?_
                        rotate_left; · (intro w'; go_simp; with_reducible rfl)
                        rotate_left; · (simp only [Act.put, εm, εn, εo, i64_w, i32_w]; rfl)
                        refine pure_ (i := 22) (N := some 56) (v := ?_) (a' := ?_) ε23 rfl rfl (any_of HT_.out (by kernel_rfl)) (fun _ _ _ h => h) (Or.inl ⟨by rfl, ?_⟩) ?_ ?_
                        rotate_left; · (intro w'; go_simp; with_reducible rfl)
                        rotate_left; · (simp only [Act.put, εm, εn, εo, i64_w, i32_w]; rfl)
                        refine pure_ (i := 23) (N := some 57) (v := ?_) (a' := ?_) ε24 rfl rfl (any_of HT_.out (by kernel_rfl)) (fun _ _ _ h => h) (Or.inl ⟨by rfl, ?_⟩) ?_ ?_
                        rotate_left; · (intro w'; go_simp; with_reducible rfl)
                        rotate_left; · (simp only [Act.put, εm, εn, εo, i64_w, i32_w]; rfl)
                        refine pure_ (i := 25) (N := some 59) (v := ?_) (a' := ?_) ε25 rfl rfl (any_of HT_.out (by kernel_rfl)) (fun _ _ _ h => h) (Or.inl ⟨by rfl, ?_⟩) ?_ ?_
                        rotate_left; · (intro w'; go_simp; with_reducible rfl)
                        rotate_left; · (simp only [Act.put, εm, εn, εo, i64_w, i32_w]; rfl)
                        refine pure_ (i := 26) (N := some 60) (v := ?_) (a' := ?_) ε26 rfl rfl (any_of HT_.out (by kernel_rfl)) (fun _ _ _ h => h) (Or.inl ⟨by rfl, ?_⟩) ?_ ?_
                        rotate_left; · (intro w'; go_simp; with_reducible rfl)
                        rotate_left; · (simp only [Act.put, εm, εn, εo, i64_w, i32_w]; rfl)
                        refine take_ (i := 24) (N := some 58) (v := ?_) (a' := ?_) ε27 rfl rfl (take_ofW HT_.out HW_.out (by kernel_rfl)) (fun _ _ _ h => h) (Or.inl ⟨by rfl, ?_⟩) hHeld ?_ ?_
                        rotate_left
                        ·
                         rintro w' ⟨s0, s1, s2, s3, s4, s5⟩
                         go_simp
                         with_reducible rfl
                        rotate_left
                        ·
                         simp only [Act.put, εm, εn, εo, i64_w, i32_w]
                         rfl
                        refine take_ (i := 27) (N := some 61) (v := ?_) (a' := ?_) ε28 rfl rfl (take_ofW HT_.out HW_.out (by kernel_rfl)) (fun _ _ _ h => h) (Or.inl ⟨by rfl, ?_⟩) hHeld ?_ ?_
                        rotate_left
                        ·
                         rintro w' ⟨s0, s1, s2, s3, s4, s5⟩
                         go_simp
                         with_reducible rfl
                        rotate_left
                        ·
                         simp only [Act.put, εm, εn, εo, i64_w, i32_w]
                         rfl
                        refine pure_ (i := 28) (N := some 62) (v := ?_) (a' := ?_) ε29 rfl rfl (any_of HT_.out (by kernel_rfl)) (fun _ _ _ h => h) (Or.inl ⟨by rfl, ?_⟩) ?_ ?_
                        rotate_left; · (intro w'; go_simp; with_reducible rfl)
                        rotate_left; · (simp only [Act.put, εm, εn, εo, i64_w, i32_w]; rfl)
                        refine pure_ (i := 29) (N := some 63) (v := ?_) (a' := ?_) ε30 rfl rfl (any_of HT_.out (by kernel_rfl)) (fun _ _ _ h => h) (Or.inl ⟨by rfl, ?_⟩) ?_ ?_
                        rotate_left; · (intro w'; go_simp; with_reducible rfl)
                        rotate_left; · (simp only [Act.put, εm, εn, εo, i64_w, i32_w]; rfl)
                        refine pure_ (i := 30) (N := some 64) (v := ?_) (a' := ?_) ε31 rfl rfl (any_of HT_.out (by kernel_rfl)) (fun _ _ _ h => h) (Or.inl ⟨by rfl, ?_⟩) ?_ ?_
                        rotate_left; · (intro w'; go_simp; with_reducible rfl)
                        rotate_left; · (simp only [Act.put, εm, εn, εo, i64_w, i32_w]; rfl)
                        refine pure_ (i := 31) (N := some 65) (v := ?_) (a' := ?_) ε32 rfl rfl (any_of HT_.out (by kernel_rfl)) (fun _ _ _ h => h) (Or.inl ⟨by rfl, ?_⟩) ?_ ?_
                        rotate_left; · (intro w'; go_simp; with_reducible rfl)
                        rotate_left; · (simp only [Act.put, εm, εn, εo, i64_w, i32_w]; rfl)
                        refine pure_ (i := 32) (N := some 66) (v := ?_) (a' := ?_) ε33 rfl rfl (any_of HT_.out (by kernel_rfl)) (fun _ _ _ h => h) (Or.inl ⟨by rfl, ?_⟩) ?_ ?_
                        rotate_left; · (intro w'; go_simp; with_reducible rfl)
                        rotate_left; · (simp only [Act.put, εm, εn, εo, i64_w, i32_w]; rfl)
                        refine pure_ (i := 33) (N := some 67) (v := ?_) (a' := ?_) ε34 rfl rfl (any_of HT_.out (by kernel_rfl)) (fun _ _ _ h => h) (Or.inl ⟨by rfl, ?_⟩) ?_ ?_
                        rotate_left; · (intro w'; go_simp; with_reducible rfl)
                        rotate_left; · (simp only [Act.put, εm, εn, εo, i64_w, i32_w]; rfl)
                        refine take_ (i := 34) (N := some 68) (v := ?_) (a' := ?_) ε35 rfl rfl (take_ofW HT_.out HW_.out (by kernel_rfl)) (fun _ _ _ h => h) (Or.inl ⟨by rfl, ?_⟩) hHeld ?_ ?_
                        rotate_left
                        ·
                         rintro w' ⟨s0, s1, s2, s3, s4, s5⟩
                         go_simp
                         with_reducible rfl
                        rotate_left
                        ·
                         simp only [Act.put, εm, εn, εo, i64_w, i32_w]
                         rfl
                        refine pure_ (i := 35) (N := some 69) (v := ?_) (a' := ?_) ε36 rfl rfl (any_of HT_.out (by kernel_rfl)) (fun _ _ _ h => h) (Or.inl ⟨by rfl, ?_⟩) ?_ ?_
                        rotate_left; · (intro w'; go_simp; with_reducible rfl)
                        rotate_left; · (simp only [Act.put, εm, εn, εo, i64_w, i32_w]; rfl)
                        refine take_ (i := 36) (N := some 70) (v := ?_) (a' := ?_) ε37 rfl rfl (take_ofW HT_.out HW_.out (by kernel_rfl)) (fun _ _ _ h => h) (Or.inl ⟨by rfl, ?_⟩) hHeld ?_ ?_
                        rotate_left
                        ·
                         rintro w' ⟨s0, s1, s2, s3, s4, s5⟩
                         go_simp
                         with_reducible rfl
                        rotate_left
                        ·
                         simp only [Act.put, εm, εn, εo, i64_w, i32_w]
                         rfl
                        refine pure_ (i := 37) (N := some 71) (v := ?_) (a' := ?_) ε38 rfl rfl (any_of HT_.out (by kernel_rfl)) (fun _ _ _ h => h) (Or.inl ⟨by rfl, ?_⟩) ?_ ?_
                        rotate_left; · (intro w'; go_simp; with_reducible rfl)
                        rotate_left; · (simp only [Act.put, εm, εn, εo, i64_w, i32_w]; rfl)
                        refine pure_ (i := 38) (N := some 72) (v := ?_) (a' := ?_) ε39 rfl rfl (any_of HT_.out (by kernel_rfl)) (fun _ _ _ h => h) (Or.inl ⟨by rfl, ?_⟩) ?_ ?_
                        rotate_left; · (intro w'; go_simp; with_reducible rfl)
                        rotate_left; · (simp only [Act.put, εm, εn, εo, i64_w, i32_w]; rfl)
                        refine pure_ (i := 39) (N := some 73) (v := undef) (a' := ?_) ε40 rfl rfl (any_of HT_.out (by kernel_rfl)) (fun _ _ _ h => h) (Or.inr ⟨by rfl, rfl⟩) ?_ ?_
                        rotate_left
                        ·
                         simp only [Act.put, εm, εn, εo, i64_w, i32_w]
                         rfl
                        refine pure_ (i := 40) (N := some 74) (v := undef) (a' := ?_) ε41 rfl rfl (any_of HT_.out (by kernel_rfl)) (fun _ _ _ h => h) (Or.inr ⟨by rfl, rfl⟩) ?_ ?_
                        rotate_left
                        ·
                         simp only [Act.put, εm, εn, εo, i64_w, i32_w]
                         rfl
                        refine pure_ (i := 41) (N := some 75) (v := undef) (a' := ?_) ε42 rfl rfl (any_of HT_.out (by kernel_rfl)) (fun _ _ _ h => h) (Or.inr ⟨by rfl, rfl⟩) ?_ ?_
                        rotate_left
                        ·
                         simp only [Act.put, εm, εn, εo, i64_w, i32_w]
                         rfl
                        refine pure_ (i := 42) (N := some 76) (v := undef) (a' := ?_) ε43 rfl rfl (any_of HT_.out (by kernel_rfl)) (fun _ _ _ h => h) (Or.inr ⟨by rfl, rfl⟩) ?_ ?_
                        rotate_left
                        ·
                         simp only [Act.put, εm, εn, εo, i64_w, i32_w]
                         rfl
                        refine pure_ (i := 43) (N := some 77) (v := undef) (a' := ?_) ε44 rfl rfl (any_of HT_.out (by kernel_rfl)) (fun _ _ _ h => h) (Or.inr ⟨by rfl, rfl⟩) ?_ ?_
                        rotate_left
                        ·
                         simp only [Act.put, εm, εn, εo, i64_w, i32_w]
                         rfl
                        refine pure_ (i := 44) (N := some 78) (v := undef) (a' := ?_) ε45 rfl rfl (any_of HT_.out (by kernel_rfl)) (fun _ _ _ h => h) (Or.inr ⟨by rfl, rfl⟩) ?_ ?_
                        rotate_left
                        ·
                         simp only [Act.put, εm, εn, εo, i64_w, i32_w]
                         rfl
                        refine pure_ (i := 45) (N := some 79) (v := ?_) (a' := ?_) ε46 rfl rfl (any_of HT_.out (by kernel_rfl)) (fun _ _ _ h => h) (Or.inl ⟨by rfl, ?_⟩) ?_ ?_
                        rotate_left; · (intro w'; go_simp; with_reducible rfl)
                        rotate_left; · (simp only [Act.put, εm, εn, εo, i64_w, i32_w]; rfl)
                        refine done_ (done_of HT_.out (by kernel_rfl)) ?_
                        try go_wp2
                        go_ret
                        exact ⟨by first | rfl | (simp [errW_none, errW_some] <;> rfl) | (simp only [← hji5]; first | rfl | (simp [errW_none, errW_some] <;> rfl)) | (simp [*, errW_none, errW_some] <;> rfl), by repeat (first | (with_reducible first | exact HB.out | apply εj | apply εh | apply εi) | exact HB.out)⟩
                       replace c32 := Bool.eq_false_iff.mpr c32
                       subst c32
                       have H1 : (if 0 ≤ (rd (rd_L1 (rd_L2 l0 x22_1) x30_2) 1) then (if (rd (rd_L1 (rd_L2 l0 x22_1) x30_2) 1) < (x8_2.length : Int) then (if rdOf false x8_2 (rd (rd_L1 (rd_L2 l0 x22_1) x30_2) 1) = true then (some false) else (if 0 ≤ (wrap64 ((wrap64 ((mn (rd (rd_L1 (rd_L2 l0 x22_1) x30_2) 0) (rd (rd_L1 (rd_L2 l0 x22_1) x30_2) 1)) * a1)) + (mx (rd (rd_L1 (rd_L2 l0 x22_1) x30_2) 0) (rd (rd_L1 (rd_L2 l0 x22_1) x30_2) 1)))) then (if (wrap64 ((wrap64 ((mn (rd (rd_L1 (rd_L2 l0 x22_1) x30_2) 0) (rd (rd_L1 (rd_L2 l0 x22_1) x30_2) 1)) * a1)) + (mx (rd (rd_L1 (rd_L2 l0 x22_1) x30_2) 0) (rd (rd_L1 (rd_L2 l0 x22_1) x30_2) 1)))) < (x5_2.length : Int) then (impl_MeetOnce.l1 k2 a1 (x5_2.set ((wrap64 ((wrap64 ((mn (rd (rd_L1 (rd_L2 l0 x22_1) x30_2) 0) (rd (rd_L1 (rd_L2 l0 x22_1) x30_2) 1)) * a1)) + (mx (rd (rd_L1 (rd_L2 l0 x22_1) x30_2) 0) (rd (rd_L1 (rd_L2 l0 x22_1) x30_2) 1)))) : Int).toNat (wrap64 ((rd x5_2 (wrap64 ((wrap64 ((mn (rd (rd_L1 (rd_L2 l0 x22_1) x30_2) 0) (rd (rd_L1 (rd_L2 l0 x22_1) x30_2) 1)) * a1)) + (mx (rd (rd_L1 (rd_L2 l0 x22_1) x30_2) 0) (rd (rd_L1 (rd_L2 l0 x22_1) x30_2) 1))))) + 1))) ((x8_2.set ((rd (rd_L1 (rd_L2 l0 x22_1) x30_2) 0) : Int).toNat true).set ((rd (rd_L1 (rd_L2 l0 x22_1) x30_2) 1) : Int).toNat true) l0 (l0.length : Int) x22_1 (rd_L2 l0 x22_1) ((rd_L2 l0 x22_1).length : Int) (wrap64 (x30_2 + 1))) else (none)) else (none))) else (none)) else (none)) = some r := by rw [if_neg (show ¬ (false = true) by decide)] at H; exact H
                       clear H
                       have H := H1
                       clear H1
                       by_cases c35 : 0 ≤ (rd (rd_L1 (rd_L2 l0 x22_1) x30_2) 1)
                       ·
                        rw [if_pos c35] at H
                        have c35b0 : decide (0 ≤ (rd (rd_L1 (rd_L2 l0 x22_1) x30_2) 1)) = true := decide_eq_true c35
                        clear c35
                        by_cases c36 : (rd (rd_L1 (rd_L2 l0 x22_1) x30_2) 1) < (x8_2.length : Int)
                        ·
                         rw [if_pos c36] at H
                         have c36b0 : decide ((rd (rd_L1 (rd_L2 l0 x22_1) x30_2) 1) < (x8_2.length : Int)) = true := decide_eq_true c36
                         clear c36
                         obtain ⟨bq37, hbq37⟩ : ∃ b_ : Bool, b_ = (rdOf false x8_2 (rd (rd_L1 (rd_L2 l0 x22_1) x30_2) 1)) := ⟨_, rfl⟩
                         replace H : (if bq37 = true then (some false) else (if 0 ≤ (wrap64 ((wrap64 ((mn (rd (rd_L1 (rd_L2 l0 x22_1) x30_2) 0) (rd (rd_L1 (rd_L2 l0 x22_1) x30_2) 1)) * a1)) + (mx (rd (rd_L1 (rd_L2 l0 x22_1) x30_2) 0) (rd (rd_L1 (rd_L2 l0 x22_1) x30_2) 1)))) then (if (wrap64 ((wrap64 ((mn (rd (rd_L1 (rd_L2 l0 x22_1) x30_2) 0) (rd (rd_L1 (rd_L2 l0 x22_1) x30_2) 1)) * a1)) + (mx (rd (rd_L1 (rd_L2 l0 x22_1) x30_2) 0) (rd (rd_L1 (rd_L2 l0 x22_1) x30_2) 1)))) < (x5_2.length : Int) then (impl_MeetOnce.l1 k2 a1 (x5_2.set ((wrap64 ((wrap64 ((mn (rd (rd_L1 (rd_L2 l0 x22_1) x30_2) 0) (rd (rd_L1 (rd_L2 l0 x22_1) x30_2) 1)) * a1)) + (mx (rd (rd_L1 (rd_L2 l0 x22_1) x30_2) 0) (rd (rd_L1 (rd_L2 l0 x22_1) x30_2) 1)))) : Int).toNat (wrap64 ((rd x5_2 (wrap64 ((wrap64 ((mn (rd (rd_L1 (rd_L2 l0 x22_1) x30_2) 0) (rd (rd_L1 (rd_L2 l0 x22_1) x30_2) 1)) * a1)) + (mx (rd (rd_L1 (rd_L2 l0 x22_1) x30_2) 0) (rd (rd_L1 (rd_L2 l0 x22_1) x30_2) 1))))) + 1))) ((x8_2.set ((rd (rd_L1 (rd_L2 l0 x22_1) x30_2) 0) : Int).toNat true).set ((rd (rd_L1 (rd_L2 l0 x22_1) x30_2) 1) : Int).toNat true) l0 (l0.length : Int) x22_1 (rd_L2 l0 x22_1) ((rd_L2 l0 x22_1).length : Int) (wrap64 (x30_2 + 1))) else (none)) else (none))) = some r := by rw [← hbq37] at H; exact H
                         have Nbq37 := εp hbq37
                         clear hbq37
                         by_cases c38 : bq37 = true
                         ·
                          subst c38
                          rw [if_pos rfl] at H
                          obtain rfl := Option.some.inj H
                          have p168 : 0 ≤ (x30_2 : Int) := of_decide_eq_true (by first | (with_reducible assumption) | assumption)
                          have q168 : x30_2 < ((rd_L2 l0 x22_1).length : Int) := of_decide_eq_true (by first | (with_reducible assumption) | assumption)
                          obtain ⟨ad168, A168_0, c168_0, e168, hx168_0, hl168_0, hi168_0⟩ := at_L1 HR164_0.out x30_2 p168 q168
                          cases e168
                          (try (replace hx168_0 := (HB.out.cell (World.block_lt_of_cell? w _ hx168_0)).trans hx168_0))
                          have HR168_0 := εp hi168_0
                          have HC168_0 := εp hl168_0
                          clear hi168_0 hl168_0
                          replace p168 := eq_true p168
                          replace q168 := eq_true q168
                          try go_wp2
                          have n0_ := εp (εf HO_5.out)
                          have n1_ := εp (εf HO_8.out)
                          have n2_ := εp (εi HB.out)
                          clear HO_5
                          clear HO_8
                          clear HB
                          have HO_5 := n0_
                          have HO_8 := n1_
                          have HB := n2_
                          clear n0_ n1_ n2_
                          have p169 : 0 ≤ (0 : Int) := (by omega)
                          have q169 : 0 < ((rd_L1 (rd_L2 l0 x22_1) x30_2).length : Int) := of_decide_eq_true (by first | (with_reducible assumption) | assumption)
                          obtain ⟨ad169, e169, hx169_0⟩ := Kd.at_int HR168_0.out 0 p169 q169
                          have hw169_0 := hx169_0
                          (try rw [show ((0 : Int)).toNat = 0 from rfl] at hw169_0)
                          (try rw [show 0 * 1 = 0 from rfl] at hw169_0)
                          (try rw [Addr.add_zero'] at hw169_0)
                          cases e169
                          have qi169 : (0 < (rd_L1 (rd_L2 l0 x22_1) x30_2).length) = True := eq_true (by omega)
                          (try rw [show ((0 : Int)).toNat = 0 from rfl] at hx169_0)
                          (try rw [Addr.add_zero'] at hx169_0)
                          (try (replace hx169_0 := (HB.out.cell (World.block_lt_of_cell? w _ hx169_0)).trans hx169_0))
                          replace p169 := eq_true p169
                          replace q169 := eq_true q169
                          have p171 : 0 ≤ (1 : Int) := (by omega)
                          have q171 : 1 < ((rd_L1 (rd_L2 l0 x22_1) x30_2).length : Int) := of_decide_eq_true (by first | (with_reducible assumption) | assumption)
                          obtain ⟨ad171, e171, hx171_0⟩ := Kd.at_int HR168_0.out 1 p171 q171
                          have hw171_0 := hx171_0
                          (try rw [show ((1 : Int)).toNat = 1 from rfl] at hw171_0)
                          (try rw [show 1 * 1 = 1 from rfl] at hw171_0)
                          (try simp only [Nat.reduceMul, Nat.reduceEqDiff, Go.Addr.add, ↓reduceIte] at hw171_0)
                          obtain rfl : ad169 = ad171 := (by injection e171)
                          (try simp only [show (1 : Int).toNat = 1 from rfl, Nat.reduceMul, Nat.reduceEqDiff, Go.Addr.add, ↓reduceIte] at hx171_0)
                          have qi171 : (1 < (rd_L1 (rd_L2 l0 x22_1) x30_2).length) = True := eq_true (by omega)
                          (try rw [show ((1 : Int)).toNat = 1 from rfl] at hx171_0)
                          (try (replace hx171_0 := (HB.out.cell (World.block_lt_of_cell? w _ hx171_0)).trans hx171_0))
                          replace p171 := eq_true p171
                          replace q171 := eq_true q171
                          have p173 : 0 ≤ (0 : Int) := (by omega)
                          have q173 : 0 < ((rd_L1 (rd_L2 l0 x22_1) x30_2).length : Int) := of_decide_eq_true (by first | (with_reducible assumption) | assumption)
                          obtain ⟨ad173, e173, hx173_0⟩ := Kd.at_int HR168_0.out 0 p173 q173
                          have hw173_0 := hx173_0
                          (try rw [show ((0 : Int)).toNat = 0 from rfl] at hw173_0)
                          (try rw [show 0 * 1 = 0 from rfl] at hw173_0)
                          (try rw [Addr.add_zero'] at hw173_0)
                          obtain rfl : ad169 = ad173 := (by injection e173)
                          have qi173 : (0 < (rd_L1 (rd_L2 l0 x22_1) x30_2).length) = True := eq_true (by omega)
                          (try rw [show ((0 : Int)).toNat = 0 from rfl] at hx173_0)
                          (try rw [Addr.add_zero'] at hx173_0)
                          (try (replace hx173_0 := (HB.out.cell (World.block_lt_of_cell? w _ hx173_0)).trans hx173_0))
                          replace p173 := eq_true p173
                          replace q173 := eq_true q173
                          have p174 : 0 ≤ (1 : Int) := (by omega)
                          have q174 : 1 < ((rd_L1 (rd_L2 l0 x22_1) x30_2).length : Int) := of_decide_eq_true (by first | (with_reducible assumption) | assumption)
                          obtain ⟨ad174, e174, hx174_0⟩ := Kd.at_int HR168_0.out 1 p174 q174
                          have hw174_0 := hx174_0
                          (try rw [show ((1 : Int)).toNat = 1 from rfl] at hw174_0)
                          (try rw [show 1 * 1 = 1 from rfl] at hw174_0)
                          (try simp only [Nat.reduceMul, Nat.reduceEqDiff, Go.Addr.add, ↓reduceIte] at hw174_0)
                          obtain rfl : ad169 = ad174 := (by injection e174)
                          (try simp only [show (1 : Int).toNat = 1 from rfl, Nat.reduceMul, Nat.reduceEqDiff, Go.Addr.add, ↓reduceIte] at hx174_0)
                          have qi174 : (1 < (rd_L1 (rd_L2 l0 x22_1) x30_2).length) = True := eq_true (by omega)
                          (try rw [show ((1 : Int)).toNat = 1 from rfl] at hx174_0)
                          (try (replace hx174_0 := (HB.out.cell (World.block_lt_of_cell? w _ hx174_0)).trans hx174_0))
                          replace p174 := eq_true p174
                          replace q174 := eq_true q174
                          have p175 : 0 ≤ (0 : Int) := (by omega)
                          have q175 : 0 < ((rd_L1 (rd_L2 l0 x22_1) x30_2).length : Int) := of_decide_eq_true (by first | (with_reducible assumption) | assumption)
                          obtain ⟨ad175, e175, hx175_0⟩ := Kd.at_int HR168_0.out 0 p175 q175
                          have hw175_0 := hx175_0
                          (try rw [show ((0 : Int)).toNat = 0 from rfl] at hw175_0)
                          (try rw [show 0 * 1 = 0 from rfl] at hw175_0)
                          (try rw [Addr.add_zero'] at hw175_0)
                          obtain rfl : ad169 = ad175 := (by injection e175)
                          have qi175 : (0 < (rd_L1 (rd_L2 l0 x22_1) x30_2).length) = True := eq_true (by omega)
                          (try rw [show ((0 : Int)).toNat = 0 from rfl] at hx175_0)
                          (try rw [Addr.add_zero'] at hx175_0)
                          (try (replace hx175_0 := (HB.out.cell (World.block_lt_of_cell? w _ hx175_0)).trans hx175_0))
                          replace p175 := eq_true p175
                          replace q175 := eq_true q175
                          (try (obtain ⟨ao_, co_, eo_⟩ := Kd.R_slice HO_8.out; subst eo_))
                          have p176 : 0 ≤ ((rd (rd_L1 (rd_L2 l0 x22_1) x30_2) 0) : Int) := of_decide_eq_true (by first | (with_reducible assumption) | assumption)
                          have q176 : (rd (rd_L1 (rd_L2 l0 x22_1) x30_2) 0) < (x8_2.length : Int) := of_decide_eq_true (by first | (with_reducible assumption) | assumption)
                          obtain ⟨ad176, e176, hx176_0⟩ := Kd.at_bool (Kd.R_reads' HO_8.out).2.2 (rd (rd_L1 (rd_L2 l0 x22_1) x30_2) 0) p176 q176
                          (try rw [← Nbq31.out] at hx176_0)
                          (try rw [← Nbq37.out] at hx176_0)
                          cases e176
                          replace p176 := eq_true p176
                          replace q176 := eq_true q176
                          have p177 : 0 ≤ (1 : Int) := (by omega)
                          have q177 : 1 < ((rd_L1 (rd_L2 l0 x22_1) x30_2).length : Int) := of_decide_eq_true (by first | (with_reducible assumption) | assumption)
                          obtain ⟨ad177, e177, hx177_0⟩ := Kd.at_int HR168_0.out 1 p177 q177
                          have hw177_0 := hx177_0
                          (try rw [show ((1 : Int)).toNat = 1 from rfl] at hw177_0)
                          (try rw [show 1 * 1 = 1 from rfl] at hw177_0)
                          (try simp only [Nat.reduceMul, Nat.reduceEqDiff, Go.Addr.add, ↓reduceIte] at hw177_0)
                          obtain rfl : ad169 = ad177 := (by injection e177)
                          (try simp only [show (1 : Int).toNat = 1 from rfl, Nat.reduceMul, Nat.reduceEqDiff, Go.Addr.add, ↓reduceIte] at hx177_0)
                          have qi177 : (1 < (rd_L1 (rd_L2 l0 x22_1) x30_2).length) = True := eq_true (by omega)
                          (try rw [show ((1 : Int)).toNat = 1 from rfl] at hx177_0)
                          (try (replace hx177_0 := (HB.out.cell (World.block_lt_of_cell? w _ hx177_0)).trans hx177_0))
                          replace p177 := eq_true p177
                          replace q177 := eq_true q177
                          (try (obtain ⟨ao_, co_, eo_⟩ := Kd.R_slice HO_8.out; subst eo_))
                          have p178 : 0 ≤ ((rd (rd_L1 (rd_L2 l0 x22_1) x30_2) 1) : Int) := of_decide_eq_true (by first | (with_reducible assumption) | assumption)
                          have q178 : (rd (rd_L1 (rd_L2 l0 x22_1) x30_2) 1) < (x8_2.length : Int) := of_decide_eq_true (by first | (with_reducible assumption) | assumption)
                          obtain ⟨ad178, e178, hx178_0⟩ := Kd.at_bool (Kd.R_reads' HO_8.out).2.2 (rd (rd_L1 (rd_L2 l0 x22_1) x30_2) 1) p178 q178
                          (try rw [← Nbq31.out] at hx178_0)
                          (try rw [← Nbq37.out] at hx178_0)
                          obtain rfl : ad176 = ad178 := (by injection e178)
                          replace p178 := eq_true p178
                          replace q178 := eq_true q178
                          refine start_ (n := 46) (S := fun w' => w'.cell? ad169 = some (.int .i64 (rd (rd_L1 (rd_L2 l0 x22_1) x30_2) 0)) ∧ w'.cell? ⟨ad169.block, ad169.off + 1, none⟩ = some (.int .i64 (rd (rd_L1 (rd_L2 l0 x22_1) x30_2) 1)) ∧ w'.cell? ad169 = some (.int .i64 (rd (rd_L1 (rd_L2 l0 x22_1) x30_2) 0)) ∧ w'.cell? ⟨ad169.block, ad169.off + 1, none⟩ = some (.int .i64 (rd (rd_L1 (rd_L2 l0 x22_1) x30_2) 1)) ∧ w'.cell? ad169 = some (.int .i64 (rd (rd_L1 (rd_L2 l0 x22_1) x30_2) 0)) ∧ w'.cell? (ad176.add ((rd (rd_L1 (rd_L2 l0 x22_1) x30_2) 0)).toNat) = some (.bool false) ∧ w'.cell? ⟨ad169.block, ad169.off + 1, none⟩ = some (.int .i64 (rd (rd_L1 (rd_L2 l0 x22_1) x30_2) 1)) ∧ w'.cell? (ad176.add ((rd (rd_L1 (rd_L2 l0 x22_1) x30_2) 1)).toNat) = some (.bool true)) (ds := []) ε0 (by kernel_rfl) rfl rfl ⟨((HB.out.cell (World.block_lt_of_cell? w _ hw169_0)).trans hw169_0), ((HB.out.cell (World.block_lt_of_cell? w _ hw171_0)).trans hw171_0), ((HB.out.cell (World.block_lt_of_cell? w _ hw173_0)).trans hw173_0), ((HB.out.cell (World.block_lt_of_cell? w _ hw174_0)).trans hw174_0), ((HB.out.cell (World.block_lt_of_cell? w _ hw175_0)).trans hw175_0), hx176_0, ((HB.out.cell (World.block_lt_of_cell? w _ hw177_0)).trans hw177_0), hx178_0⟩ (fun hHeld => ?_); refine with_tabW impl_MeetOnce.tab11 impl_MeetOnce.bits11 (fun HT_ HW_ => ?_)
                          generalize wr.drew = w39 at HO_5 HO_8 HB hx169_0 hx171_0 hx173_0 hx174_0 hx175_0 hx176_0 hx177_0 hx178_0 hHeld ⊢
                          refine pure_ (i := 0) (N := some 34) (v := ?_) (a' := ?_) ε1 rfl rfl (any_of HT_.out (by kernel_rfl)) (fun _ _ _ h => h) (Or.inl ⟨by rfl, ?_⟩) ?_ ?_
                          rotate_left; · (intro w'; go_simp; with_reducible rfl)
                          rotate_left; · (simp only [Act.put, εm, εn, εo, i64_w, i32_w]; rfl)
                          refine pure_ (i := 1) (N := some 35) (v := ?_) (a' := ?_) ε2 rfl rfl (any_of HT_.out (by kernel_rfl)) (fun _ _ _ h => h) (Or.inl ⟨by rfl, ?_⟩) ?_ ?_
                          rotate_left; · (intro w'; go_simp; with_reducible rfl)
                          rotate_left; · (simp only [Act.put, εm, εn, εo, i64_w, i32_w]; rfl)
                          refine pure_ (i := 2) (N := some 36) (v := ?_) (a' := ?_) ε3 rfl rfl (any_of HT_.out (by kernel_rfl)) (fun _ _ _ h => h) (Or.inl ⟨by rfl, ?_⟩) ?_ ?_
                          rotate_left; · (intro w'; go_simp; with_reducible rfl)
                          rotate_left; · (simp only [Act.put, εm, εn, εo, i64_w, i32_w]; rfl)
                          refine pure_ (i := 3) (N := some 37) (v := ?_) (a' := ?_) ε4 rfl rfl (any_of HT_.out (by kernel_rfl)) (fun _ _ _ h => h) (Or.inl ⟨by rfl, ?_⟩) ?_ ?_
                          rotate_left; · (intro w'; go_simp; with_reducible rfl)
                          rotate_left; · (simp only [Act.put, εm, εn, εo, i64_w, i32_w]; rfl)
                          refine pure_ (i := 4) (N := some 38) (v := ?_) (a' := ?_) ε5 rfl rfl (any_of HT_.out (by kernel_rfl)) (fun _ _ _ h => h) (Or.inl ⟨by rfl, ?_⟩) ?_ ?_
                          rotate_left; · (intro w'; go_simp; with_reducible rfl)
                          rotate_left; · (simp only [Act.put, εm, εn, εo, i64_w, i32_w]; rfl)
                          refine pure_ (i := 5) (N := some 39) (v := ?_) (a' := ?_) ε6 rfl rfl (any_of HT_.out (by kernel_rfl)) (fun _ _ _ h => h) (Or.inl ⟨by rfl, ?_⟩) ?_ ?_
                          rotate_left; · (intro w'; go_simp; with_reducible rfl)
                          rotate_left; · (simp only [Act.put, εm, εn, εo, i64_w, i32_w]; rfl)
                          refine pure_ (i := 7) (N := some 41) (v := ?_) (a' := ?_) ε7 rfl rfl (any_of HT_.out (by kernel_rfl)) (fun _ _ _ h => h) (Or.inl ⟨by rfl, ?_⟩) ?_ ?_
                          rotate_left; · (intro w'; go_simp; with_reducible rfl)
                          rotate_left; · (simp only [Act.put, εm, εn, εo, i64_w, i32_w]; rfl)
                          refine pure_ (i := 8) (N := some 42) (v := ?_) (a' := ?_) ε8 rfl rfl (any_of HT_.out (by kernel_rfl)) (fun _ _ _ h => h) (Or.inl ⟨by rfl, ?_⟩) ?_ ?_
                          rotate_left; · (intro w'; go_simp; with_reducible rfl)
                          rotate_left; · (simp only [Act.put, εm, εn, εo, i64_w, i32_w]; rfl)
                          refine take_ (i := 6) (N := some 40) (v := ?_) (a' := ?_) ε9 rfl rfl (take_ofW HT_.out HW_.out (by kernel_rfl)) (fun _ _ _ h => h) (Or.inl ⟨by rfl, ?_⟩) hHeld ?_ ?_
                          rotate_left
                          ·
                           rintro w' ⟨s0, s1, s2, s3, s4, s5, s6, s7⟩
                           go_simp
                           with_reducible rfl
                          rotate_left
                          ·
                           simp only [Act.put, εm, εn, εo, i64_w, i32_w]
                           rfl
                          refine one_ (i := 9) (N := some 43) ε10 rfl rfl (one_of HT_.out (by kernel_rfl)) (by decide) (fun K hK => ?_)
                          refine goes_ Try.func64 (by kernel_rfl) rfl #[.int .i64 (rd (rd_L1 (rd_L2 l0 x22_1) x30_2) 0), .int .i64 0, .int .i64 (wrap64 (a1 - 1))] (by rfl) rfl rfl (by (try simp only [List.map_toArray, List.map_cons, List.map_nil]); first | done | rfl | (simp only [List.length_drop, List.length_take]; rfl)) ?_
                          with_reducible refine (impl_InRange.calls (rd (rd_L1 (rd_L2 l0 x22_1) x30_2) 0) 0 (wrap64 (a1 - 1)) true _ A22.out).mono ?_
                          rintro e w' ⟨rfl, ⟨nd, rfl⟩⟩
                          refine ⟨_, rfl, ?_⟩
                          refine hK.out _ _ ⟨((HB.out.cell (World.block_lt_of_cell? w _ hw169_0)).trans hw169_0), ((HB.out.cell (World.block_lt_of_cell? w _ hw171_0)).trans hw171_0), ((HB.out.cell (World.block_lt_of_cell? w _ hw173_0)).trans hw173_0), ((HB.out.cell (World.block_lt_of_cell? w _ hw174_0)).trans hw174_0), ((HB.out.cell (World.block_lt_of_cell? w _ hw175_0)).trans hw175_0), hHeld.2.2.2.2.2.1, ((HB.out.cell (World.block_lt_of_cell? w _ hw177_0)).trans hw177_0), hHeld.2.2.2.2.2.2.2⟩ (fun hHeld => ?_)
                          clear hK K
                          refine norm_ (a' := ?_) ?_ ?_
                          rotate_left
                          ·
                           show Act.put _ (some 43) _ = _
                           simp only [Act.put, εm, εn, εo, i64_w, i32_w]
                           rfl
                          refine pure_ (i := 10) (N := some 44) (v := ?_) (a' := ?_) ε11 rfl rfl (any_of HT_.out (by kernel_rfl)) (fun _ _ _ h => h) (Or.inl ⟨by rfl, ?_⟩) ?_ ?_
                          rotate_left; · (intro w'; go_simp; with_reducible rfl)
                          rotate_left; · (simp only [Act.put, εm, εn, εo, i64_w, i32_w]; rfl)
                          refine pure_ (i := 11) (N := some 45) (v := ?_) (a' := ?_) ε12 rfl rfl (any_of HT_.out (by kernel_rfl)) (fun _ _ _ h => h) (Or.inl ⟨by rfl, ?_⟩) ?_ ?_
                          rotate_left; · (intro w'; go_simp; with_reducible rfl)
                          rotate_left; · (simp only [Act.put, εm, εn, εo, i64_w, i32_w]; rfl)
                          refine pure_ (i := 12) (N := some 46) (v := ?_) (a' := ?_) ε13 rfl rfl (any_of HT_.out (by kernel_rfl)) (fun _ _ _ h => h) (Or.inl ⟨by rfl, ?_⟩) ?_ ?_
                          rotate_left; · (intro w'; go_simp; with_reducible rfl)
                          rotate_left; · (simp only [Act.put, εm, εn, εo, i64_w, i32_w]; rfl)
                          refine pure_ (i := 13) (N := some 47) (v := ?_) (a' := ?_) ε14 rfl rfl (any_of HT_.out (by kernel_rfl)) (fun _ _ _ h => h) (Or.inl ⟨by rfl, ?_⟩) ?_ ?_
                          rotate_left; · (intro w'; go_simp; with_reducible rfl)
                          rotate_left; · (simp only [Act.put, εm, εn, εo, i64_w, i32_w]; rfl)
                          refine pure_ (i := 14) (N := some 48) (v := ?_) (a' := ?_) ε15 rfl rfl (any_of HT_.out (by kernel_rfl)) (fun _ _ _ h => h) (Or.inl ⟨by rfl, ?_⟩) ?_ ?_
                          rotate_left; · (intro w'; go_simp; with_reducible rfl)
                          rotate_left; · (simp only [Act.put, εm, εn, εo, i64_w, i32_w]; rfl)
                          refine pure_ (i := 16) (N := some 50) (v := ?_) (a' := ?_) ε16 rfl rfl (any_of HT_.out (by kernel_rfl)) (fun _ _ _ h => h) (Or.inl ⟨by rfl, ?_⟩) ?_ ?_
                          rotate_left; · (intro w'; go_simp; with_reducible rfl)
                          rotate_left; · (simp only [Act.put, εm, εn, εo, i64_w, i32_w]; rfl)
                          refine pure_ (i := 17) (N := some 51) (v := ?_) (a' := ?_) ε17 rfl rfl (any_of HT_.out (by kernel_rfl)) (fun _ _ _ h => h) (Or.inl ⟨by rfl, ?_⟩) ?_ ?_
                          rotate_left; · (intro w'; go_simp; with_reducible rfl)
                          rotate_left; · (simp only [Act.put, εm, εn, εo, i64_w, i32_w]; rfl)
                          refine take_ (i := 15) (N := some 49) (v := ?_) (a' := ?_) ε18 rfl rfl (take_ofW HT_.out HW_.out (by kernel_rfl)) (fun _ _ _ h => h) (Or.inl ⟨by rfl, ?_⟩) hHeld ?_ ?_
                          rotate_left
                          ·
                           rintro w' ⟨s0, s1, s2, s3, s4, s5, s6, s7⟩
                           go_simp
                           with_reducible rfl
                          rotate_left
                          ·
                           simp only [Act.put, εm, εn, εo, i64_w, i32_w]
                           rfl
                          refine one_ (i := 18) (N := some 52) ε19 rfl rfl (one_of HT_.out (by kernel_rfl)) (by decide) (fun K hK => ?_)
                          refine goes_ Try.func64 (by kernel_rfl) rfl #[.int .i64 (rd (rd_L1 (rd_L2 l0 x22_1) x30_2) 1), .int .i64 0, .int .i64 (wrap64 (a1 - 1))] (by rfl) rfl rfl (by (try simp only [List.map_toArray, List.map_cons, List.map_nil]); first | done | rfl | (simp only [List.length_drop, List.length_take]; rfl)) ?_
                          with_reducible refine (impl_InRange.calls (rd (rd_L1 (rd_L2 l0 x22_1) x30_2) 1) 0 (wrap64 (a1 - 1)) true _ A25.out).mono ?_
                          rintro e w' ⟨rfl, ⟨nd, rfl⟩⟩
                          refine ⟨_, rfl, ?_⟩
                          obtain ⟨Ao40, co40, eo40⟩ := Kd.R_slice HO_8.out
                          (first | subst eo40 | (injection eo40 with f1_ f2_ f3_; have f4_ := f1_.symm; have f5_ := f3_.symm; clear f1_ f2_ f3_; subst f4_; subst f5_))
                          refine hK.out _ _ ⟨((HB.out.cell (World.block_lt_of_cell? w _ hw169_0)).trans hw169_0), ((HB.out.cell (World.block_lt_of_cell? w _ hw171_0)).trans hw171_0), ((HB.out.cell (World.block_lt_of_cell? w _ hw173_0)).trans hw173_0), ((HB.out.cell (World.block_lt_of_cell? w _ hw174_0)).trans hw174_0), ((HB.out.cell (World.block_lt_of_cell? w _ hw175_0)).trans hw175_0), hHeld.2.2.2.2.2.1, ((HB.out.cell (World.block_lt_of_cell? w _ hw177_0)).trans hw177_0), hHeld.2.2.2.2.2.2.2⟩ (fun hHeld => ?_)
                          clear hK K
                          refine norm_ (a' := ?_) ?_ ?_
                          rotate_left
                          ·
                           show Act.put _ (some 52) _ = _
                           simp only [Act.put, εm, εn, εo, i64_w, i32_w]
                           rfl
                          refine pure_ (i := 19) (N := some 53) (v := ?_) (a' := ?_) ε20 rfl rfl (any_of HT_.out (by kernel_rfl)) (fun _ _ _ h => h) (Or.inl ⟨by rfl, ?_⟩) ?_ ?_
                          rotate_left; · (intro w'; go_simp; with_reducible rfl)
                          rotate_left; · (simp only [Act.put, εm, εn, εo, i64_w, i32_w]; rfl)
                          refine pure_ (i := 20) (N := some 54) (v := ?_) (a' := ?_) ε21 rfl rfl (any_of HT_.out (by kernel_rfl)) (fun _ _ _ h => h) (Or.inl ⟨by rfl, ?_⟩) ?_ ?_
                          rotate_left; · (intro w'; go_simp; with_reducible rfl)
                          rotate_left; · (simp only [Act.put, εm, εn, εo, i64_w, i32_w]; rfl)
                          refine pure_ (i := 21) (N := some 55) (v := ?_) (a' := ?_) ε22 rfl rfl (any_of HT_.out (by kernel_rfl)) (fun _ _ _ h => h) (Or.inl ⟨by rfl, ?_⟩) ?_ ?_
                          rotate_left; · (intro w'; go_simp; with_reducible rfl)
                          rotate_left; · (simp only [Act.put, εm, εn, εo, i64_w, i32_w]; rfl)
                          refine pure_ (i := 22) (N := some 56) (v := ?_) (a' := ?_) ε23 rfl rfl (any_of HT_.out (by kernel_rfl)) (fun _ _ _ h => h) (Or.inl ⟨by rfl, ?_⟩) ?_ ?_
                          rotate_left; · (intro w'; go_simp; with_reducible rfl)
                          rotate_left; · (simp only [Act.put, εm, εn, εo, i64_w, i32_w]; rfl)
                          refine pure_ (i := 23) (N := some 57) (v := ?_) (a' := ?_) ε24 rfl rfl (any_of HT_.out (by kernel_rfl)) (fun _ _ _ h => h) (Or.inl ⟨by rfl, ?_⟩) ?_ ?_
                          rotate_left; · (intro w'; go_simp; with_reducible rfl)
                          rotate_left; · (simp only [Act.put, εm, εn, εo, i64_w, i32_w]; rfl)
                          refine pure_ (i := 25) (N := some 59) (v := ?_) (a' := ?_) ε25 rfl rfl (any_of HT_.out (by kernel_rfl)) (fun _ _ _ h => h) (Or.inl ⟨by rfl, ?_⟩) ?_ ?_
                          rotate_left; · (intro w'; go_simp; with_reducible rfl)
                          rotate_left; · (simp only [Act.put, εm, εn, εo, i64_w, i32_w]; rfl)
                          refine pure_ (i := 26) (N := some 60) (v := ?_) (a' := ?_) ε26 rfl rfl (any_of HT_.out (by kernel_rfl)) (fun _ _ _ h => h) (Or.inl ⟨by rfl, ?_⟩) ?_ ?_
                          rotate_left; · (intro w'; go_simp; with_reducible rfl)
                          rotate_left; · (simp only [Act.put, εm, εn, εo, i64_w, i32_w]; rfl)
                          refine take_ (i := 24) (N := some 58) (v := ?_) (a' := ?_) ε27 rfl rfl (take_ofW HT_.out HW_.out (by kernel_rfl)) (fun _ _ _ h => h) (Or.inl ⟨by rfl, ?_⟩) hHeld ?_ ?_
                          rotate_left
                          ·
                           rintro w' ⟨s0, s1, s2, s3, s4, s5, s6, s7⟩
                           go_simp
                           with_reducible rfl
                          rotate_left
                          ·
                           simp only [Act.put, εm, εn, εo, i64_w, i32_w]
                           rfl
                          refine take_ (i := 27) (N := some 61) (v := ?_) (a' := ?_) ε28 rfl rfl (take_ofW HT_.out HW_.out (by kernel_rfl)) (fun _ _ _ h => h) (Or.inl ⟨by rfl, ?_⟩) hHeld ?_ ?_
                          rotate_left
                          ·
                           rintro w' ⟨s0, s1, s2, s3, s4, s5, s6, s7⟩
                           go_simp
                           with_reducible rfl
                          rotate_left
                          ·
                           simp only [Act.put, εm, εn, εo, i64_w, i32_w]
                           rfl
                          refine pure_ (i := 28) (N := some 62) (v := ?_) (a' := ?_) ε29 rfl rfl (any_of HT_.out (by kernel_rfl)) (fun _ _ _ h => h) (Or.inl ⟨by rfl, ?_⟩) ?_ ?_
                          rotate_left; · (intro w'; go_simp; with_reducible rfl)
                          rotate_left; · (simp only [Act.put, εm, εn, εo, i64_w, i32_w]; rfl)
                          refine pure_ (i := 29) (N := some 63) (v := ?_) (a' := ?_) ε30 rfl rfl (any_of HT_.out (by kernel_rfl)) (fun _ _ _ h => h) (Or.inl ⟨by rfl, ?_⟩) ?_ ?_
                          rotate_left; · (intro w'; go_simp; with_reducible rfl)
                          rotate_left; · (simp only [Act.put, εm, εn, εo, i64_w, i32_w]; rfl)
                          refine pure_ (i := 30) (N := some 64) (v := ?_) (a' := ?_) ε31 rfl rfl (any_of HT_.out (by kernel_rfl)) (fun _ _ _ h => h) (Or.inl ⟨by rfl, ?_⟩) ?_ ?_
                          rotate_left; · (intro w'; go_simp; with_reducible rfl)
                          rotate_left; · (simp only [Act.put, εm, εn, εo, i64_w, i32_w]; rfl)
                          refine pure_ (i := 31) (N := some 65) (v := ?_) (a' := ?_) ε32 rfl rfl (any_of HT_.out (by kernel_rfl)) (fun _ _ _ h => h) (Or.inl ⟨by rfl, ?_⟩) ?_ ?_
                          rotate_left; · (intro w'; go_simp; with_reducible rfl)
                          rotate_left; · (simp only [Act.put, εm, εn, εo, i64_w, i32_w]; rfl)
                          refine pure_ (i := 32) (N := some 66) (v := ?_) (a' := ?_) ε33 rfl rfl (any_of HT_.out (by kernel_rfl)) (fun _ _ _ h => h) (Or.inl ⟨by rfl, ?_⟩) ?_ ?_
                          rotate_left; · (intro w'; go_simp; with_reducible rfl)
                          rotate_left; · (simp only [Act.put, εm, εn, εo, i64_w, i32_w]; rfl)
                          refine pure_ (i := 33) (N := some 67) (v := ?_) (a' := ?_) ε34 rfl rfl (any_of HT_.out (by kernel_rfl)) (fun _ _ _ h => h) (Or.inl ⟨by rfl, ?_⟩) ?_ ?_
                          rotate_left; · (intro w'; go_simp; with_reducible rfl)
                          rotate_left; · (simp only [Act.put, εm, εn, εo, i64_w, i32_w]; rfl)
                          refine take_ (i := 34) (N := some 68) (v := ?_) (a' := ?_) ε35 rfl rfl (take_ofW HT_.out HW_.out (by kernel_rfl)) (fun _ _ _ h => h) (Or.inl ⟨by rfl, ?_⟩) hHeld ?_ ?_
                          rotate_left
                          ·
                           rintro w' ⟨s0, s1, s2, s3, s4, s5, s6, s7⟩
                           go_simp
                           with_reducible rfl
                          rotate_left
                          ·
                           simp only [Act.put, εm, εn, εo, i64_w, i32_w]
                           rfl
                          refine pure_ (i := 35) (N := some 69) (v := ?_) (a' := ?_) ε36 rfl rfl (any_of HT_.out (by kernel_rfl)) (fun _ _ _ h => h) (Or.inl ⟨by rfl, ?_⟩) ?_ ?_
                          rotate_left; · (intro w'; go_simp; with_reducible rfl)
                          rotate_left; · (simp only [Act.put, εm, εn, εo, i64_w, i32_w]; rfl)
                          refine take_ (i := 36) (N := some 70) (v := ?_) (a' := ?_) ε37 rfl rfl (take_ofW HT_.out HW_.out (by kernel_rfl)) (fun _ _ _ h => h) (Or.inl ⟨by rfl, ?_⟩) hHeld ?_ ?_
                          rotate_left
                          ·
                           rintro w' ⟨s0, s1, s2, s3, s4, s5, s6, s7⟩
                           go_simp
                           with_reducible rfl
                          rotate_left
                          ·
                           simp only [Act.put, εm, εn, εo, i64_w, i32_w]
                           rfl
                          refine pure_ (i := 37) (N := some 71) (v := ?_) (a' := ?_) ε38 rfl rfl (any_of HT_.out (by kernel_rfl)) (fun _ _ _ h => h) (Or.inl ⟨by rfl, ?_⟩) ?_ ?_
                          rotate_left; · (intro w'; go_simp; with_reducible rfl)
                          rotate_left; · (simp only [Act.put, εm, εn, εo, i64_w, i32_w]; rfl)
                          refine pure_ (i := 38) (N := some 72) (v := ?_) (a' := ?_) ε39 rfl rfl (any_of HT_.out (by kernel_rfl)) (fun _ _ _ h => h) (Or.inl ⟨by rfl, ?_⟩) ?_ ?_
                          rotate_left; · (intro w'; go_simp; with_reducible rfl)
                          rotate_left; · (simp only [Act.put, εm, εn, εo, i64_w, i32_w]; rfl)
                          refine pure_ (i := 39) (N := some 73) (v := ?_) (a' := ?_) ε40 rfl rfl (any_of HT_.out (by kernel_rfl)) (fun _ _ _ h => h) (Or.inl ⟨by rfl, ?_⟩) ?_ ?_
                          rotate_left; · (intro w'; go_simp; with_reducible rfl)
                          rotate_left; · (simp only [Act.put, εm, εn, εo, i64_w, i32_w]; rfl)
                          refine pure_ (i := 40) (N := some 74) (v := ?_) (a' := ?_) ε41 rfl rfl (any_of HT_.out (by kernel_rfl)) (fun _ _ _ h => h) (Or.inl ⟨by rfl, ?_⟩) ?_ ?_
                          rotate_left; · (intro w'; go_simp; with_reducible rfl)
                          rotate_left; · (simp only [Act.put, εm, εn, εo, i64_w, i32_w]; rfl)
                          refine pure_ (i := 41) (N := some 75) (v := ?_) (a' := ?_) ε42 rfl rfl (any_of HT_.out (by kernel_rfl)) (fun _ _ _ h => h) (Or.inl ⟨by rfl, ?_⟩) ?_ ?_
                          rotate_left; · (intro w'; go_simp; with_reducible rfl)
                          rotate_left; · (simp only [Act.put, εm, εn, εo, i64_w, i32_w]; rfl)
                          refine take_ (i := 42) (N := some 76) (v := ?_) (a' := ?_) ε43 rfl rfl (take_ofW HT_.out HW_.out (by kernel_rfl)) (fun _ _ _ h => h) (Or.inl ⟨by rfl, ?_⟩) hHeld ?_ ?_
                          rotate_left
                          ·
                           rintro w' ⟨s0, s1, s2, s3, s4, s5, s6, s7⟩
                           go_simp
                           with_reducible rfl
                          rotate_left
                          ·
                           simp only [Act.put, εm, εn, εo, i64_w, i32_w]
                           rfl
                          refine pure_ (i := 43) (N := some 77) (v := ?_) (a' := ?_) ε44 rfl rfl (any_of HT_.out (by kernel_rfl)) (fun _ _ _ h => h) (Or.inl ⟨by rfl, ?_⟩) ?_ ?_
                          rotate_left; · (intro w'; go_simp; with_reducible rfl)
                          rotate_left; · (simp only [Act.put, εm, εn, εo, i64_w, i32_w]; rfl)
                          refine take_ (i := 44) (N := some 78) (v := ?_) (a' := ?_) ε45 rfl rfl (take_ofW HT_.out HW_.out (by kernel_rfl)) (fun _ _ _ h => h) (Or.inl ⟨by rfl, ?_⟩) hHeld ?_ ?_
                          rotate_left
                          ·
                           rintro w' ⟨s0, s1, s2, s3, s4, s5, s6, s7⟩
                           go_simp
                           with_reducible rfl
                          rotate_left
                          ·
                           simp only [Act.put, εm, εn, εo, i64_w, i32_w]
                           rfl
                          refine pure_ (i := 45) (N := some 79) (v := ?_) (a' := ?_) ε46 rfl rfl (any_of HT_.out (by kernel_rfl)) (fun _ _ _ h => h) (Or.inl ⟨by rfl, ?_⟩) ?_ ?_
                          rotate_left; · (intro w'; go_simp; with_reducible rfl)
                          rotate_left; · (simp only [Act.put, εm, εn, εo, i64_w, i32_w]; rfl)
                          refine done_ (done_of HT_.out (by kernel_rfl)) ?_
                          try go_wp2
                          go_ret
                          exact ⟨by first | rfl | (simp [errW_none, errW_some] <;> rfl) | (simp only [← hji5]; first | rfl | (simp [errW_none, errW_some] <;> rfl)) | (simp [*, errW_none, errW_some] <;> rfl), by repeat (first | (with_reducible first | exact HB.out | apply εj | apply εh | apply εi) | exact HB.out)⟩
                         replace c38 := Bool.eq_false_iff.mpr c38
                         subst c38
                         have H1 : (if 0 ≤ (wrap64 ((wrap64 ((mn (rd (rd_L1 (rd_L2 l0 x22_1) x30_2) 0) (rd (rd_L1 (rd_L2 l0 x22_1) x30_2) 1)) * a1)) + (mx (rd (rd_L1 (rd_L2 l0 x22_1) x30_2) 0) (rd (rd_L1 (rd_L2 l0 x22_1) x30_2) 1)))) then (if (wrap64 ((wrap64 ((mn (rd (rd_L1 (rd_L2 l0 x22_1) x30_2) 0) (rd (rd_L1 (rd_L2 l0 x22_1) x30_2) 1)) * a1)) + (mx (rd (rd_L1 (rd_L2 l0 x22_1) x30_2) 0) (rd (rd_L1 (rd_L2 l0 x22_1) x30_2) 1)))) < (x5_2.length : Int) then (impl_MeetOnce.l1 k2 a1 (x5_2.set ((wrap64 ((wrap64 ((mn (rd (rd_L1 (rd_L2 l0 x22_1) x30_2) 0) (rd (rd_L1 (rd_L2 l0 x22_1) x30_2) 1)) * a1)) + (mx (rd (rd_L1 (rd_L2 l0 x22_1) x30_2) 0) (rd (rd_L1 (rd_L2 l0 x22_1) x30_2) 1)))) : Int).toNat (wrap64 ((rd x5_2 (wrap64 ((wrap64 ((mn (rd (rd_L1 (rd_L2 l0 x22_1) x30_2) 0) (rd (rd_L1 (rd_L2 l0 x22_1) x30_2) 1)) * a1)) + (mx (rd (rd_L1 (rd_L2 l0 x22_1) x30_2) 0) (rd (rd_L1 (rd_L2 l0 x22_1) x30_2) 1))))) + 1))) ((x8_2.set ((rd (rd_L1 (rd_L2 l0 x22_1) x30_2) 0) : Int).toNat true).set ((rd (rd_L1 (rd_L2 l0 x22_1) x30_2) 1) : Int).toNat true) l0 (l0.length : Int) x22_1 (rd_L2 l0 x22_1) ((rd_L2 l0 x22_1).length : Int) (wrap64 (x30_2 + 1))) else (none)) else (none)) = some r := by rw [if_neg (show ¬ (false = true) by decide)] at H; exact H
                         clear H
                         have H := H1
                         clear H1
                         obtain ⟨y181, hy181⟩ : ∃ y_ : List Bool, y_ = (x8_2.set ((rd (rd_L1 (rd_L2 l0 x22_1) x30_2) 0) : Int).toNat true) := ⟨_, rfl⟩
                         replace H : (if 0 ≤ (wrap64 ((wrap64 ((mn (rd (rd_L1 (rd_L2 l0 x22_1) x30_2) 0) (rd (rd_L1 (rd_L2 l0 x22_1) x30_2) 1)) * a1)) + (mx (rd (rd_L1 (rd_L2 l0 x22_1) x30_2) 0) (rd (rd_L1 (rd_L2 l0 x22_1) x30_2) 1)))) then (if (wrap64 ((wrap64 ((mn (rd (rd_L1 (rd_L2 l0 x22_1) x30_2) 0) (rd (rd_L1 (rd_L2 l0 x22_1) x30_2) 1)) * a1)) + (mx (rd (rd_L1 (rd_L2 l0 x22_1) x30_2) 0) (rd (rd_L1 (rd_L2 l0 x22_1) x30_2) 1)))) < (x5_2.length : Int) then (impl_MeetOnce.l1 k2 a1 (x5_2.set ((wrap64 ((wrap64 ((mn (rd (rd_L1 (rd_L2 l0 x22_1) x30_2) 0) (rd (rd_L1 (rd_L2 l0 x22_1) x30_2) 1)) * a1)) + (mx (rd (rd_L1 (rd_L2 l0 x22_1) x30_2) 0) (rd (rd_L1 (rd_L2 l0 x22_1) x30_2) 1)))) : Int).toNat (wrap64 ((rd x5_2 (wrap64 ((wrap64 ((mn (rd (rd_L1 (rd_L2 l0 x22_1) x30_2) 0) (rd (rd_L1 (rd_L2 l0 x22_1) x30_2) 1)) * a1)) + (mx (rd (rd_L1 (rd_L2 l0 x22_1) x30_2) 0) (rd (rd_L1 (rd_L2 l0 x22_1) x30_2) 1))))) + 1))) (y181.set ((rd (rd_L1 (rd_L2 l0 x22_1) x30_2) 1) : Int).toNat true) l0 (l0.length : Int) x22_1 (rd_L2 l0 x22_1) ((rd_L2 l0 x22_1).length : Int) (wrap64 (x30_2 + 1))) else (none)) else (none)) = some r := by first | (rw [hy181]; with_reducible exact H) | (have H2_ := (Option.bind_some _ _).symm.trans H; rw [hy181]; with_reducible exact H2_) | (have H2_ := (Option.bind_some _ _).symm.trans H; with_reducible exact H2_) | with_reducible exact H | (rw [hy181]; exact H) | exact H
                         have Ny181 := εp hy181
                         clear hy181
                         obtain ⟨y182, hy182⟩ : ∃ y_ : List Bool, y_ = (y181.set ((rd (rd_L1 (rd_L2 l0 x22_1) x30_2) 1) : Int).toNat true) := ⟨_, rfl⟩
                         replace H : (if 0 ≤ (wrap64 ((wrap64 ((mn (rd (rd_L1 (rd_L2 l0 x22_1) x30_2) 0) (rd (rd_L1 (rd_L2 l0 x22_1) x30_2) 1)) * a1)) + (mx (rd (rd_L1 (rd_L2 l0 x22_1) x30_2) 0) (rd (rd_L1 (rd_L2 l0 x22_1) x30_2) 1)))) then (if (wrap64 ((wrap64 ((mn (rd (rd_L1 (rd_L2 l0 x22_1) x30_2) 0) (rd (rd_L1 (rd_L2 l0 x22_1) x30_2) 1)) * a1)) + (mx (rd (rd_L1 (rd_L2 l0 x22_1) x30_2) 0) (rd (rd_L1 (rd_L2 l0 x22_1) x30_2) 1)))) < (x5_2.length : Int) then (impl_MeetOnce.l1 k2 a1 (x5_2.set ((wrap64 ((wrap64 ((mn (rd (rd_L1 (rd_L2 l0 x22_1) x30_2) 0) (rd (rd_L1 (rd_L2 l0 x22_1) x30_2) 1)) * a1)) + (mx (rd (rd_L1 (rd_L2 l0 x22_1) x30_2) 0) (rd (rd_L1 (rd_L2 l0 x22_1) x30_2) 1)))) : Int).toNat (wrap64 ((rd x5_2 (wrap64 ((wrap64 ((mn (rd (rd_L1 (rd_L2 l0 x22_1) x30_2) 0) (rd (rd_L1 (rd_L2 l0 x22_1) x30_2) 1)) * a1)) + (mx (rd (rd_L1 (rd_L2 l0 x22_1) x30_2) 0) (rd (rd_L1 (rd_L2 l0 x22_1) x30_2) 1))))) + 1))) y182 l0 (l0.length : Int) x22_1 (rd_L2 l0 x22_1) ((rd_L2 l0 x22_1).length : Int) (wrap64 (x30_2 + 1))) else (none)) else (none)) = some r := by first | (rw [hy182]; with_reducible exact H) | (have H2_ := (Option.bind_some _ _).symm.trans H; rw [hy182]; with_reducible exact H2_) | (have H2_ := (Option.bind_some _ _).symm.trans H; with_reducible exact H2_) | with_reducible exact H | (rw [hy182]; exact H) | exact H
                         have Ny182 := εp hy182
                         clear hy182
                         obtain ⟨ji43, hji43⟩ : ∃ j_ : Int, (mn (rd (rd_L1 (rd_L2 l0 x22_1) x30_2) 0) (rd (rd_L1 (rd_L2 l0 x22_1) x30_2) 1)) = j_ := ⟨_, rfl⟩
                         replace H : (if 0 ≤ (wrap64 ((wrap64 ((ji43) * a1)) + (mx (rd (rd_L1 (rd_L2 l0 x22_1) x30_2) 0) (rd (rd_L1 (rd_L2 l0 x22_1) x30_2) 1)))) then (if (wrap64 ((wrap64 ((ji43) * a1)) + (mx (rd (rd_L1 (rd_L2 l0 x22_1) x30_2) 0) (rd (rd_L1 (rd_L2 l0 x22_1) x30_2) 1)))) < (x5_2.length : Int) then (impl_MeetOnce.l1 k2 a1 (x5_2.set ((wrap64 ((wrap64 ((ji43) * a1)) + (mx (rd (rd_L1 (rd_L2 l0 x22_1) x30_2) 0) (rd (rd_L1 (rd_L2 l0 x22_1) x30_2) 1)))) : Int).toNat (wrap64 ((rd x5_2 (wrap64 ((wrap64 ((ji43) * a1)) + (mx (rd (rd_L1 (rd_L2 l0 x22_1) x30_2) 0) (rd (rd_L1 (rd_L2 l0 x22_1) x30_2) 1))))) + 1))) y182 l0 (l0.length : Int) x22_1 (rd_L2 l0 x22_1) ((rd_L2 l0 x22_1).length : Int) (wrap64 (x30_2 + 1))) else (none)) else (none)) = some r := by first | (rw [hji43] at H; exact H) | (simp only [hji43] at H ⊢; exact H)
                         (try rw [hji43] at A22)
                         (try rw [hji43] at A25)
                         have hji43_ : (if (rd (rd_L1 (rd_L2 l0 x22_1) x30_2) 1) < (rd (rd_L1 (rd_L2 l0 x22_1) x30_2) 0) then (rd (rd_L1 (rd_L2 l0 x22_1) x30_2) 1) else (rd (rd_L1 (rd_L2 l0 x22_1) x30_2) 0)) = ji43 := hji43
                         obtain ⟨ji44, hji44⟩ : ∃ j_ : Int, (mx (rd (rd_L1 (rd_L2 l0 x22_1) x30_2) 0) (rd (rd_L1 (rd_L2 l0 x22_1) x30_2) 1)) = j_ := ⟨_, rfl⟩
                         replace H : (if 0 ≤ (wrap64 ((wrap64 ((ji43) * a1)) + (ji44))) then (if (wrap64 ((wrap64 ((ji43) * a1)) + (ji44))) < (x5_2.length : Int) then (impl_MeetOnce.l1 k2 a1 (x5_2.set ((wrap64 ((wrap64 ((ji43) * a1)) + (ji44))) : Int).toNat (wrap64 ((rd x5_2 (wrap64 ((wrap64 ((ji43) * a1)) + (ji44)))) + 1))) y182 l0 (l0.length : Int) x22_1 (rd_L2 l0 x22_1) ((rd_L2 l0 x22_1).length : Int) (wrap64 (x30_2 + 1))) else (none)) else (none)) = some r := by first | (rw [hji44] at H; exact H) | (simp only [hji44] at H ⊢; exact H)
                         (try rw [hji44] at A22)
                         (try rw [hji44] at A25)
                         have hji44_ : (if (rd (rd_L1 (rd_L2 l0 x22_1) x30_2) 0) < (rd (rd_L1 (rd_L2 l0 x22_1) x30_2) 1) then (rd (rd_L1 (rd_L2 l0 x22_1) x30_2) 1) else (rd (rd_L1 (rd_L2 l0 x22_1) x30_2) 0)) = ji44 := hji44
                         obtain ⟨ji45, hji45⟩ : ∃ j_ : Int, (wrap64 ((wrap64 ((ji43) * a1)) + (ji44))) = j_ := ⟨_, rfl⟩
                         replace H : (if 0 ≤ (ji45) then (if (ji45) < (x5_2.length : Int) then (impl_MeetOnce.l1 k2 a1 (x5_2.set ((ji45) : Int).toNat (wrap64 ((rd x5_2 (ji45)) + 1))) y182 l0 (l0.length : Int) x22_1 (rd_L2 l0 x22_1) ((rd_L2 l0 x22_1).length : Int) (wrap64 (x30_2 + 1))) else (none)) else (none)) = some r := by first | (rw [hji45] at H; exact H) | (simp only [hji45] at H ⊢; exact H)
                         (try rw [hji45] at A22)
                         (try rw [hji45] at A25)
                         have hji45w : (IntKind.i64.wrap ((wrap64 ((ji43) * a1)) + (ji44))) = ji45 := (i64_w _).trans hji45
                         by_cases c46 : 0 ≤ (ji45)
                         ·
                          rw [if_pos c46] at H
                          have c46b0 : decide (0 ≤ (ji45)) = true := decide_eq_true c46
                          clear c46
                          by_cases c47 : (ji45) < (x5_2.length : Int)
                          ·
                           rw [if_pos c47] at H
                           have c47b0 : decide ((ji45) < (x5_2.length : Int)) = true := decide_eq_true c47
                           clear c47
                           obtain ⟨y188, hy188⟩ : ∃ y_ : List Int, y_ = (x5_2.set ((ji45) : Int).toNat (wrap64 ((rd x5_2 (ji45)) + 1))) := ⟨_, rfl⟩
                           replace H : (impl_MeetOnce.l1 k2 a1 y188 y182 l0 (l0.length : Int) x22_1 (rd_L2 l0 x22_1) ((rd_L2 l0 x22_1).length : Int) (wrap64 (x30_2 + 1))) = some r := by first | (rw [hy188]; with_reducible exact H) | (have H2_ := (Option.bind_some _ _).symm.trans H; rw [hy188]; with_reducible exact H2_) | (have H2_ := (Option.bind_some _ _).symm.trans H; with_reducible exact H2_) | with_reducible exact H | (rw [hy188]; exact H) | exact H
                           have Ny188 := εp hy188
                           clear hy188
                           have H' := εp H
                           clear H
                           have p168 : 0 ≤ (x30_2 : Int) := of_decide_eq_true (by first | (with_reducible assumption) | assumption)
                           have q168 : x30_2 < ((rd_L2 l0 x22_1).length : Int) := of_decide_eq_true (by first | (with_reducible assumption) | assumption)
                           obtain ⟨ad168, A168_0, c168_0, e168, hx168_0, hl168_0, hi168_0⟩ := at_L1 HR164_0.out x30_2 p168 q168
                           cases e168
                           (try (replace hx168_0 := (HB.out.cell (World.block_lt_of_cell? w _ hx168_0)).trans hx168_0))
                           have HR168_0 := εp hi168_0
                           have HC168_0 := εp hl168_0
                           clear hi168_0 hl168_0
                           replace p168 := eq_true p168
                           replace q168 := eq_true q168
                           try go_wp2
                           have n0_ := εp (εf HO_5.out)
                           have n1_ := εp (εf HO_8.out)
                           have n2_ := εp (εi HB.out)
                           clear HO_5
                           clear HO_8
                           clear HB
                           have HO_5 := n0_
                           have HO_8 := n1_
                           have HB := n2_
                           clear n0_ n1_ n2_
                           have p169 : 0 ≤ (0 : Int) := (by omega)
                           have q169 : 0 < ((rd_L1 (rd_L2 l0 x22_1) x30_2).length : Int) := of_decide_eq_true (by first | (with_reducible assumption) | assumption)
                           obtain ⟨ad169, e169, hx169_0⟩ := Kd.at_int HR168_0.out 0 p169 q169
                           have hw169_0 := hx169_0
                           (try rw [show ((0 : Int)).toNat = 0 from rfl] at hw169_0)
                           (try rw [show 0 * 1 = 0 from rfl] at hw169_0)
                           (try rw [Addr.add_zero'] at hw169_0)
                           cases e169
                           have qi169 : (0 < (rd_L1 (rd_L2 l0 x22_1) x30_2).length) = True := eq_true (by omega)
                           (try rw [show ((0 : Int)).toNat = 0 from rfl] at hx169_0)
                           (try rw [Addr.add_zero'] at hx169_0)
                           (try (replace hx169_0 := (HB.out.cell (World.block_lt_of_cell? w _ hx169_0)).trans hx169_0))
                           replace p169 := eq_true p169
                           replace q169 := eq_true q169
                           have p171 : 0 ≤ (1 : Int) := (by omega)
                           have q171 : 1 < ((rd_L1 (rd_L2 l0 x22_1) x30_2).length : Int) := of_decide_eq_true (by first | (with_reducible assumption) | assumption)
                           obtain ⟨ad171, e171, hx171_0⟩ := Kd.at_int HR168_0.out 1 p171 q171
                           have hw171_0 := hx171_0
                           (try rw [show ((1 : Int)).toNat = 1 from rfl] at hw171_0)
                           (try rw [show 1 * 1 = 1 from rfl] at hw171_0)
                           (try simp only [Nat.reduceMul, Nat.reduceEqDiff, Go.Addr.add, ↓reduceIte] at hw171_0)
                           obtain rfl : ad169 = ad171 := (by injection e171)
                           (try simp only [show (1 : Int).toNat = 1 from rfl, Nat.reduceMul, Nat.reduceEqDiff, Go.Addr.add, ↓reduceIte] at hx171_0)
                           have qi171 : (1 < (rd_L1 (rd_L2 l0 x22_1) x30_2).length) = True := eq_true (by omega)
                           (try rw [show ((1 : Int)).toNat = 1 from rfl] at hx171_0)
                           (try (replace hx171_0 := (HB.out.cell (World.block_lt_of_cell? w _ hx171_0)).trans hx171_0))
                           replace p171 := eq_true p171
                           replace q171 := eq_true q171
                           have p173 : 0 ≤ (0 : Int) := (by omega)
                           have q173 : 0 < ((rd_L1 (rd_L2 l0 x22_1) x30_2).length : Int) := of_decide_eq_true (by first | (with_reducible assumption) | assumption)
                           obtain ⟨ad173, e173, hx173_0⟩ := Kd.at_int HR168_0.out 0 p173 q173
                           have hw173_0 := hx173_0
                           (try rw [show ((0 : Int)).toNat = 0 from rfl] at hw173_0)
                           (try rw [show 0 * 1 = 0 from rfl] at hw173_0)
                           (try rw [Addr.add_zero'] at hw173_0)
                           obtain rfl : ad169 = ad173 := (by injection e173)
                           have qi173 : (0 < (rd_L1 (rd_L2 l0 x22_1) x30_2).length) = True := eq_true (by omega)
                           (try rw [show ((0 : Int)).toNat = 0 from rfl] at hx173_0)
                           (try rw [Addr.add_zero'] at hx173_0)
                           (try (replace hx173_0 := (HB.out.cell (World.block_lt_of_cell? w _ hx173_0)).trans hx173_0))
                           replace p173 := eq_true p173
                           replace q173 := eq_true q173
                           have p174 : 0 ≤ (1 : Int) := (by omega)
                           have q174 : 1 < ((rd_L1 (rd_L2 l0 x22_1) x30_2).length : Int) := of_decide_eq_true (by first | (with_reducible assumption) | assumption)
                           obtain ⟨ad174, e174, hx174_0⟩ := Kd.at_int HR168_0.out 1 p174 q174
                           have hw174_0 := hx174_0
                           (try rw [show ((1 : Int)).toNat = 1 from rfl] at hw174_0)
                           (try rw [show 1 * 1 = 1 from rfl] at hw174_0)
                           (try simp only [Nat.reduceMul, Nat.reduceEqDiff, Go.Addr.add, ↓reduceIte] at hw174_0)
                           obtain rfl : ad169 = ad174 := (by injection e174)
                           (try simp only [show (1 : Int).toNat = 1 from rfl, Nat.reduceMul, Nat.reduceEqDiff, Go.Addr.add, ↓reduceIte] at hx174_0)
                           have qi174 : (1 < (rd_L1 (rd_L2 l0 x22_1) x30_2).length) = True := eq_true (by omega)
                           (try rw [show ((1 : Int)).toNat = 1 from rfl] at hx174_0)
                           (try (replace hx174_0 := (HB.out.cell (World.block_lt_of_cell? w _ hx174_0)).trans hx174_0))
                           replace p174 := eq_true p174
                           replace q174 := eq_true q174
                           have p175 : 0 ≤ (0 : Int) := (by omega)
                           have q175 : 0 < ((rd_L1 (rd_L2 l0 x22_1) x30_2).length : Int) := of_decide_eq_true (by first | (with_reducible assumption) | assumption)
                           obtain ⟨ad175, e175, hx175_0⟩ := Kd.at_int HR168_0.out 0 p175 q175
                           have hw175_0 := hx175_0
                           (try rw [show ((0 : Int)).toNat = 0 from rfl] at hw175_0)
                           (try rw [show 0 * 1 = 0 from rfl] at hw175_0)
                           (try rw [Addr.add_zero'] at hw175_0)
                           obtain rfl : ad169 = ad175 := (by injection e175)
                           have qi175 : (0 < (rd_L1 (rd_L2 l0 x22_1) x30_2).length) = True := eq_true (by omega)
                           (try rw [show ((0 : Int)).toNat = 0 from rfl] at hx175_0)
                           (try rw [Addr.add_zero'] at hx175_0)
                           (try (replace hx175_0 := (HB.out.cell (World.block_lt_of_cell? w _ hx175_0)).trans hx175_0))
                           replace p175 := eq_true p175
                           replace q175 := eq_true q175
                           (try (obtain ⟨ao_, co_, eo_⟩ := Kd.R_slice HO_8.out; subst eo_))
                           have p176 : 0 ≤ ((rd (rd_L1 (rd_L2 l0 x22_1) x30_2) 0) : Int) := of_decide_eq_true (by first | (with_reducible assumption) | assumption)
                           have q176 : (rd (rd_L1 (rd_L2 l0 x22_1) x30_2) 0) < (x8_2.length : Int) := of_decide_eq_true (by first | (with_reducible assumption) | assumption)
                           obtain ⟨ad176, e176, hx176_0⟩ := Kd.at_bool (Kd.R_reads' HO_8.out).2.2 (rd (rd_L1 (rd_L2 l0 x22_1) x30_2) 0) p176 q176
                           (try rw [← Nbq31.out] at hx176_0)
                           (try rw [← Nbq37.out] at hx176_0)
                           cases e176
                           replace p176 := eq_true p176
                           replace q176 := eq_true q176
                           have p177 : 0 ≤ (1 : Int) := (by omega)
                           have q177 : 1 < ((rd_L1 (rd_L2 l0 x22_1) x30_2).length : Int) := of_decide_eq_true (by first | (with_reducible assumption) | assumption)
                           obtain ⟨ad177, e177, hx177_0⟩ := Kd.at_int HR168_0.out 1 p177 q177
                           have hw177_0 := hx177_0
                           (try rw [show ((1 : Int)).toNat = 1 from rfl] at hw177_0)
                           (try rw [show 1 * 1 = 1 from rfl] at hw177_0)
                           (try simp only [Nat.reduceMul, Nat.reduceEqDiff, Go.Addr.add, ↓reduceIte] at hw177_0)
                           obtain rfl : ad169 = ad177 := (by injection e177)
                           (try simp only [show (1 : Int).toNat = 1 from rfl, Nat.reduceMul, Nat.reduceEqDiff, Go.Addr.add, ↓reduceIte] at hx177_0)
                           have qi177 : (1 < (rd_L1 (rd_L2 l0 x22_1) x30_2).length) = True := eq_true (by omega)
                           (try rw [show ((1 : Int)).toNat = 1 from rfl] at hx177_0)
                           (try (replace hx177_0 := (HB.out.cell (World.block_lt_of_cell? w _ hx177_0)).trans hx177_0))
                           replace p177 := eq_true p177
                           replace q177 := eq_true q177
                           (try (obtain ⟨ao_, co_, eo_⟩ := Kd.R_slice HO_8.out; subst eo_))
                           have p178 : 0 ≤ ((rd (rd_L1 (rd_L2 l0 x22_1) x30_2) 1) : Int) := of_decide_eq_true (by first | (with_reducible assumption) | assumption)
                           have q178 : (rd (rd_L1 (rd_L2 l0 x22_1) x30_2) 1) < (x8_2.length : Int) := of_decide_eq_true (by first | (with_reducible assumption) | assumption)
                           obtain ⟨ad178, e178, hx178_0⟩ := Kd.at_bool (Kd.R_reads' HO_8.out).2.2 (rd (rd_L1 (rd_L2 l0 x22_1) x30_2) 1) p178 q178
                           (try rw [← Nbq31.out] at hx178_0)
                           (try rw [← Nbq37.out] at hx178_0)
                           obtain rfl : ad176 = ad178 := (by injection e178)
                           replace p178 := eq_true p178
                           replace q178 := eq_true q178
                           refine start_ (n := 46) (S := fun w' => w'.cell? ad169 = some (.int .i64 (rd (rd_L1 (rd_L2 l0 x22_1) x30_2) 0)) ∧ w'.cell? ⟨ad169.block, ad169.off + 1, none⟩ = some (.int .i64 (rd (rd_L1 (rd_L2 l0 x22_1) x30_2) 1)) ∧ w'.cell? ad169 = some (.int .i64 (rd (rd_L1 (rd_L2 l0 x22_1) x30_2) 0)) ∧ w'.cell? ⟨ad169.block, ad169.off + 1, none⟩ = some (.int .i64 (rd (rd_L1 (rd_L2 l0 x22_1) x30_2) 1)) ∧ w'.cell? ad169 = some (.int .i64 (rd (rd_L1 (rd_L2 l0 x22_1) x30_2) 0)) ∧ w'.cell? (ad176.add ((rd (rd_L1 (rd_L2 l0 x22_1) x30_2) 0)).toNat) = some (.bool false) ∧ w'.cell? ⟨ad169.block, ad169.off + 1, none⟩ = some (.int .i64 (rd (rd_L1 (rd_L2 l0 x22_1) x30_2) 1)) ∧ w'.cell? (ad176.add ((rd (rd_L1 (rd_L2 l0 x22_1) x30_2) 1)).toNat) = some (.bool false)) (ds := []) ε0 (by kernel_rfl) rfl rfl ⟨((HB.out.cell (World.block_lt_of_cell? w _ hw169_0)).trans hw169_0), ((HB.out.cell (World.block_lt_of_cell? w _ hw171_0)).trans hw171_0), ((HB.out.cell (World.block_lt_of_cell? w _ hw173_0)).trans hw173_0), ((HB.out.cell (World.block_lt_of_cell? w _ hw174_0)).trans hw174_0), ((HB.out.cell (World.block_lt_of_cell? w _ hw175_0)).trans hw175_0), hx176_0, ((HB.out.cell (World.block_lt_of_cell? w _ hw177_0)).trans hw177_0), hx178_0⟩ (fun hHeld => ?_); refine with_tabW impl_MeetOnce.tab11 impl_MeetOnce.bits11 (fun HT_ HW_ => ?_)
                           generalize wr.drew = w49 at HO_5 HO_8 HB hx169_0 hx171_0 hx173_0 hx174_0 hx175_0 hx176_0 hx177_0 hx178_0 hHeld ⊢
                           refine pure_ (i := 0) (N := some 34) (v := ?_) (a' := ?_) ε1 rfl rfl (any_of HT_.out (by kernel_rfl)) (fun _ _ _ h => h) (Or.inl ⟨by rfl, ?_⟩) ?_ ?_
                           rotate_left; · (intro w'; go_simp; with_reducible rfl)
                           rotate_left; · (simp only [Act.put, εm, εn, εo, i64_w, i32_w]; rfl)
                           refine pure_ (i := 1) (N := some 35) (v := ?_) (a' := ?_) ε2 rfl rfl (any_of HT_.out (by kernel_rfl)) (fun _ _ _ h => h) (Or.inl ⟨by rfl, ?_⟩) ?_ ?_
                           rotate_left; · (intro w'; go_simp; with_reducible rfl)
                           rotate_left; · (simp only [Act.put, εm, εn, εo, i64_w, i32_w]; rfl)
                           refine pure_ (i := 2) (N := some 36) (v := ?_) (a' := ?_) ε3 rfl rfl (any_of HT_.out (by kernel_rfl)) (fun _ _ _ h => h) (Or.inl ⟨by rfl, ?_⟩) ?_ ?_
                           rotate_left; · (intro w'; go_simp; with_reducible rfl)
                           rotate_left; · (simp only [Act.put, εm, εn, εo, i64_w, i32_w]; rfl)
                           refine pure_ (i := 3) (N := some 37) (v := ?_) (a' := ?_) ε4 rfl rfl (any_of HT_.out (by kernel_rfl)) (fun _ _ _ h => h) (Or.inl ⟨by rfl, ?_⟩) ?_ ?_
                           rotate_left; · (intro w'; go_simp; with_reducible rfl)
                           rotate_left; · (simp only [Act.put, εm, εn, εo, i64_w, i32_w]; rfl)
                           refine pure_ (i := 4) (N := some 38) (v := ?_) (a' := ?_) ε5 rfl rfl (any_of HT_.out (by kernel_rfl)) (fun _ _ _ h => h) (Or.inl ⟨by rfl, ?_⟩) ?_ ?_
                           rotate_left; · (intro w'; go_simp; with_reducible rfl)
                           rotate_left; · (simp only [Act.put, εm, εn, εo, i64_w, i32_w]; rfl)
                           refine pure_ (i := 5) (N := some 39) (v := ?_) (a' := ?_) ε6 rfl rfl (any_of HT_.out (by kernel_rfl)) (fun _ _ _ h => h) (Or.inl ⟨by rfl, ?_⟩) ?_ ?_
                           rotate_left; · (intro w'; go_simp; with_reducible rfl)
                           rotate_left; · (simp only [Act.put, εm, εn, εo, i64_w, i32_w]; rfl)
                           refine pure_ (i := 7) (N := some 41) (v := ?_) (a' := ?_) ε7 rfl rfl (any_of HT_.out (by kernel_rfl)) (fun _ _ _ h => h) (Or.inl ⟨by rfl, ?_⟩) ?_ ?_
                           rotate_left; · (intro w'; go_simp; with_reducible rfl)
                           rotate_left; · (simp only [Act.put, εm, εn, εo, i64_w, i32_w]; rfl)
                           refine pure_ (i := 8) (N := some 42) (v := ?_) (a' := ?_) ε8 rfl rfl (any_of HT_.out (by kernel_rfl)) (fun _ _ _ h => h) (Or.inl ⟨by rfl, ?_⟩) ?_ ?_
                           rotate_left; · (intro w'; go_simp; with_reducible rfl)
                           rotate_left; · (simp only [Act.put, εm, εn, εo, i64_w, i32_w]; rfl)
                           refine take_ (i := 6) (N := some 40) (v := ?_) (a' := ?_) ε9 rfl rfl (take_ofW HT_.out HW_.out (by kernel_rfl)) (fun _ _ _ h => h) (Or.inl ⟨by rfl, ?_⟩) hHeld ?_ ?_
                           rotate_left
                           ·
                            rintro w' ⟨s0, s1, s2, s3, s4, s5, s6, s7⟩
                            go_simp
                            with_reducible rfl
                           rotate_left
                           ·
                            simp only [Act.put, εm, εn, εo, i64_w, i32_w]
                            rfl
                           refine one_ (i := 9) (N := some 43) ε10 rfl rfl (one_of HT_.out (by kernel_rfl)) (by decide) (fun K hK => ?_)
                           refine goes_ Try.func64 (by kernel_rfl) rfl #[.int .i64 (rd (rd_L1 (rd_L2 l0 x22_1) x30_2) 0), .int .i64 0, .int .i64 (wrap64 (a1 - 1))] (by rfl) rfl rfl (by (try simp only [List.map_toArray, List.map_cons, List.map_nil]); first | done | rfl | (simp only [List.length_drop, List.length_take]; rfl)) ?_
                           with_reducible refine (impl_InRange.calls (rd (rd_L1 (rd_L2 l0 x22_1) x30_2) 0) 0 (wrap64 (a1 - 1)) true _ A22.out).mono ?_
                           rintro e w' ⟨rfl, ⟨nd, rfl⟩⟩
                           refine ⟨_, rfl, ?_⟩
                           refine hK.out _ _ ⟨((HB.out.cell (World.block_lt_of_cell? w _ hw169_0)).trans hw169_0), ((HB.out.cell (World.block_lt_of_cell? w _ hw171_0)).trans hw171_0), ((HB.out.cell (World.block_lt_of_cell? w _ hw173_0)).trans hw173_0), ((HB.out.cell (World.block_lt_of_cell? w _ hw174_0)).trans hw174_0), ((HB.out.cell (World.block_lt_of_cell? w _ hw175_0)).trans hw175_0), hHeld.2.2.2.2.2.1, ((HB.out.cell (World.block_lt_of_cell? w _ hw177_0)).trans hw177_0), hHeld.2.2.2.2.2.2.2⟩ (fun hHeld => ?_)
                           clear hK K
                           refine norm_ (a' := ?_) ?_ ?_
                           rotate_left
                           ·
                            show Act.put _ (some 43) _ = _
                            simp only [Act.put, εm, εn, εo, i64_w, i32_w]
                            rfl
                           refine pure_ (i := 10) (N := some 44) (v := ?_) (a' := ?_) ε11 rfl rfl (any_of HT_.out (by kernel_rfl)) (fun _ _ _ h => h) (Or.inl ⟨by rfl, ?_⟩) ?_ ?_
                           rotate_left; · (intro w'; go_simp; with_reducible rfl)
                           rotate_left; · (simp only [Act.put, εm, εn, εo, i64_w, i32_w]; rfl)
                           refine pure_ (i := 11) (N := some 45) (v := ?_) (a' := ?_) ε12 rfl rfl (any_of HT_.out (by kernel_rfl)) (fun _ _ _ h => h) (Or.inl ⟨by rfl, ?_⟩) ?_ ?_
                           rotate_left; · (intro w'; go_simp; with_reducible rfl)
                           rotate_left; · (simp only [Act.put, εm, εn, εo, i64_w, i32_w]; rfl)
                           refine pure_ (i := 12) (N := some 46) (v := ?_) (a' := ?_) ε13 rfl rfl (any_of HT_.out (by kernel_rfl)) (fun _ _ _ h => h) (Or.inl ⟨by rfl, ?_⟩) ?_ ?_
                           rotate_left; · (intro w'; go_simp; with_reducible rfl)
                           rotate_left; · (simp only [Act.put, εm, εn, εo, i64_w, i32_w]; rfl)
                           refine pure_ (i := 13) (N := some 47) (v := ?_) (a' := ?_) ε14 rfl rfl (any_of HT_.out (by kernel_rfl)) (fun _ _ _ h => h) (Or.inl ⟨by rfl, ?_⟩) ?_ ?_
                           rotate_left; · (intro w'; go_simp; with_reducible rfl)
                           rotate_left; · (simp only [Act.put, εm, εn, εo, i64_w, i32_w]; rfl)
                           refine pure_ (i := 14) (N := some 48) (v := ?_) (a' := ?_) ε15 rfl rfl (any_of HT_.out (by kernel_rfl)) (fun _ _ _ h => h) (Or.inl ⟨by rfl, ?_⟩) ?_ ?_
                           rotate_left; · (intro w'; go_simp; with_reducible rfl)
                           rotate_left; · (simp only [Act.put, εm, εn, εo, i64_w, i32_w]; rfl)
                           refine pure_ (i := 16) (N := some 50) (v := ?_) (a' := ?_) ε16 rfl rfl (any_of HT_.out (by kernel_rfl)) (fun _ _ _ h => h) (Or.inl ⟨by rfl, ?_⟩) ?_ ?_
                           rotate_left; · (intro w'; go_simp; with_reducible rfl)
                           rotate_left; · (simp only [Act.put, εm, εn, εo, i64_w, i32_w]; rfl)
                           refine pure_ (i := 17) (N := some 51) (v := ?_) (a' := ?_) ε17 rfl rfl (any_of HT_.out (by kernel_rfl)) (fun _ _ _ h => h) (Or.inl ⟨by rfl, ?_⟩) ?_ ?_
                           rotate_left; · (intro w'; go_simp; with_reducible rfl)
                           rotate_left; · (simp only [Act.put, εm, εn, εo, i64_w, i32_w]; rfl)
                           refine take_ (i := 15) (N := some 49) (v := ?_) (a' := ?_) ε18 rfl rfl (take_ofW HT_.out HW_.out (by kernel_rfl)) (fun _ _ _ h => h) (Or.inl ⟨by rfl, ?_⟩) hHeld ?_ ?_
                           rotate_left
                           ·
                            rintro w' ⟨s0, s1, s2, s3, s4, s5, s6, s7⟩
                            go_simp
                            with_reducible rfl
                           rotate_left
                           ·
                            simp only [Act.put, εm, εn, εo, i64_w, i32_w]
                            rfl
                           refine one_ (i := 18) (N := some 52) ε19 rfl rfl (one_of HT_.out (by kernel_rfl)) (by decide) (fun K hK => ?_)
                           refine goes_ Try.func64 (by kernel_rfl) rfl #[.int .i64 (rd (rd_L1 (rd_L2 l0 x22_1) x30_2) 1), .int .i64 0, .int .i64 (wrap64 (a1 - 1))] (by rfl) rfl rfl (by (try simp only [List.map_toArray, List.map_cons, List.map_nil]); first | done | rfl | (simp only [List.length_drop, List.length_take]; rfl)) ?_
                           with_reducible refine (impl_InRange.calls (rd (rd_L1 (rd_L2 l0 x22_1) x30_2) 1) 0 (wrap64 (a1 - 1)) true _ A25.out).mono ?_
                           rintro e w' ⟨rfl, ⟨nd, rfl⟩⟩
                           refine ⟨_, rfl, ?_⟩
                           obtain ⟨Ao50, co50, eo50⟩ := Kd.R_slice HO_8.out
                           (first | subst eo50 | (injection eo50 with f1_ f2_ f3_; have f4_ := f1_.symm; have f5_ := f3_.symm; clear f1_ f2_ f3_; subst f4_; subst f5_))
                           refine hK.out _ _ ⟨((HB.out.cell (World.block_lt_of_cell? w _ hw169_0)).trans hw169_0), ((HB.out.cell (World.block_lt_of_cell? w _ hw171_0)).trans hw171_0), ((HB.out.cell (World.block_lt_of_cell? w _ hw173_0)).trans hw173_0), ((HB.out.cell (World.block_lt_of_cell? w _ hw174_0)).trans hw174_0), ((HB.out.cell (World.block_lt_of_cell? w _ hw175_0)).trans hw175_0), hHeld.2.2.2.2.2.1, ((HB.out.cell (World.block_lt_of_cell? w _ hw177_0)).trans hw177_0), hHeld.2.2.2.2.2.2.2⟩ (fun hHeld => ?_)
                           clear hK K
                           refine norm_ (a' := ?_) ?_ ?_
                           rotate_left
                           ·
                            show Act.put _ (some 52) _ = _
                            simp only [Act.put, εm, εn, εo, i64_w, i32_w]
                            rfl
                           refine pure_ (i := 19) (N := some 53) (v := ?_) (a' := ?_) ε20 rfl rfl (any_of HT_.out (by kernel_rfl)) (fun _ _ _ h => h) (Or.inl ⟨by rfl, ?_⟩) ?_ ?_
                           rotate_left; · (intro w'; go_simp; with_reducible rfl)
                           rotate_left; · (simp only [Act.put, εm, εn, εo, i64_w, i32_w]; rfl)
                           refine pure_ (i := 20) (N := some 54) (v := ?_) (a' := ?_) ε21 rfl rfl (any_of HT_.out (by kernel_rfl)) (fun _ _ _ h => h) (Or.inl ⟨by rfl, ?_⟩) ?_ ?_
                           rotate_left; · (intro w'; go_simp; with_reducible rfl)
                           rotate_left; · (simp only [Act.put, εm, εn, εo, i64_w, i32_w]; rfl)
                           refine pure_ (i := 21) (N := some 55) (v := ?_) (a' := ?_) ε22 rfl rfl (any_of HT_.out (by kernel_rfl)) (fun _ _ _ h => h) (Or.inl ⟨by rfl, ?_⟩) ?_ ?_
                           rotate_left; · (intro w'; go_simp; with_reducible rfl)
                           rotate_left; · (simp only [Act.put, εm, εn, εo, i64_w, i32_w]; rfl)
                           refine pure_ (i := 22) (N := some 56) (v := ?_) (a' := ?_) ε23 rfl rfl (any_of HT_.out (by kernel_rfl)) (fun _ _ _ h => h) (Or.inl ⟨by rfl, ?_⟩) ?_ ?_
                           rotate_left; · (intro w'; go_simp; with_reducible rfl)
                           rotate_left; · (simp only [Act.put, εm, εn, εo, i64_w, i32_w]; rfl)
                           refine pure_ (i := 23) (N := some 57) (v := ?_) (a' := ?_) ε24 rfl rfl (any_of HT_.out (by kernel_rfl)) (fun _ _ _ h => h) (Or.inl ⟨by rfl, ?_⟩) ?_ ?_
                           rotate_left; · (intro w'; go_simp; with_reducible rfl)
                           rotate_left; · (simp only [Act.put, εm, εn, εo, i64_w, i32_w]; rfl)
                           refine pure_ (i := 25) (N := some 59) (v := ?_) (a' := ?_) ε25 rfl rfl (any_of HT_.out (by kernel_rfl)) (fun _ _ _ h => h) (Or.inl ⟨by rfl, ?_⟩) ?_ ?_
                           rotate_left; · (intro w'; go_simp; with_reducible rfl)
                           rotate_left; · (simp only [Act.put, εm, εn, εo, i64_w, i32_w]; rfl)
                           refine pure_ (i := 26) (N := some 60) (v := ?_) (a' := ?_) ε26 rfl rfl (any_of HT_.out (by kernel_rfl)) (fun _ _ _ h => h) (Or.inl ⟨by rfl, ?_⟩) ?_ ?_
                           rotate_left; · (intro w'; go_simp; with_reducible rfl)
                           rotate_left; · (simp only [Act.put, εm, εn, εo, i64_w, i32_w]; rfl)
                           refine take_ (i := 24) (N := some 58) (v := ?_) (a' := ?_) ε27 rfl rfl (take_ofW HT_.out HW_.out (by kernel_rfl)) (fun _ _ _ h => h) (Or.inl ⟨by rfl, ?_⟩) hHeld ?_ ?_
                           rotate_left
                           ·
                            rintro w' ⟨s0, s1, s2, s3, s4, s5, s6, s7⟩
                            go_simp
                            with_reducible rfl
                           rotate_left
                           ·
                            simp only [Act.put, εm, εn, εo, i64_w, i32_w]
                            rfl
                           refine take_ (i := 27) (N := some 61) (v := ?_) (a' := ?_) ε28 rfl rfl (take_ofW HT_.out HW_.out (by kernel_rfl)) (fun _ _ _ h => h) (Or.inl ⟨by rfl, ?_⟩) hHeld ?_ ?_
                           rotate_left
                           ·
                            rintro w' ⟨s0, s1, s2, s3, s4, s5, s6, s7⟩
                            go_simp
                            with_reducible rfl
                           rotate_left
                           ·
                            simp only [Act.put, εm, εn, εo, i64_w, i32_w]
                            rfl
                           refine pure_ (i := 28) (N := some 62) (v := ?_) (a' := ?_) ε29 rfl rfl (any_of HT_.out (by kernel_rfl)) (fun _ _ _ h => h) (Or.inl ⟨by rfl, ?_⟩) ?_ ?_
                           rotate_left; · (intro w'; go_simp; with_reducible rfl)
                           rotate_left; · (simp only [Act.put, εm, εn, εo, i64_w, i32_w]; rfl)
                           refine pure_ (i := 29) (N := some 63) (v := ?_) (a' := ?_) ε30 rfl rfl (any_of HT_.out (by kernel_rfl)) (fun _ _ _ h => h) (Or.inl ⟨by rfl, ?_⟩) ?_ ?_
                           rotate_left; · (intro w'; go_simp; with_reducible rfl)
                           rotate_left; · (simp only [Act.put, εm, εn, εo, i64_w, i32_w]; rfl)
                           refine pure_ (i := 30) (N := some 64) (v := ?_) (a' := ?_) ε31 rfl rfl (any_of HT_.out (by kernel_rfl)) (fun _ _ _ h => h) (Or.inl ⟨by rfl, ?_⟩) ?_ ?_
                           rotate_left; · (intro w'; go_simp; with_reducible rfl)
                           rotate_left; · (simp only [Act.put, εm, εn, εo, i64_w, i32_w]; rfl)
                           refine pure_ (i := 31) (N := some 65) (v := ?_) (a' := ?_) ε32 rfl rfl (any_of HT_.out (by kernel_rfl)) (fun _ _ _ h => h) (Or.inl ⟨by rfl, ?_⟩) ?_ ?_
                           rotate_left; · (intro w'; go_simp; with_reducible rfl)
                           rotate_left; · (simp only [Act.put, εm, εn, εo, i64_w, i32_w]; rfl)
                           refine pure_ (i := 32) (N := some 66) (v := ?_) (a' := ?_) ε33 rfl rfl (any_of HT_.out (by kernel_rfl)) (fun _ _ _ h => h) (Or.inl ⟨by rfl, ?_⟩) ?_ ?_
                           rotate_left; · (intro w'; go_simp; with_reducible rfl)
                           rotate_left; · (simp only [Act.put, εm, εn, εo, i64_w, i32_w]; rfl)
                           refine pure_ (i := 33) (N := some 67) (v := ?_) (a' := ?_) ε34 rfl rfl (any_of HT_.out (by kernel_rfl)) (fun _ _ _ h => h) (Or.inl ⟨by rfl, ?_⟩) ?_ ?_
                           rotate_left; · (intro w'; go_simp; with_reducible rfl)
                           rotate_left; · (simp only [Act.put, εm, εn, εo, i64_w, i32_w]; rfl)
                           refine take_ (i := 34) (N := some 68) (v := ?_) (a' := ?_) ε35 rfl rfl (take_ofW HT_.out HW_.out (by kernel_rfl)) (fun _ _ _ h => h) (Or.inl ⟨by rfl, ?_⟩) hHeld ?_ ?_
                           rotate_left
                           ·
                            rintro w' ⟨s0, s1, s2, s3, s4, s5, s6, s7⟩
                            go_simp
                            with_reducible rfl
                           rotate_left
                           ·
                            simp only [Act.put, εm, εn, εo, i64_w, i32_w]
                            rfl
                           refine pure_ (i := 35) (N := some 69) (v := ?_) (a' := ?_) ε36 rfl rfl (any_of HT_.out (by kernel_rfl)) (fun _ _ _ h => h) (Or.inl ⟨by rfl, ?_⟩) ?_ ?_
                           rotate_left; · (intro w'; go_simp; with_reducible rfl)
                           rotate_left; · (simp only [Act.put, εm, εn, εo, i64_w, i32_w]; rfl)
                           refine take_ (i := 36) (N := some 70) (v := ?_) (a' := ?_) ε37 rfl rfl (take_ofW HT_.out HW_.out (by kernel_rfl)) (fun _ _ _ h => h) (Or.inl ⟨by rfl, ?_⟩) hHeld ?_ ?_
                           rotate_left
                           ·
                            rintro w' ⟨s0, s1, s2, s3, s4, s5, s6, s7⟩
                            go_simp
                            with_reducible rfl
                           rotate_left
                           ·
                            simp only [Act.put, εm, εn, εo, i64_w, i32_w]
                            rfl
                           refine pure_ (i := 37) (N := some 71) (v := ?_) (a' := ?_) ε38 rfl rfl (any_of HT_.out (by kernel_rfl)) (fun _ _ _ h => h) (Or.inl ⟨by rfl, ?_⟩) ?_ ?_
                           rotate_left; · (intro w'; go_simp; with_reducible rfl)
                           rotate_left; · (simp only [Act.put, εm, εn, εo, i64_w, i32_w]; rfl)
                           refine pure_ (i := 38) (N := some 72) (v := ?_) (a' := ?_) ε39 rfl rfl (any_of HT_.out (by kernel_rfl)) (fun _ _ _ h => h) (Or.inl ⟨by rfl, ?_⟩) ?_ ?_
                           rotate_left; · (intro w'; go_simp; with_reducible rfl)
                           rotate_left; · (simp only [Act.put, εm, εn, εo, i64_w, i32_w]; rfl)
                           refine pure_ (i := 39) (N := some 73) (v := ?_) (a' := ?_) ε40 rfl rfl (any_of HT_.out (by kernel_rfl)) (fun _ _ _ h => h) (Or.inl ⟨by rfl, ?_⟩) ?_ ?_
                           rotate_left; · (intro w'; go_simp; with_reducible rfl)
                           rotate_left; · (simp only [Act.put, εm, εn, εo, i64_w, i32_w]; rfl)
                           refine pure_ (i := 40) (N := some 74) (v := ?_) (a' := ?_) ε41 rfl rfl (any_of HT_.out (by kernel_rfl)) (fun _ _ _ h => h) (Or.inl ⟨by rfl, ?_⟩) ?_ ?_
                           rotate_left; · (intro w'; go_simp; with_reducible rfl)
                           rotate_left; · (simp only [Act.put, εm, εn, εo, i64_w, i32_w]; rfl)
                           refine pure_ (i := 41) (N := some 75) (v := ?_) (a' := ?_) ε42 rfl rfl (any_of HT_.out (by kernel_rfl)) (fun _ _ _ h => h) (Or.inl ⟨by rfl, ?_⟩) ?_ ?_
                           rotate_left; · (intro w'; go_simp; with_reducible rfl)
                           rotate_left; · (simp only [Act.put, εm, εn, εo, i64_w, i32_w]; rfl)
                           refine take_ (i := 42) (N := some 76) (v := ?_) (a' := ?_) ε43 rfl rfl (take_ofW HT_.out HW_.out (by kernel_rfl)) (fun _ _ _ h => h) (Or.inl ⟨by rfl, ?_⟩) hHeld ?_ ?_
                           rotate_left
                           ·
                            rintro w' ⟨s0, s1, s2, s3, s4, s5, s6, s7⟩
                            go_simp
                            with_reducible rfl
                           rotate_left
                           ·
                            simp only [Act.put, εm, εn, εo, i64_w, i32_w]
                            rfl
                           refine pure_ (i := 43) (N := some 77) (v := ?_) (a' := ?_) ε44 rfl rfl (any_of HT_.out (by kernel_rfl)) (fun _ _ _ h => h) (Or.inl ⟨by rfl, ?_⟩) ?_ ?_
                           rotate_left; · (intro w'; go_simp; with_reducible rfl)
                           rotate_left; · (simp only [Act.put, εm, εn, εo, i64_w, i32_w]; rfl)
                           refine take_ (i := 44) (N := some 78) (v := ?_) (a' := ?_) ε45 rfl rfl (take_ofW HT_.out HW_.out (by kernel_rfl)) (fun _ _ _ h => h) (Or.inl ⟨by rfl, ?_⟩) hHeld ?_ ?_
                           rotate_left
                           ·
                            rintro w' ⟨s0, s1, s2, s3, s4, s5, s6, s7⟩
                            go_simp
                            with_reducible rfl
                           rotate_left
                           ·
                            simp only [Act.put, εm, εn, εo, i64_w, i32_w]
                            rfl
                           refine pure_ (i := 45) (N := some 79) (v := ?_) (a' := ?_) ε46 rfl rfl (any_of HT_.out (by kernel_rfl)) (fun _ _ _ h => h) (Or.inl ⟨by rfl, ?_⟩) ?_ ?_
                           rotate_left; · (intro w'; go_simp; with_reducible rfl)
                           rotate_left; · (simp only [Act.put, εm, εn, εo, i64_w, i32_w]; rfl)
                           refine done_ (done_of HT_.out (by kernel_rfl)) ?_
                           try go_wp2
                           (try (rw [drewN_self w49]; generalize hq_ : World.drewN w49 _ = w49; have n0_ : Aside0 (Kd.R (Kd.int .i64) 3 w49 w.heap.size (fun _ => True) v162 x5_2) := ⟨by rw [← hq_]; exact (by (with_reducible repeat (first | apply Kd.R_alloc | apply Kd.R_drewN | apply εf)); exact HO_5.out)⟩; have n1_ : Aside0 (Kd.R Kd.bool 4 w49 w.heap.size (fun _ => True) (.slice (some ad176) x8_2.length co50) x8_2) := ⟨by rw [← hq_]; exact (by (with_reducible repeat (first | apply Kd.R_alloc | apply Kd.R_drewN | apply εf)); exact HO_8.out)⟩; have n2_ : Aside0 (Below w.heap.size w w49) := ⟨by rw [← hq_]; exact (by repeat (first | (with_reducible first | exact HB.out | apply εj | apply εh | apply εi) | exact HB.out))⟩; clear HO_5 HO_8 HB hq_; have HO_5 := n0_; have HO_8 := n1_; have HB := n2_; clear n0_ n1_ n2_))
                           have n0_ := εp (εf HO_5.out)
                           have n1_ := εp (εf HO_8.out)
                           have n2_ := εp (εi HB.out)
                           clear HO_5
                           clear HO_8
                           clear HB
                           have HO_5 := n0_
                           have HO_8 := n1_
                           have HB := n2_
                           clear n0_ n1_ n2_
                           have p179 : 0 ≤ (0 : Int) := (by omega)
                           have q179 : 0 < ((rd_L1 (rd_L2 l0 x22_1) x30_2).length : Int) := of_decide_eq_true (by first | (with_reducible assumption) | assumption)
                           obtain ⟨ad179, e179, hx179_0⟩ := Kd.at_int HR168_0.out 0 p179 q179
                           have hw179_0 := hx179_0
                           (try rw [show ((0 : Int)).toNat = 0 from rfl] at hw179_0)
                           (try rw [show 0 * 1 = 0 from rfl] at hw179_0)
                           (try rw [Addr.add_zero'] at hw179_0)
                           obtain rfl : ad169 = ad179 := (by injection e179)
                           have qi179 : (0 < (rd_L1 (rd_L2 l0 x22_1) x30_2).length) = True := eq_true (by omega)
                           (try rw [show ((0 : Int)).toNat = 0 from rfl] at hx179_0)
                           (try rw [Addr.add_zero'] at hx179_0)
                           (try (replace hx179_0 := (HB.out.cell (World.block_lt_of_cell? w _ hx179_0)).trans hx179_0))
                           replace p179 := eq_true p179
                           replace q179 := eq_true q179
                           have p180 : 0 ≤ (1 : Int) := (by omega)
                           have q180 : 1 < ((rd_L1 (rd_L2 l0 x22_1) x30_2).length : Int) := of_decide_eq_true (by first | (with_reducible assumption) | assumption)
                           obtain ⟨ad180, e180, hx180_0⟩ := Kd.at_int HR168_0.out 1 p180 q180
                           have hw180_0 := hx180_0
                           (try rw [show ((1 : Int)).toNat = 1 from rfl] at hw180_0)
                           (try rw [show 1 * 1 = 1 from rfl] at hw180_0)
                           (try simp only [Nat.reduceMul, Nat.reduceEqDiff, Go.Addr.add, ↓reduceIte] at hw180_0)
                           obtain rfl : ad169 = ad180 := (by injection e180)
                           (try simp only [show (1 : Int).toNat = 1 from rfl, Nat.reduceMul, Nat.reduceEqDiff, Go.Addr.add, ↓reduceIte] at hx180_0)
                           have qi180 : (1 < (rd_L1 (rd_L2 l0 x22_1) x30_2).length) = True := eq_true (by omega)
                           (try rw [show ((1 : Int)).toNat = 1 from rfl] at hx180_0)
                           (try (replace hx180_0 := (HB.out.cell (World.block_lt_of_cell? w _ hx180_0)).trans hx180_0))
                           replace p180 := eq_true p180
                           replace q180 := eq_true q180
                           have p41 : 0 ≤ ((rd (rd_L1 (rd_L2 l0 x22_1) x30_2) 0) : Int) := of_decide_eq_true (by first | (with_reducible assumption) | assumption)
                           have q41 : ((rd (rd_L1 (rd_L2 l0 x22_1) x30_2) 0) : Int) < ((x8_2.length : Int) : Int) := of_decide_eq_true (by first | (with_reducible assumption) | assumption)
                           obtain ⟨go41, co41, eo41, gb41, gl41, cl41, HG41⟩ := Kd.R_form HO_8.out (by omega)
                           (first | cases eo41 | (injection eo41 with ea_ en_ ec_; (first | subst ea_ | (injection ea_ with ea_; subst ea_)); subst ec_; clear en_))
                           have GB41 := εp gb41
                           have GG41 := εp HG41
                           clear gb41 gl41 HG41
                           (first | simp only [add_plain] at hx176_0 | skip)
                           (first | simp only [add_plain] at hx178_0 | skip)
                           obtain ⟨hx41_0, hf41_0⟩ := Kd.R_celln false HO_8.out ((rd (rd_L1 (rd_L2 l0 x22_1) x30_2) 0) : Int) p41 q41
                           replace p41 := eq_true p41
                           replace q41 := eq_true q41
                           have HP52 := Kd.R_putn HO_8.out ((rd (rd_L1 (rd_L2 l0 x22_1) x30_2) 0) : Int) true
                           rw [← Ny181.out] at HP52
                           have HQ52 := εp HP52
                           clear HP52
                           have p42 : 0 ≤ ((rd (rd_L1 (rd_L2 l0 x22_1) x30_2) 1) : Int) := of_decide_eq_true (by first | (with_reducible assumption) | assumption)
                           have q42 : ((rd (rd_L1 (rd_L2 l0 x22_1) x30_2) 1) : Int) < ((x8_2.length : Int) : Int) := of_decide_eq_true (by first | (with_reducible assumption) | assumption)
                           obtain ⟨hx42_0, hf42_0⟩ := Kd.R_celln false HQ52.out ((rd (rd_L1 (rd_L2 l0 x22_1) x30_2) 1) : Int) p42 q42
                           replace p42 := eq_true p42
                           replace q42 := eq_true q42
                           have HP53 := Kd.R_putn HQ52.out ((rd (rd_L1 (rd_L2 l0 x22_1) x30_2) 1) : Int) true
                           rw [← Ny182.out] at HP53
                           have HQ53 := εp HP53
                           clear HP53
                           refine start_ (n := 12) (S := fun w' => w'.cell? ad169 = some (.int .i64 (rd (rd_L1 (rd_L2 l0 x22_1) x30_2) 0)) ∧ w'.cell? ⟨ad169.block, ad169.off + 1, none⟩ = some (.int .i64 (rd (rd_L1 (rd_L2 l0 x22_1) x30_2) 1))) (ds := [9, 11]) ε47 (by kernel_rfl) rfl rfl ⟨((HB.out.cell (World.block_lt_of_cell? w _ hw179_0)).trans hw179_0), ((HB.out.cell (World.block_lt_of_cell? w _ hw180_0)).trans hw180_0)⟩ (fun hHeld => ?_); refine with_tabW impl_MeetOnce.tab13 impl_MeetOnce.bits13 (fun HT_ HW_ => ?_)
                           generalize w49.drew = w51 at HO_5 HO_8 HB GG41 HQ52 HQ53 hf41_0 hf42_0 hx176_0 hx178_0 hx179_0 hx180_0 hx41_0 hx42_0 hHeld ⊢
                           refine pure_ (i := 0) (N := some 80) (v := ?_) (a' := ?_) ε48 rfl rfl (any_of HT_.out (by kernel_rfl)) (fun _ _ _ h => h) (Or.inl ⟨by rfl, ?_⟩) ?_ ?_
                           rotate_left; · (intro w'; go_simp; with_reducible rfl)
                           rotate_left; · (simp only [Act.put, εm, εn, εo, i64_w, i32_w]; rfl)
                           refine pure_ (i := 1) (N := some 81) (v := ?_) (a' := ?_) ε49 rfl rfl (any_of HT_.out (by kernel_rfl)) (fun _ _ _ h => h) (Or.inl ⟨by rfl, ?_⟩) ?_ ?_
                           rotate_left; · (intro w'; go_simp; with_reducible rfl)
                           rotate_left; · (simp only [Act.put, εm, εn, εo, i64_w, i32_w]; rfl)
                           refine pure_ (i := 2) (N := some 82) (v := ?_) (a' := ?_) ε50 rfl rfl (any_of HT_.out (by kernel_rfl)) (fun _ _ _ h => h) (Or.inl ⟨by rfl, ?_⟩) ?_ ?_
                           rotate_left; · (intro w'; go_simp; with_reducible rfl)
                           rotate_left; · (simp only [Act.put, εm, εn, εo, i64_w, i32_w]; rfl)
                           refine pure_ (i := 4) (N := some 84) (v := ?_) (a' := ?_) ε51 rfl rfl (any_of HT_.out (by kernel_rfl)) (fun _ _ _ h => h) (Or.inl ⟨by rfl, ?_⟩) ?_ ?_
                           rotate_left; · (intro w'; go_simp; with_reducible rfl)
                           rotate_left; · (simp only [Act.put, εm, εn, εo, i64_w, i32_w]; rfl)
                           refine pure_ (i := 5) (N := some 85) (v := ?_) (a' := ?_) ε52 rfl rfl (any_of HT_.out (by kernel_rfl)) (fun _ _ _ h => h) (Or.inl ⟨by rfl, ?_⟩) ?_ ?_
                           rotate_left; · (intro w'; go_simp; with_reducible rfl)
                           rotate_left; · (simp only [Act.put, εm, εn, εo, i64_w, i32_w]; rfl)
                           refine pure_ (i := 6) (N := some 86) (v := ?_) (a' := ?_) ε53 rfl rfl (any_of HT_.out (by kernel_rfl)) (fun _ _ _ h => h) (Or.inl ⟨by rfl, ?_⟩) ?_ ?_
                           rotate_left; · (intro w'; go_simp; with_reducible rfl)
                           rotate_left; · (simp only [Act.put, εm, εn, εo, i64_w, i32_w]; rfl)
                           refine take_ (i := 3) (N := some 83) (v := ?_) (a' := ?_) ε54 rfl rfl (take_ofW HT_.out HW_.out (by kernel_rfl)) (fun _ _ _ h => h) (Or.inl ⟨by rfl, ?_⟩) hHeld ?_ ?_
                           rotate_left
                           ·
                            rintro w' ⟨s0, s1⟩
                            go_simp
                            with_reducible rfl
                           rotate_left
                           ·
                            simp only [Act.put, εm, εn, εo, i64_w, i32_w]
                            rfl
                           refine take_ (i := 7) (N := some 87) (v := ?_) (a' := ?_) ε55 rfl rfl (take_ofW HT_.out HW_.out (by kernel_rfl)) (fun _ _ _ h => h) (Or.inl ⟨by rfl, ?_⟩) hHeld ?_ ?_
                           rotate_left
                           ·
                            rintro w' ⟨s0, s1⟩
                            go_simp
                            with_reducible rfl
                           rotate_left
                           ·
                            simp only [Act.put, εm, εn, εo, i64_w, i32_w]
                            rfl
                           refine pure_ (i := 8) (N := some 88) (v := ?_) (a' := ?_) ε56 rfl rfl (any_of HT_.out (by kernel_rfl)) (fun _ _ _ h => h) (Or.inl ⟨by rfl, ?_⟩) ?_ ?_
                           rotate_left; · (intro w'; go_simp; with_reducible rfl)
                           rotate_left; · (simp only [Act.put, εm, εn, εo, i64_w, i32_w]; rfl)
                           refine last_ (i := 9) (N := none) ε57 rfl rfl (one_of HT_.out (by kernel_rfl)) (by decide) (fun K hK => ?_)
                           refine skip_ (w1 := ?_) (by rfl) rfl ?_ ?_
                           rotate_left
                           ·
                            go_simp
                            rfl
                           refine hK.out _ _ ?_
                           clear hK K
                           refine pure_ (i := 10) (N := some 89) (v := ?_) (a' := ?_) ε58 rfl rfl (any_of HT_.out (by kernel_rfl)) (fun _ _ _ h => h) (Or.inl ⟨by rfl, ?_⟩) ?_ ?_
                           rotate_left; · (intro w'; go_simp; with_reducible rfl)
                           rotate_left; · (simp only [Act.put, εm, εn, εo, i64_w, i32_w]; rfl)
                           refine last_ (i := 11) (N := none) ε59 rfl rfl (one_of HT_.out (by kernel_rfl)) (by decide) (fun K hK => ?_)
                           refine skip_ (w1 := ?_) (by rfl) rfl ?_ ?_
                           rotate_left
                           ·
                            go_simp
                            rfl
                           refine hK.out _ _ ?_
                           clear hK K
                           refine done_ (done_of HT_.out (by kernel_rfl)) ?_
                           try go_wp2
                           have n0_ : Aside0 (Kd.R (Kd.int .i64) 3 ((w51.setCell ⟨go41, ((rd (rd_L1 (rd_L2 l0 x22_1) x30_2) 0) : Int).toNat, none⟩ (.bool true)).setCell ⟨go41, ((rd (rd_L1 (rd_L2 l0 x22_1) x30_2) 1) : Int).toNat, none⟩ (.bool true)) w.heap.size (fun _ => True) v162 x5_2) := ⟨by (with_reducible repeat (first | apply Kd.R_alloc | apply Kd.R_drewN | apply εf)); exact Kd.R_mono (Kd.R_far (p := ⟨go41, ((rd (rd_L1 (rd_L2 l0 x22_1) x30_2) 1) : Int).toNat, none⟩) (Kd.R_far (p := ⟨go41, ((rd (rd_L1 (rd_L2 l0 x22_1) x30_2) 0) : Int).toNat, none⟩) (Kd.R_types HO_5.out GG41.out (by decide)) (fun _ hk => hk.2) (.bool true)) (fun _ hk => hk.2) (.bool true)) (fun _ hk => trivial)⟩
                           have n1_ : Aside0 (Kd.R Kd.bool 4 ((w51.setCell ⟨go41, ((rd (rd_L1 (rd_L2 l0 x22_1) x30_2) 0) : Int).toNat, none⟩ (.bool true)).setCell ⟨go41, ((rd (rd_L1 (rd_L2 l0 x22_1) x30_2) 1) : Int).toNat, none⟩ (.bool true)) w.heap.size (fun _ => True) (.slice (some ⟨go41, 0, none⟩) x8_2.length co50) y182) := ⟨by (with_reducible repeat (first | apply Kd.R_alloc | apply Kd.R_drewN | apply εf)); exact HQ53.out⟩
                           have n2_ : Aside0 (Below w.heap.size w ((w51.setCell ⟨go41, ((rd (rd_L1 (rd_L2 l0 x22_1) x30_2) 0) : Int).toNat, none⟩ (.bool true)).setCell ⟨go41, ((rd (rd_L1 (rd_L2 l0 x22_1) x30_2) 1) : Int).toNat, none⟩ (.bool true))) := ⟨by repeat (first | (with_reducible first | exact HB.out | apply εj | apply εh | apply εi | refine below_set ?_ GB41.out | refine below_set ?_ GB41.out) | exact HB.out)⟩
                           (try clear HO_5)
                           (try clear HO_8)
                           (try clear HB)
                           generalize ((w51.setCell ⟨go41, ((rd (rd_L1 (rd_L2 l0 x22_1) x30_2) 0) : Int).toNat, none⟩ (.bool true)).setCell ⟨go41, ((rd (rd_L1 (rd_L2 l0 x22_1) x30_2) 1) : Int).toNat, none⟩ (.bool true)) = w54 at n0_ n1_ n2_ ⊢
                           have HO_5 := n0_
                           have HO_8 := n1_
                           have HB := n2_
                           clear n0_ n1_ n2_
                           have n0_ := εp (εf HO_5.out)
                           have n1_ := εp (εf HO_8.out)
                           have n2_ := εp (εi HB.out)
                           clear HO_5
                           clear HO_8
                           clear HB
                           have HO_5 := n0_
                           have HO_8 := n1_
                           have HB := n2_
                           clear n0_ n1_ n2_
                           have p183 : 0 ≤ (0 : Int) := (by omega)
                           have q183 : 0 < ((rd_L1 (rd_L2 l0 x22_1) x30_2).length : Int) := of_decide_eq_true (by first | (with_reducible assumption) | assumption)
                           obtain ⟨ad183, e183, hx183_0⟩ := Kd.at_int HR168_0.out 0 p183 q183
                           have hw183_0 := hx183_0
                           (try rw [show ((0 : Int)).toNat = 0 from rfl] at hw183_0)
                           (try rw [show 0 * 1 = 0 from rfl] at hw183_0)
                           (try rw [Addr.add_zero'] at hw183_0)
                           obtain rfl : ad169 = ad183 := (by injection e183)
                           have qi183 : (0 < (rd_L1 (rd_L2 l0 x22_1) x30_2).length) = True := eq_true (by omega)
                           (try rw [show ((0 : Int)).toNat = 0 from rfl] at hx183_0)
                           (try rw [Addr.add_zero'] at hx183_0)
                           (try (replace hx183_0 := (HB.out.cell (World.block_lt_of_cell? w _ hx183_0)).trans hx183_0))
                           replace p183 := eq_true p183
                           replace q183 := eq_true q183
                           have p184 : 0 ≤ (1 : Int) := (by omega)
                           have q184 : 1 < ((rd_L1 (rd_L2 l0 x22_1) x30_2).length : Int) := of_decide_eq_true (by first | (with_reducible assumption) | assumption)
                           obtain ⟨ad184, e184, hx184_0⟩ := Kd.at_int HR168_0.out 1 p184 q184
                           have hw184_0 := hx184_0
                           (try rw [show ((1 : Int)).toNat = 1 from rfl] at hw184_0)
                           (try rw [show 1 * 1 = 1 from rfl] at hw184_0)
                           (try simp only [Nat.reduceMul, Nat.reduceEqDiff, Go.Addr.add, ↓reduceIte] at hw184_0)
                           obtain rfl : ad169 = ad184 := (by injection e184)
                           (try simp only [show (1 : Int).toNat = 1 from rfl, Nat.reduceMul, Nat.reduceEqDiff, Go.Addr.add, ↓reduceIte] at hx184_0)
                           have qi184 : (1 < (rd_L1 (rd_L2 l0 x22_1) x30_2).length) = True := eq_true (by omega)
                           (try rw [show ((1 : Int)).toNat = 1 from rfl] at hx184_0)
                           (try (replace hx184_0 := (HB.out.cell (World.block_lt_of_cell? w _ hx184_0)).trans hx184_0))
                           replace p184 := eq_true p184
                           replace q184 := eq_true q184
                           have p185 : 0 ≤ (0 : Int) := (by omega)
                           have q185 : 0 < ((rd_L1 (rd_L2 l0 x22_1) x30_2).length : Int) := of_decide_eq_true (by first | (with_reducible assumption) | assumption)
                           obtain ⟨ad185, e185, hx185_0⟩ := Kd.at_int HR168_0.out 0 p185 q185
                           have hw185_0 := hx185_0
                           (try rw [show ((0 : Int)).toNat = 0 from rfl] at hw185_0)
                           (try rw [show 0 * 1 = 0 from rfl] at hw185_0)
                           (try rw [Addr.add_zero'] at hw185_0)
                           obtain rfl : ad169 = ad185 := (by injection e185)
                           have qi185 : (0 < (rd_L1 (rd_L2 l0 x22_1) x30_2).length) = True := eq_true (by omega)
                           (try rw [show ((0 : Int)).toNat = 0 from rfl] at hx185_0)
                           (try rw [Addr.add_zero'] at hx185_0)
                           (try (replace hx185_0 := (HB.out.cell (World.block_lt_of_cell? w _ hx185_0)).trans hx185_0))
                           replace p185 := eq_true p185
                           replace q185 := eq_true q185
                           have p186 : 0 ≤ (1 : Int) := (by omega)
                           have q186 : 1 < ((rd_L1 (rd_L2 l0 x22_1) x30_2).length : Int) := of_decide_eq_true (by first | (with_reducible assumption) | assumption)
                           obtain ⟨ad186, e186, hx186_0⟩ := Kd.at_int HR168_0.out 1 p186 q186
                           have hw186_0 := hx186_0
                           (try rw [show ((1 : Int)).toNat = 1 from rfl] at hw186_0)
                           (try rw [show 1 * 1 = 1 from rfl] at hw186_0)
                           (try simp only [Nat.reduceMul, Nat.reduceEqDiff, Go.Addr.add, ↓reduceIte] at hw186_0)
                           obtain rfl : ad169 = ad186 := (by injection e186)
                           (try simp only [show (1 : Int).toNat = 1 from rfl, Nat.reduceMul, Nat.reduceEqDiff, Go.Addr.add, ↓reduceIte] at hx186_0)
                           have qi186 : (1 < (rd_L1 (rd_L2 l0 x22_1) x30_2).length) = True := eq_true (by omega)
                           (try rw [show ((1 : Int)).toNat = 1 from rfl] at hx186_0)
                           (try (replace hx186_0 := (HB.out.cell (World.block_lt_of_cell? w _ hx186_0)).trans hx186_0))
                           replace p186 := eq_true p186
                           replace q186 := eq_true q186
                           obtain ⟨Ao56, co56, eo56⟩ := Kd.R_slice HO_5.out
                           (first | subst eo56 | (injection eo56 with f1_ f2_ f3_; have f4_ := f1_.symm; have f5_ := f3_.symm; clear f1_ f2_ f3_; subst f4_; subst f5_))
                           have p187 : 0 ≤ ((ji45) : Int) := of_decide_eq_true (by first | (with_reducible assumption) | assumption)
                           have q187 : (ji45) < (x5_2.length : Int) := of_decide_eq_true (by first | (with_reducible assumption) | assumption)
                           obtain ⟨ad187, e187, hx187_0⟩ := Kd.at_int (Kd.R_reads' HO_5.out).2.2 (ji45) p187 q187
                           cases e187
                           replace p187 := eq_true p187
                           replace q187 := eq_true q187
                           have p48 : 0 ≤ ((ji45) : Int) := of_decide_eq_true (by first | (with_reducible assumption) | assumption)
                           have q48 : ((ji45) : Int) < ((x5_2.length : Int) : Int) := of_decide_eq_true (by first | (with_reducible assumption) | assumption)
                           obtain ⟨go48, co48, eo48, gb48, gl48, cl48, HG48⟩ := Kd.R_form HO_5.out (by omega)
                           (first | cases eo48 | (injection eo48 with ea_ en_ ec_; (first | subst ea_ | (injection ea_ with ea_; subst ea_)); subst ec_; clear en_))
                           have GB48 := εp gb48
                           have GG48 := εp HG48
                           clear gb48 gl48 HG48
                           (first | simp only [add_plain] at hx187_0 | skip)
                           obtain ⟨hx48_0, hf48_0⟩ := Kd.R_celln 0 HO_5.out ((ji45) : Int) p48 q48
                           replace p48 := eq_true p48
                           replace q48 := eq_true q48
                           have HP57 := Kd.R_putn HO_5.out ((ji45) : Int) (wrap64 ((rd x5_2 (ji45)) + 1))
                           rw [← Ny188.out] at HP57
                           have HQ57 := εp HP57
                           clear HP57
                           refine start_ (n := 23) (S := fun w' => w'.cell? ad169 = some (.int .i64 (rd (rd_L1 (rd_L2 l0 x22_1) x30_2) 0)) ∧ w'.cell? ⟨ad169.block, ad169.off + 1, none⟩ = some (.int .i64 (rd (rd_L1 (rd_L2 l0 x22_1) x30_2) 1)) ∧ w'.cell? ad169 = some (.int .i64 (rd (rd_L1 (rd_L2 l0 x22_1) x30_2) 0)) ∧ w'.cell? ⟨ad169.block, ad169.off + 1, none⟩ = some (.int .i64 (rd (rd_L1 (rd_L2 l0 x22_1) x30_2) 1)) ∧ w'.cell? ⟨go48, ((ji45)).toNat, none⟩ = some (.int .i64 (rd x5_2 (ji45)))) (ds := [22]) ε60 (by kernel_rfl) rfl rfl ⟨((HB.out.cell (World.block_lt_of_cell? w _ hw183_0)).trans hw183_0), ((HB.out.cell (World.block_lt_of_cell? w _ hw184_0)).trans hw184_0), ((HB.out.cell (World.block_lt_of_cell? w _ hw185_0)).trans hw185_0), ((HB.out.cell (World.block_lt_of_cell? w _ hw186_0)).trans hw186_0), hx187_0⟩ (fun hHeld => ?_); refine with_tabW impl_MeetOnce.tab14 impl_MeetOnce.bits14 (fun HT_ HW_ => ?_)
                           generalize w54.drew = w55 at HO_5 HO_8 HB GG48 HQ53 HQ57 hf48_0 hx183_0 hx184_0 hx185_0 hx186_0 hx187_0 hx48_0 hHeld ⊢
                           refine pure_ (i := 0) (N := some 90) (v := ?_) (a' := ?_) ε61 rfl rfl (any_of HT_.out (by kernel_rfl)) (fun _ _ _ h => h) (Or.inl ⟨by rfl, ?_⟩) ?_ ?_
                           rotate_left; · (intro w'; go_simp; with_reducible rfl)
                           rotate_left; · (simp only [Act.put, εm, εn, εo, i64_w, i32_w]; rfl)
                           refine pure_ (i := 1) (N := some 91) (v := ?_) (a' := ?_) ε62 rfl rfl (any_of HT_.out (by kernel_rfl)) (fun _ _ _ h => h) (Or.inl ⟨by rfl, ?_⟩) ?_ ?_
                           rotate_left; · (intro w'; go_simp; with_reducible rfl)
                           rotate_left; · (simp only [Act.put, εm, εn, εo, i64_w, i32_w]; rfl)
                           refine pure_ (i := 2) (N := some 92) (v := ?_) (a' := ?_) ε63 rfl rfl (any_of HT_.out (by kernel_rfl)) (fun _ _ _ h => h) (Or.inl ⟨by rfl, ?_⟩) ?_ ?_
                           rotate_left; · (intro w'; go_simp; with_reducible rfl)
                           rotate_left; · (simp only [Act.put, εm, εn, εo, i64_w, i32_w]; rfl)
                           refine pure_ (i := 4) (N := some 94) (v := ?_) (a' := ?_) ε64 rfl rfl (any_of HT_.out (by kernel_rfl)) (fun _ _ _ h => h) (Or.inl ⟨by rfl, ?_⟩) ?_ ?_
                           rotate_left; · (intro w'; go_simp; with_reducible rfl)
                           rotate_left; · (simp only [Act.put, εm, εn, εo, i64_w, i32_w]; rfl)
                           refine pure_ (i := 5) (N := some 95) (v := ?_) (a' := ?_) ε65 rfl rfl (any_of HT_.out (by kernel_rfl)) (fun _ _ _ h => h) (Or.inl ⟨by rfl, ?_⟩) ?_ ?_
                           rotate_left; · (intro w'; go_simp; with_reducible rfl)
                           rotate_left; · (simp only [Act.put, εm, εn, εo, i64_w, i32_w]; rfl)
                           refine pure_ (i := 8) (N := some 98) (v := ?_) (a' := ?_) ε66 rfl rfl (any_of HT_.out (by kernel_rfl)) (fun _ _ _ h => h) (Or.inl ⟨by rfl, ?_⟩) ?_ ?_
                           rotate_left; · (intro w'; go_simp; with_reducible rfl)
                           rotate_left; · (simp only [Act.put, εm, εn, εo, i64_w, i32_w]; rfl)
                           refine pure_ (i := 10) (N := some 100) (v := ?_) (a' := ?_) ε67 rfl rfl (any_of HT_.out (by kernel_rfl)) (fun _ _ _ h => h) (Or.inl ⟨by rfl, ?_⟩) ?_ ?_
                           rotate_left; · (intro w'; go_simp; with_reducible rfl)
                           rotate_left; · (simp only [Act.put, εm, εn, εo, i64_w, i32_w]; rfl)
                           refine pure_ (i := 11) (N := some 101) (v := ?_) (a' := ?_) ε68 rfl rfl (any_of HT_.out (by kernel_rfl)) (fun _ _ _ h => h) (Or.inl ⟨by rfl, ?_⟩) ?_ ?_
                           rotate_left; · (intro w'; go_simp; with_reducible rfl)
                           rotate_left; · (simp only [Act.put, εm, εn, εo, i64_w, i32_w]; rfl)
                           refine pure_ (i := 13) (N := some 103) (v := ?_) (a' := ?_) ε69 rfl rfl (any_of HT_.out (by kernel_rfl)) (fun _ _ _ h => h) (Or.inl ⟨by rfl, ?_⟩) ?_ ?_
                           rotate_left; · (intro w'; go_simp; with_reducible rfl)
                           rotate_left; · (simp only [Act.put, εm, εn, εo, i64_w, i32_w]; rfl)
                           refine pure_ (i := 14) (N := some 104) (v := ?_) (a' := ?_) ε70 rfl rfl (any_of HT_.out (by kernel_rfl)) (fun _ _ _ h => h) (Or.inl ⟨by rfl, ?_⟩) ?_ ?_
                           rotate_left; · (intro w'; go_simp; with_reducible rfl)
                           rotate_left; · (simp only [Act.put, εm, εn, εo, i64_w, i32_w]; rfl)
                           refine take_ (i := 3) (N := some 93) (v := ?_) (a' := ?_) ε71 rfl rfl (take_ofW HT_.out HW_.out (by kernel_rfl)) (fun _ _ _ h => h) (Or.inl ⟨by rfl, ?_⟩) hHeld ?_ ?_
                           rotate_left
                           ·
                            rintro w' ⟨s0, s1, s2, s3, s4⟩
                            go_simp
                            with_reducible rfl
                           rotate_left
                           ·
                            simp only [Act.put, εm, εn, εo, i64_w, i32_w]
                            rfl
                           refine take_ (i := 6) (N := some 96) (v := ?_) (a' := ?_) ε72 rfl rfl (take_ofW HT_.out HW_.out (by kernel_rfl)) (fun _ _ _ h => h) (Or.inl ⟨by rfl, ?_⟩) hHeld ?_ ?_
                           rotate_left
                           ·
                            rintro w' ⟨s0, s1, s2, s3, s4⟩
                            go_simp
                            with_reducible rfl
                           rotate_left
                           ·
                            simp only [Act.put, εm, εn, εo, i64_w, i32_w]
                            rfl
                           refine pure_ (i := 7) (N := some 97) (v := ?_) (a' := ?_) ε73 rfl rfl (any_of HT_.out (by kernel_rfl)) (fun _ _ _ h => h) (Or.inl ⟨by rfl, ?_⟩) ?_ ?_
                           rotate_left; · (intro w'; go_simp; with_reducible rfl)
                           rotate_left; · (simp only [Act.put, εm, εn, εo, i64_w, i32_w]; rfl)
                           refine pure_ (i := 9) (N := some 99) (v := ?_) (a' := ?_) ε74 rfl rfl (any_of HT_.out (by kernel_rfl)) (fun _ _ _ h => h) (Or.inl ⟨by rfl, ?_⟩) ?_ ?_
                           rotate_left; · (intro w'; go_simp; with_reducible rfl)
                           rotate_left; · (simp only [Act.put, εm, εn, εo, i64_w, i32_w]; rfl)
                           refine take_ (i := 12) (N := some 102) (v := ?_) (a' := ?_) ε75 rfl rfl (take_ofW HT_.out HW_.out (by kernel_rfl)) (fun _ _ _ h => h) (Or.inl ⟨by rfl, ?_⟩) hHeld ?_ ?_
                           rotate_left
                           ·
                            rintro w' ⟨s0, s1, s2, s3, s4⟩
                            go_simp
                            with_reducible rfl
                           rotate_left
                           ·
                            simp only [Act.put, εm, εn, εo, i64_w, i32_w]
                            rfl
                           refine take_ (i := 15) (N := some 105) (v := ?_) (a' := ?_) ε76 rfl rfl (take_ofW HT_.out HW_.out (by kernel_rfl)) (fun _ _ _ h => h) (Or.inl ⟨by rfl, ?_⟩) hHeld ?_ ?_
                           rotate_left
                           ·
                            rintro w' ⟨s0, s1, s2, s3, s4⟩
                            go_simp
                            with_reducible rfl
                           rotate_left
                           ·
                            simp only [Act.put, εm, εn, εo, i64_w, i32_w]
                            rfl
                           refine pure_ (i := 16) (N := some 106) (v := ?_) (a' := ?_) ε77 rfl rfl (any_of HT_.out (by kernel_rfl)) (fun _ _ _ h => h) (Or.inl ⟨by rfl, ?_⟩) ?_ ?_
                           rotate_left; · (intro w'; go_simp; with_reducible rfl)
                           rotate_left; · (simp only [Act.put, εm, εn, εo, i64_w, i32_w]; rfl)
                           refine pure_ (i := 17) (N := some 107) (v := ?_) (a' := ?_) ε78 rfl rfl (any_of HT_.out (by kernel_rfl)) (fun _ _ _ h => h) (Or.inl ⟨by rfl, ?_⟩) ?_ ?_
                           rotate_left; · (intro w'; go_simp; with_reducible rfl)
                           rotate_left; · (simp only [Act.put, εm, εn, εo, i64_w, i32_w]; rfl)
                           refine pure_ (i := 18) (N := some 108) (v := ?_) (a' := ?_) ε79 rfl rfl (any_of HT_.out (by kernel_rfl)) (fun _ _ _ h => h) (Or.inl ⟨by rfl, ?_⟩) ?_ ?_
                           rotate_left; · (intro w'; go_simp; with_reducible rfl)
                           rotate_left; · (simp only [Act.put, εm, εn, εo, i64_w, i32_w]; rfl)
                           refine take_ (i := 19) (N := some 109) (v := ?_) (a' := ?_) ε80 rfl rfl (take_ofW HT_.out HW_.out (by kernel_rfl)) (fun _ _ _ h => h) (Or.inl ⟨by rfl, ?_⟩) hHeld ?_ ?_
                           rotate_left
                           ·
                            rintro w' ⟨s0, s1, s2, s3, s4⟩
                            go_simp
                            with_reducible rfl
                           rotate_left
                           ·
                            simp only [Act.put, εm, εn, εo, i64_w, i32_w]
                            rfl
                           refine pure_ (i := 20) (N := some 110) (v := ?_) (a' := ?_) ε81 rfl rfl (any_of HT_.out (by kernel_rfl)) (fun _ _ _ h => h) (Or.inl ⟨by rfl, ?_⟩) ?_ ?_
                           rotate_left; · (intro w'; go_simp; with_reducible rfl)
                           rotate_left; · (simp only [Act.put, εm, εn, εo, i64_w, i32_w]; rfl)
                           refine pure_ (i := 21) (N := some 111) (v := ?_) (a' := ?_) ε82 rfl rfl (any_of HT_.out (by kernel_rfl)) (fun _ _ _ h => h) (Or.inl ⟨by rfl, ?_⟩) ?_ ?_
                           rotate_left; · (intro w'; go_simp; with_reducible rfl)
                           rotate_left; · (simp only [Act.put, εm, εn, εo, i64_w, i32_w]; rfl)
                           refine last_ (i := 22) (N := none) ε83 rfl rfl (one_of HT_.out (by kernel_rfl)) (by decide) (fun K hK => ?_)
                           refine skip_ (w1 := ?_) (by rfl) rfl ?_ ?_
                           rotate_left
                           ·
                            go_simp
                            rfl
                           refine hK.out _ _ ?_
                           clear hK K
                           refine done_ (done_of HT_.out (by kernel_rfl)) ?_
                           try go_wp2
                           go_roundg k2
                           case measure => have := HK1.out; have := HK2.out; omega
                           case rel => exact ⟨(y188), (y182), (wrap64 (x30_2 + 1)), (by first | rfl | (simp; done) | (simp [*]; done)), H', ⟨by have := HK1.out; have := HK2.out; omega⟩, ⟨by (with_reducible repeat (first | apply Kd.R_alloc | apply Kd.R_drewN | apply εf)); exact HQ57.out⟩, ⟨by (with_reducible repeat (first | apply Kd.R_alloc | apply Kd.R_drewN | apply εf)); exact Kd.R_mono (Kd.R_far (p := ⟨go48, ((ji45) : Int).toNat, none⟩) (Kd.R_types HO_8.out GG48.out (by decide)) (fun _ hk => hk.2) (.int .i64 (wrap64 ((rd x5_2 (ji45)) + 1)))) (fun _ hk => trivial)⟩, ⟨by repeat (first | (with_reducible first | exact HB.out | apply εj | apply εh | apply εi | refine below_set ?_ GB48.out) | exact HB.out)⟩⟩
                          rw [if_neg c47] at H
                          exact absurd H (by simp)
                         rw [if_neg c46] at H
                         exact absurd H (by simp)
                        rw [if_neg c36] at H
                        exact absurd H (by simp)
                       rw [if_neg c35] at H
                       exact absurd H (by simp)
                      rw [if_neg c30] at H
                      exact absurd H (by simp)
                     rw [if_neg c29] at H
                     exact absurd H (by simp)
                    replace c26 := Bool.eq_false_iff.mpr c26
                    subst c26
                    have H1 : (some false) = some r := by rw [if_neg (show ¬ (false = true) by decide)] at H; exact H
                    clear H
                    have H := H1
                    clear H1
                    obtain rfl := Option.some.inj H
                    have p168 : 0 ≤ (x30_2 : Int) := of_decide_eq_true (by first | (with_reducible assumption) | assumption)
                    have q168 : x30_2 < ((rd_L2 l0 x22_1).length : Int) := of_decide_eq_true (by first | (with_reducible assumption) | assumption)
                    obtain ⟨ad168, A168_0, c168_0, e168, hx168_0, hl168_0, hi168_0⟩ := at_L1 HR164_0.out x30_2 p168 q168
                    cases e168
                    (try (replace hx168_0 := (HB.out.cell (World.block_lt_of_cell? w _ hx168_0)).trans hx168_0))
                    have HR168_0 := εp hi168_0
                    have HC168_0 := εp hl168_0
                    clear hi168_0 hl168_0
                    replace p168 := eq_true p168
                    replace q168 := eq_true q168
                    try go_wp2
                    have n0_ := εp (εf HO_5.out)
                    have n1_ := εp (εf HO_8.out)
                    have n2_ := εp (εi HB.out)
                    clear HO_5
                    clear HO_8
                    clear HB
                    have HO_5 := n0_
                    have HO_8 := n1_
                    have HB := n2_
                    clear n0_ n1_ n2_
                    have p169 : 0 ≤ (0 : Int) := (by omega)
                    have q169 : 0 < ((rd_L1 (rd_L2 l0 x22_1) x30_2).length : Int) := of_decide_eq_true (by first | (with_reducible assumption) | assumption)
                    obtain ⟨ad169, e169, hx169_0⟩ := Kd.at_int HR168_0.out 0 p169 q169
                    have hw169_0 := hx169_0
                    (try rw [show ((0 : Int)).toNat = 0 from rfl] at hw169_0)
                    (try rw [show 0 * 1 = 0 from rfl] at hw169_0)
                    (try rw [Addr.add_zero'] at hw169_0)
                    cases e169
                    have qi169 : (0 < (rd_L1 (rd_L2 l0 x22_1) x30_2).length) = True := eq_true (by omega)
                    (try rw [show ((0 : Int)).toNat = 0 from rfl] at hx169_0)
                    (try rw [Addr.add_zero'] at hx169_0)
                    (try (replace hx169_0 := (HB.out.cell (World.block_lt_of_cell? w _ hx169_0)).trans hx169_0))
                    replace p169 := eq_true p169
                    replace q169 := eq_true q169
                    have p171 : 0 ≤ (1 : Int) := (by omega)
                    have q171 : 1 < ((rd_L1 (rd_L2 l0 x22_1) x30_2).length : Int) := of_decide_eq_true (by first | (with_reducible assumption) | assumption)
                    obtain ⟨ad171, e171, hx171_0⟩ := Kd.at_int HR168_0.out 1 p171 q171
                    have hw171_0 := hx171_0
                    (try rw [show ((1 : Int)).toNat = 1 from rfl] at hw171_0)
                    (try rw [show 1 * 1 = 1 from rfl] at hw171_0)
                    (try simp only [Nat.reduceMul, Nat.reduceEqDiff, Go.Addr.add, ↓reduceIte] at hw171_0)
                    obtain rfl : ad169 = ad171 := (by injection e171)
                    (try simp only [show (1 : Int).toNat = 1 from rfl, Nat.reduceMul, Nat.reduceEqDiff, Go.Addr.add, ↓reduceIte] at hx171_0)
                    have qi171 : (1 < (rd_L1 (rd_L2 l0 x22_1) x30_2).length) = True := eq_true (by omega)
                    (try rw [show ((1 : Int)).toNat = 1 from rfl] at hx171_0)
                    (try (replace hx171_0 := (HB.out.cell (World.block_lt_of_cell? w _ hx171_0)).trans hx171_0))
                    replace p171 := eq_true p171
                    replace q171 := eq_true q171
                    refine start_ (n := 46) (S := fun w' => w'.cell? ad169 = some (.int .i64 (rd (rd_L1 (rd_L2 l0 x22_1) x30_2) 0)) ∧ w'.cell? ⟨ad169.block, ad169.off + 1, none⟩ = some (.int .i64 (rd (rd_L1 (rd_L2 l0 x22_1) x30_2) 1))) (ds := []) ε0 (by kernel_rfl) rfl rfl ⟨((HB.out.cell (World.block_lt_of_cell? w _ hw169_0)).trans hw169_0), ((HB.out.cell (World.block_lt_of_cell? w _ hw171_0)).trans hw171_0)⟩ (fun hHeld => ?_); refine with_tabW impl_MeetOnce.tab11 impl_MeetOnce.bits11 (fun HT_ HW_ => ?_)
                    generalize wr.drew = w58 at HO_5 HO_8 HB hx169_0 hx171_0 hHeld ⊢
                    refine pure_ (i := 0) (N := some 34) (v := ?_) (a' := ?_) ε1 rfl rfl (any_of HT_.out (by kernel_rfl)) (fun _ _ _ h => h) (Or.inl ⟨by rfl, ?_⟩) ?_ ?_
                    rotate_left; · (intro w'; go_simp; with_reducible rfl)
                    rotate_left; · (simp only [Act.put, εm, εn, εo, i64_w, i32_w]; rfl)
                    refine pure_ (i := 1) (N := some 35) (v := ?_) (a' := ?_) ε2 rfl rfl (any_of HT_.out (by kernel_rfl)) (fun _ _ _ h => h) (Or.inl ⟨by rfl, ?_⟩) ?_ ?_
                    rotate_left; · (intro w'; go_simp; with_reducible rfl)
                    rotate_left; · (simp only [Act.put, εm, εn, εo, i64_w, i32_w]; rfl)
                    refine pure_ (i := 2) (N := some 36) (v := ?_) (a' := ?_) ε3 rfl rfl (any_of HT_.out (by kernel_rfl)) (fun _ _ _ h => h) (Or.inl ⟨by rfl, ?_⟩) ?_ ?_
                    rotate_left; · (intro w'; go_simp; with_reducible rfl)
                    rotate_left; · (simp only [Act.put, εm, εn, εo, i64_w, i32_w]; rfl)
                    refine pure_ (i := 3) (N := some 37) (v := ?_) (a' := ?_) ε4 rfl rfl (any_of HT_.out (by kernel_rfl)) (fun _ _ _ h => h) (Or.inl ⟨by rfl, ?_⟩) ?_ ?_
                    rotate_left; · (intro w'; go_simp; with_reducible rfl)
                    rotate_left; · (simp only [Act.put, εm, εn, εo, i64_w, i32_w]; rfl)
                    refine pure_ (i := 4) (N := some 38) (v := ?_) (a' := ?_) ε5 rfl rfl (any_of HT_.out (by kernel_rfl)) (fun _ _ _ h => h) (Or.inl ⟨by rfl, ?_⟩) ?_ ?_
                    rotate_left; · (intro w'; go_simp; with_reducible rfl)
                    rotate_left; · (simp only [Act.put, εm, εn, εo, i64_w, i32_w]; rfl)
                    refine pure_ (i := 5) (N := some 39) (v := ?_) (a' := ?_) ε6 rfl rfl (any_of HT_.out (by kernel_rfl)) (fun _ _ _ h => h) (Or.inl ⟨by rfl, ?_⟩) ?_ ?_
                    rotate_left; · (intro w'; go_simp; with_reducible rfl)
                    rotate_left; · (simp only [Act.put, εm, εn, εo, i64_w, i32_w]; rfl)
                    refine pure_ (i := 7) (N := some 41) (v := ?_) (a' := ?_) ε7 rfl rfl (any_of HT_.out (by kernel_rfl)) (fun _ _ _ h => h) (Or.inl ⟨by rfl, ?_⟩) ?_ ?_
                    rotate_left; · (intro w'; go_simp; with_reducible rfl)
                    rotate_left; · (simp only [Act.put, εm, εn, εo, i64_w, i32_w]; rfl)
                    refine pure_ (i := 8) (N := some 42) (v := ?_) (a' := ?_) ε8 rfl rfl (any_of HT_.out (by kernel_rfl)) (fun _ _ _ h => h) (Or.inl ⟨by rfl, ?_⟩) ?_ ?_
                    rotate_left; · (intro w'; go_simp; with_reducible rfl)
                    rotate_left; · (simp only [Act.put, εm, εn, εo, i64_w, i32_w]; rfl)
                    refine take_ (i := 6) (N := some 40) (v := ?_) (a' := ?_) ε9 rfl rfl (take_ofW HT_.out HW_.out (by kernel_rfl)) (fun _ _ _ h => h) (Or.inl ⟨by rfl, ?_⟩) hHeld ?_ ?_
                    rotate_left
                    ·
                     rintro w' ⟨s0, s1⟩
                     go_simp
                     with_reducible rfl
                    rotate_left
                    ·
                     simp only [Act.put, εm, εn, εo, i64_w, i32_w]
                     rfl
                    refine one_ (i := 9) (N := some 43) ε10 rfl rfl (one_of HT_.out (by kernel_rfl)) (by decide) (fun K hK => ?_)
                    refine goes_ Try.func64 (by kernel_rfl) rfl #[.int .i64 (rd (rd_L1 (rd_L2 l0 x22_1) x30_2) 0), .int .i64 0, .int .i64 (wrap64 (a1 - 1))] (by rfl) rfl rfl (by (try simp only [List.map_toArray, List.map_cons, List.map_nil]); first | done | rfl | (simp only [List.length_drop, List.length_take]; rfl)) ?_
                    with_reducible refine (impl_InRange.calls (rd (rd_L1 (rd_L2 l0 x22_1) x30_2) 0) 0 (wrap64 (a1 - 1)) true _ A22.out).mono ?_
                    rintro e w' ⟨rfl, ⟨nd, rfl⟩⟩
                    refine ⟨_, rfl, ?_⟩
                    refine hK.out _ _ ⟨((HB.out.cell (World.block_lt_of_cell? w _ hw169_0)).trans hw169_0), ((HB.out.cell (World.block_lt_of_cell? w _ hw171_0)).trans hw171_0)⟩ (fun hHeld => ?_)
                    clear hK K
                    refine norm_ (a' := ?_) ?_ ?_
                    rotate_left
                    ·
                     show Act.put _ (some 43) _ = _
                     simp only [Act.put, εm, εn, εo, i64_w, i32_w]
                     rfl
                    refine pure_ (i := 10) (N := some 44) (v := ?_) (a' := ?_) ε11 rfl rfl (any_of HT_.out (by kernel_rfl)) (fun _ _ _ h => h) (Or.inl ⟨by rfl, ?_⟩) ?_ ?_
                    rotate_left; · (intro w'; go_simp; with_reducible rfl)
                    rotate_left; · (simp only [Act.put, εm, εn, εo, i64_w, i32_w]; rfl)
                    refine pure_ (i := 11) (N := some 45) (v := ?_) (a' := ?_) ε12 rfl rfl (any_of HT_.out (by kernel_rfl)) (fun _ _ _ h => h) (Or.inl ⟨by rfl, ?_⟩) ?_ ?_
                    rotate_left; · (intro w'; go_simp; with_reducible rfl)
                    rotate_left; · (simp only [Act.put, εm, εn, εo, i64_w, i32_w]; rfl)
                    refine pure_ (i := 12) (N := some 46) (v := ?_) (a' := ?_) ε13 rfl rfl (any_of HT_.out (by kernel_rfl)) (fun _ _ _ h => h) (Or.inl ⟨by rfl, ?_⟩) ?_ ?_
                    rotate_left; · (intro w'; go_simp; with_reducible rfl)
                    rotate_left; · (simp only [Act.put, εm, εn, εo, i64_w, i32_w]; rfl)
                    refine pure_ (i := 13) (N := some 47) (v := ?_) (a' := ?_) ε14 rfl rfl (any_of HT_.out (by kernel_rfl)) (fun _ _ _ h => h) (Or.inl ⟨by rfl, ?_⟩) ?_ ?_
                    rotate_left; · (intro w'; go_simp; with_reducible rfl)
                    rotate_left; · (simp only [Act.put, εm, εn, εo, i64_w, i32_w]; rfl)
                    refine pure_ (i := 14) (N := some 48) (v := ?_) (a' := ?_) ε15 rfl rfl (any_of HT_.out (by kernel_rfl)) (fun _ _ _ h => h) (Or.inl ⟨by rfl, ?_⟩) ?_ ?_
                    rotate_left; · (intro w'; go_simp; with_reducible rfl)
                    rotate_left; · (simp only [Act.put, εm, εn, εo, i64_w, i32_w]; rfl)
                    refine pure_ (i := 16) (N := some 50) (v := ?_) (a' := ?_) ε16 rfl rfl (any_of HT_.out (by kernel_rfl)) (fun _ _ _ h => h) (Or.inl ⟨by rfl, ?_⟩) ?_ ?_
                    rotate_left; · (intro w'; go_simp; with_reducible rfl)
                    rotate_left; · (simp only [Act.put, εm, εn, εo, i64_w, i32_w]; rfl)
                    refine pure_ (i := 17) (N := some 51) (v := ?_) (a' := ?_) ε17 rfl rfl (any_of HT_.out (by kernel_rfl)) (fun _ _ _ h => h) (Or.inl ⟨by rfl, ?_⟩) ?_ ?_
                    rotate_left; · (intro w'; go_simp; with_reducible rfl)
                    rotate_left; · (simp only [Act.put, εm, εn, εo, i64_w, i32_w]; rfl)
                    refine take_ (i := 15) (N := some 49) (v := ?_) (a' := ?_) ε18 rfl rfl (take_ofW HT_.out HW_.out (by kernel_rfl)) (fun _ _ _ h => h) (Or.inl ⟨by rfl, ?_⟩) hHeld ?_ ?_
                    rotate_left
                    ·
                     rintro w' ⟨s0, s1⟩
                     go_simp
                     with_reducible rfl
                    rotate_left
                    ·
                     simp only [Act.put, εm, εn, εo, i64_w, i32_w]
                     rfl
                    refine one_ (i := 18) (N := some 52) ε19 rfl rfl (one_of HT_.out (by kernel_rfl)) (by decide) (fun K hK => ?_)
                    refine goes_ Try.func64 (by kernel_rfl) rfl #[.int .i64 (rd (rd_L1 (rd_L2 l0 x22_1) x30_2) 1), .int .i64 0, .int .i64 (wrap64 (a1 - 1))] (by rfl) rfl rfl (by (try simp only [List.map_toArray, List.map_cons, List.map_nil]); first | done | rfl | (simp only [List.length_drop, List.length_take]; rfl)) ?_
                    with_reducible refine (impl_InRange.calls (rd (rd_L1 (rd_L2 l0 x22_1) x30_2) 1) 0 (wrap64 (a1 - 1)) false _ A25.out).mono ?_
                    rintro e w' ⟨rfl, ⟨nd, rfl⟩⟩
                    refine ⟨_, rfl, ?_⟩
                    refine hK.out _ _ ⟨((HB.out.cell (World.block_lt_of_cell? w _ hw169_0)).trans hw169_0), ((HB.out.cell (World.block_lt_of_cell? w _ hw171_0)).trans hw171_0)⟩ (fun hHeld => ?_)
                    clear hK K
                    refine norm_ (a' := ?_) ?_ ?_
                    rotate_left
                    ·
                     show Act.put _ (some 52) _ = _
                     simp only [Act.put, εm, εn, εo, i64_w, i32_w]
                     rfl
                    refine pure_ (i := 19) (N := some 53) (v := ?_) (a' := ?_) ε20 rfl rfl (any_of HT_.out (by kernel_rfl)) (fun _ _ _ h => h) (Or.inl ⟨by rfl, ?_⟩) ?_ ?_
                    rotate_left; · (intro w'; go_simp; with_reducible rfl)
                    rotate_left; · (simp only [Act.put, εm, εn, εo, i64_w, i32_w]; rfl)
                    refine pure_ (i := 20) (N := some 54) (v := ?_) (a' := ?_) ε21 rfl rfl (any_of HT_.out (by kernel_rfl)) (fun _ _ _ h => h) (Or.inl ⟨by rfl, ?_⟩) ?_ ?_
                    rotate_left; · (intro w'; go_simp; with_reducible rfl)
                    rotate_left; · (simp only [Act.put, εm, εn, εo, i64_w, i32_w]; rfl)
                    refine pure_ (i := 21) (N := some 55) (v := ?_) (a' := ?_) ε22 rfl rfl (any_of HT_.out (by kernel_rfl)) (fun _ _ _ h => h) (Or.inl ⟨by rfl, ?_⟩) ?_ ?_
                    rotate_left; · (intro w'; go_simp; with_reducible rfl)
                    rotate_left; · (simp only [Act.put, εm, εn, εo, i64_w, i32_w]; rfl)
                    refine pure_ (i := 22) (N := some 56) (v := undef) (a' := ?_) ε23 rfl rfl (any_of HT_.out (by kernel_rfl)) (fun _ _ _ h => h) (Or.inr ⟨by rfl, rfl⟩) ?_ ?_
                    rotate_left
                    ·
                     simp only [Act.put, εm, εn, εo, i64_w, i32_w]
                     rfl
                    refine pure_ (i := 23) (N := some 57) (v := undef) (a' := ?_) ε24 rfl rfl (any_of HT_.out (by kernel_rfl)) (fun _ _ _ h => h) (Or.inr ⟨by rfl, rfl⟩) ?_ ?_
                    rotate_left
                    ·
                     simp only [Act.put, εm, εn, εo, i64_w, i32_w]
                     rfl
                    refine pure_ (i := 24) (N := some 58) (v := undef) (a' := ?_) ε84 rfl rfl (any_of HT_.out (by kernel_rfl)) (fun _ _ _ h => h) (Or.inr ⟨by rfl, rfl⟩) ?_ ?_
                    rotate_left
                    ·
                     simp only [Act.put, εm, εn, εo, i64_w, i32_w]
                     rfl
                    refine pure_ (i := 25) (N := some 59) (v := undef) (a' := ?_) ε85 rfl rfl (any_of HT_.out (by kernel_rfl)) (fun _ _ _ h => h) (Or.inr ⟨by rfl, rfl⟩) ?_ ?_
                    rotate_left
                    ·
                     simp only [Act.put, εm, εn, εo, i64_w, i32_w]
                     rfl
                    refine pure_ (i := 26) (N := some 60) (v := undef) (a' := ?_) ε27 rfl rfl (any_of HT_.out (by kernel_rfl)) (fun _ _ _ h => h) (Or.inr ⟨by rfl, rfl⟩) ?_ ?_
                    rotate_left
                    ·
                     simp only [Act.put, εm, εn, εo, i64_w, i32_w]
                     rfl
                    refine pure_ (i := 27) (N := some 61) (v := undef) (a' := ?_) ε28 rfl rfl (any_of HT_.out (by kernel_rfl)) (fun _ _ _ h => h) (Or.inr ⟨by rfl, rfl⟩) ?_ ?_
                    rotate_left
                    ·
                     simp only [Act.put, εm, εn, εo, i64_w, i32_w]
                     rfl
                    refine pure_ (i := 28) (N := some 62) (v := undef) (a' := ?_) ε29 rfl rfl (any_of HT_.out (by kernel_rfl)) (fun _ _ _ h => h) (Or.inr ⟨by rfl, rfl⟩) ?_ ?_
                    rotate_left
                    ·
                     simp only [Act.put, εm, εn, εo, i64_w, i32_w]
                     rfl
                    refine pure_ (i := 29) (N := some 63) (v := ?_) (a' := ?_) ε30 rfl rfl (any_of HT_.out (by kernel_rfl)) (fun _ _ _ h => h) (Or.inl ⟨by rfl, ?_⟩) ?_ ?_
                    rotate_left; · (intro w'; go_simp; with_reducible rfl)
                    rotate_left; · (simp only [Act.put, εm, εn, εo, i64_w, i32_w]; rfl)
                    refine pure_ (i := 30) (N := some 64) (v := ?_) (a' := ?_) ε31 rfl rfl (any_of HT_.out (by kernel_rfl)) (fun _ _ _ h => h) (Or.inl ⟨by rfl, ?_⟩) ?_ ?_
                    rotate_left; · (intro w'; go_simp; with_reducible rfl)
                    rotate_left; · (simp only [Act.put, εm, εn, εo, i64_w, i32_w]; rfl)
                    refine pure_ (i := 31) (N := some 65) (v := undef) (a' := ?_) ε32 rfl rfl (any_of HT_.out (by kernel_rfl)) (fun _ _ _ h => h) (Or.inr ⟨by rfl, rfl⟩) ?_ ?_
                    rotate_left
                    ·
                     simp only [Act.put, εm, εn, εo, i64_w, i32_w]
                     rfl
                    refine pure_ (i := 32) (N := some 66) (v := undef) (a' := ?_) ε33 rfl rfl (any_of HT_.out (by kernel_rfl)) (fun _ _ _ h => h) (Or.inr ⟨by rfl, rfl⟩) ?_ ?_
                    rotate_left
                    ·
                     simp only [Act.put, εm, εn, εo, i64_w, i32_w]
                     rfl
                    refine pure_ (i := 33) (N := some 67) (v := undef) (a' := ?_) ε34 rfl rfl (any_of HT_.out (by kernel_rfl)) (fun _ _ _ h => h) (Or.inr ⟨by rfl, rfl⟩) ?_ ?_
                    rotate_left
                    ·
                     simp only [Act.put, εm, εn, εo, i64_w, i32_w]
                     rfl
                    refine pure_ (i := 34) (N := some 68) (v := undef) (a' := ?_) ε35 rfl rfl (any_of HT_.out (by kernel_rfl)) (fun _ _ _ h => h) (Or.inr ⟨by rfl, rfl⟩) ?_ ?_
                    rotate_left
                    ·
                     simp only [Act.put, εm, εn, εo, i64_w, i32_w]
                     rfl
                    refine pure_ (i := 35) (N := some 69) (v := undef) (a' := ?_) ε36 rfl rfl (any_of HT_.out (by kernel_rfl)) (fun _ _ _ h => h) (Or.inr ⟨by rfl, rfl⟩) ?_ ?_
                    rotate_left
                    ·
                     simp only [Act.put, εm, εn, εo, i64_w, i32_w]
                     rfl
                    refine pure_ (i := 36) (N := some 70) (v := undef) (a' := ?_) ε37 rfl rfl (any_of HT_.out (by kernel_rfl)) (fun _ _ _ h => h) (Or.inr ⟨by rfl, rfl⟩) ?_ ?_
                    rotate_left
                    ·
                     simp only [Act.put, εm, εn, εo, i64_w, i32_w]
                     rfl
                    refine pure_ (i := 37) (N := some 71) (v := ?_) (a' := ?_) ε38 rfl rfl (any_of HT_.out (by kernel_rfl)) (fun _ _ _ h => h) (Or.inl ⟨by rfl, ?_⟩) ?_ ?_
                    rotate_left; · (intro w'; go_simp; with_reducible rfl)
                    rotate_left; · (simp only [Act.put, εm, εn, εo, i64_w, i32_w]; rfl)
                    refine pure_ (i := 38) (N := some 72) (v := ?_) (a' := ?_) ε39 rfl rfl (any_of HT_.out (by kernel_rfl)) (fun _ _ _ h => h) (Or.inl ⟨by rfl, ?_⟩) ?_ ?_
                    rotate_left; · (intro w'; go_simp; with_reducible rfl)
                    rotate_left; · (simp only [Act.put, εm, εn, εo, i64_w, i32_w]; rfl)
                    refine pure_ (i := 39) (N := some 73) (v := undef) (a' := ?_) ε40 rfl rfl (any_of HT_.out (by kernel_rfl)) (fun _ _ _ h => h) (Or.inr ⟨by rfl, rfl⟩) ?_ ?_
                    rotate_left
                    ·
                     simp only [Act.put, εm, εn, εo, i64_w, i32_w]
                     rfl
                    refine pure_ (i := 40) (N := some 74) (v := undef) (a' := ?_) ε41 rfl rfl (any_of HT_.out (by kernel_rfl)) (fun _ _ _ h => h) (Or.inr ⟨by rfl, rfl⟩) ?_ ?_
                    rotate_left
                    ·
                     simp only [Act.put, εm, εn, εo, i64_w, i32_w]
                     rfl
                    refine pure_ (i := 41) (N := some 75) (v := undef) (a' := ?_) ε42 rfl rfl (any_of HT_.out (by kernel_rfl)) (fun _ _ _ h => h) (Or.inr ⟨by rfl, rfl⟩) ?_ ?_
                    rotate_left
                    ·
                     simp only [Act.put, εm, εn, εo, i64_w, i32_w]
                     rfl
                    refine pure_ (i := 42) (N := some 76) (v := undef) (a' := ?_) ε43 rfl rfl (any_of HT_.out (by kernel_rfl)) (fun _ _ _ h => h) (Or.inr ⟨by rfl, rfl⟩) ?_ ?_
                    rotate_left
                    ·
                     simp only [Act.put, εm, εn, εo, i64_w, i32_w]
                     rfl
                    refine pure_ (i := 43) (N := some 77) (v := undef) (a' := ?_) ε44 rfl rfl (any_of HT_.out (by kernel_rfl)) (fun _ _ _ h => h) (Or.inr ⟨by rfl, rfl⟩) ?_ ?_
                    rotate_left
                    ·
                     simp only [Act.put, εm, εn, εo, i64_w, i32_w]
                     rfl
                    refine pure_ (i := 44) (N := some 78) (v := undef) (a' := ?_) ε45 rfl rfl (any_of HT_.out (by kernel_rfl)) (fun _ _ _ h => h) (Or.inr ⟨by rfl, rfl⟩) ?_ ?_
                    rotate_left
                    ·
                     simp only [Act.put, εm, εn, εo, i64_w, i32_w]
                     rfl
                    refine pure_ (i := 45) (N := some 79) (v := ?_) (a' := ?_) ε46 rfl rfl (any_of HT_.out (by kernel_rfl)) (fun _ _ _ h => h) (Or.inl ⟨by rfl, ?_⟩) ?_ ?_
                    rotate_left; · (intro w'; go_simp; with_reducible rfl)
                    rotate_left; · (simp only [Act.put, εm, εn, εo, i64_w, i32_w]; rfl)
                    refine done_ (done_of HT_.out (by kernel_rfl)) ?_
                    try go_wp2
                    go_ret
                    exact ⟨by first | rfl | (simp [errW_none, errW_some] <;> rfl) | (simp only [← hji5]; first | rfl | (simp [errW_none, errW_some] <;> rfl)) | (simp [*, errW_none, errW_some] <;> rfl), by repeat (first | (with_reducible first | exact HB.out | apply εj | apply εh | apply εi) | exact HB.out)⟩
                   rw [if_neg c24] at H
                   exact absurd H (by simp)
                  replace c23 := Bool.eq_false_iff.mpr c23
                  subst c23
                  have H1 : (some false) = some r := by rw [if_neg (show ¬ (false = true) by decide)] at H; exact H
                  clear H
                  have H := H1
                  clear H1
                  obtain rfl := Option.some.inj H
                  have p168 : 0 ≤ (x30_2 : Int) := of_decide_eq_true (by first | (with_reducible assumption) | assumption)
                  have q168 : x30_2 < ((rd_L2 l0 x22_1).length : Int) := of_decide_eq_true (by first | (with_reducible assumption) | assumption)
                  obtain ⟨ad168, A168_0, c168_0, e168, hx168_0, hl168_0, hi168_0⟩ := at_L1 HR164_0.out x30_2 p168 q168
                  cases e168
                  (try (replace hx168_0 := (HB.out.cell (World.block_lt_of_cell? w _ hx168_0)).trans hx168_0))
                  have HR168_0 := εp hi168_0
                  have HC168_0 := εp hl168_0
                  clear hi168_0 hl168_0
                  replace p168 := eq_true p168
                  replace q168 := eq_true q168
                  try go_wp2
                  have n0_ := εp (εf HO_5.out)
                  have n1_ := εp (εf HO_8.out)
                  have n2_ := εp (εi HB.out)
                  clear HO_5
                  clear HO_8
                  clear HB
                  have HO_5 := n0_
                  have HO_8 := n1_
                  have HB := n2_
                  clear n0_ n1_ n2_
                  have p169 : 0 ≤ (0 : Int) := (by omega)
                  have q169 : 0 < ((rd_L1 (rd_L2 l0 x22_1) x30_2).length : Int) := of_decide_eq_true (by first | (with_reducible assumption) | assumption)
                  obtain ⟨ad169, e169, hx169_0⟩ := Kd.at_int HR168_0.out 0 p169 q169
                  have hw169_0 := hx169_0
                  (try rw [show ((0 : Int)).toNat = 0 from rfl] at hw169_0)
                  (try rw [show 0 * 1 = 0 from rfl] at hw169_0)
                  (try rw [Addr.add_zero'] at hw169_0)
                  cases e169
                  have qi169 : (0 < (rd_L1 (rd_L2 l0 x22_1) x30_2).length) = True := eq_true (by omega)
                  (try rw [show ((0 : Int)).toNat = 0 from rfl] at hx169_0)
                  (try rw [Addr.add_zero'] at hx169_0)
                  (try (replace hx169_0 := (HB.out.cell (World.block_lt_of_cell? w _ hx169_0)).trans hx169_0))
                  replace p169 := eq_true p169
                  replace q169 := eq_true q169
                  refine start_ (n := 46) (S := fun w' => w'.cell? ad169 = some (.int .i64 (rd (rd_L1 (rd_L2 l0 x22_1) x30_2) 0))) (ds := []) ε0 (by kernel_rfl) rfl rfl (((HB.out.cell (World.block_lt_of_cell? w _ hw169_0)).trans hw169_0)) (fun hHeld => ?_); refine with_tabW impl_MeetOnce.tab11 impl_MeetOnce.bits11 (fun HT_ HW_ => ?_)
                  generalize wr.drew = w59 at HO_5 HO_8 HB hx169_0 hHeld ⊢
                  refine pure_ (i := 0) (N := some 34) (v := ?_) (a' := ?_) ε1 rfl rfl (any_of HT_.out (by kernel_rfl)) (fun _ _ _ h => h) (Or.inl ⟨by rfl, ?_⟩) ?_ ?_
                  rotate_left; · (intro w'; go_simp; with_reducible rfl)
                  rotate_left; · (simp only [Act.put, εm, εn, εo, i64_w, i32_w]; rfl)
                  refine pure_ (i := 1) (N := some 35) (v := ?_) (a' := ?_) ε2 rfl rfl (any_of HT_.out (by kernel_rfl)) (fun _ _ _ h => h) (Or.inl ⟨by rfl, ?_⟩) ?_ ?_
                  rotate_left; · (intro w'; go_simp; with_reducible rfl)
                  rotate_left; · (simp only [Act.put, εm, εn, εo, i64_w, i32_w]; rfl)
                  refine pure_ (i := 2) (N := some 36) (v := ?_) (a' := ?_) ε3 rfl rfl (any_of HT_.out (by kernel_rfl)) (fun _ _ _ h => h) (Or.inl ⟨by rfl, ?_⟩) ?_ ?_
                  rotate_left; · (intro w'; go_simp; with_reducible rfl)
                  rotate_left; · (simp only [Act.put, εm, εn, εo, i64_w, i32_w]; rfl)
                  refine pure_ (i := 3) (N := some 37) (v := ?_) (a' := ?_) ε4 rfl rfl (any_of HT_.out (by kernel_rfl)) (fun _ _ _ h => h) (Or.inl ⟨by rfl, ?_⟩) ?_ ?_
                  rotate_left; · (intro w'; go_simp; with_reducible rfl)
                  rotate_left; · (simp only [Act.put, εm, εn, εo, i64_w, i32_w]; rfl)
                  refine pure_ (i := 4) (N := some 38) (v := ?_) (a' := ?_) ε5 rfl rfl (any_of HT_.out (by kernel_rfl)) (fun _ _ _ h => h) (Or.inl ⟨by rfl, ?_⟩) ?_ ?_
                  rotate_left; · (intro w'; go_simp; with_reducible rfl)
                  rotate_left; · (simp only [Act.put, εm, εn, εo, i64_w, i32_w]; rfl)
                  refine pure_ (i := 5) (N := some 39) (v := ?_) (a' := ?_) ε6 rfl rfl (any_of HT_.out (by kernel_rfl)) (fun _ _ _ h => h) (Or.inl ⟨by rfl, ?_⟩) ?_ ?_
                  rotate_left; · (intro w'; go_simp; with_reducible rfl)
                  rotate_left; · (simp only [Act.put, εm, εn, εo, i64_w, i32_w]; rfl)
                  refine pure_ (i := 7) (N := some 41) (v := ?_) (a' := ?_) ε7 rfl rfl (any_of HT_.out (by kernel_rfl)) (fun _ _ _ h => h) (Or.inl ⟨by rfl, ?_⟩) ?_ ?_
                  rotate_left; · (intro w'; go_simp; with_reducible rfl)
                  rotate_left; · (simp only [Act.put, εm, εn, εo, i64_w, i32_w]; rfl)
                  refine pure_ (i := 8) (N := some 42) (v := ?_) (a' := ?_) ε8 rfl rfl (any_of HT_.out (by kernel_rfl)) (fun _ _ _ h => h) (Or.inl ⟨by rfl, ?_⟩) ?_ ?_
                  rotate_left; · (intro w'; go_simp; with_reducible rfl)
                  rotate_left; · (simp only [Act.put, εm, εn, εo, i64_w, i32_w]; rfl)
                  refine take_ (i := 6) (N := some 40) (v := ?_) (a' := ?_) ε9 rfl rfl (take_ofW HT_.out HW_.out (by kernel_rfl)) (fun _ _ _ h => h) (Or.inl ⟨by rfl, ?_⟩) hHeld ?_ ?_
                  rotate_left
                  ·
                   intro w' s0
                   go_simp
                   with_reducible rfl
                  rotate_left
                  ·
                   simp only [Act.put, εm, εn, εo, i64_w, i32_w]
                   rfl
                  refine one_ (i := 9) (N := some 43) ε10 rfl rfl (one_of HT_.out (by kernel_rfl)) (by decide) (fun K hK => ?_)
                  refine goes_ Try.func64 (by kernel_rfl) rfl #[.int .i64 (rd (rd_L1 (rd_L2 l0 x22_1) x30_2) 0), .int .i64 0, .int .i64 (wrap64 (a1 - 1))] (by rfl) rfl rfl (by (try simp only [List.map_toArray, List.map_cons, List.map_nil]); first | done | rfl | (simp only [List.length_drop, List.length_take]; rfl)) ?_
                  with_reducible refine (impl_InRange.calls (rd (rd_L1 (rd_L2 l0 x22_1) x30_2) 0) 0 (wrap64 (a1 - 1)) false _ A22.out).mono ?_
                  rintro e w' ⟨rfl, ⟨nd, rfl⟩⟩
                  refine ⟨_, rfl, ?_⟩
                  refine hK.out _ _ (((HB.out.cell (World.block_lt_of_cell? w _ hw169_0)).trans hw169_0)) (fun hHeld => ?_)
                  clear hK K
                  refine norm_ (a' := ?_) ?_ ?_
                  rotate_left
                  ·
                   show Act.put _ (some 43) _ = _
                   simp only [Act.put, εm, εn, εo, i64_w, i32_w]
                   rfl
                  refine pure_ (i := 10) (N := some 44) (v := ?_) (a' := ?_) ε11 rfl rfl (any_of HT_.out (by kernel_rfl)) (fun _ _ _ h => h) (Or.inl ⟨by rfl, ?_⟩) ?_ ?_
                  rotate_left; · (intro w'; go_simp; with_reducible rfl)
                  rotate_left; · (simp only [Act.put, εm, εn, εo, i64_w, i32_w]; rfl)
                  refine pure_ (i := 11) (N := some 45) (v := ?_) (a' := ?_) ε12 rfl rfl (any_of HT_.out (by kernel_rfl)) (fun _ _ _ h => h) (Or.inl ⟨by rfl, ?_⟩) ?_ ?_
                  rotate_left; · (intro w'; go_simp; with_reducible rfl)
                  rotate_left; · (simp only [Act.put, εm, εn, εo, i64_w, i32_w]; rfl)
                  refine pure_ (i := 12) (N := some 46) (v := ?_) (a' := ?_) ε13 rfl rfl (any_of HT_.out (by kernel_rfl)) (fun _ _ _ h => h) (Or.inl ⟨by rfl, ?_⟩) ?_ ?_
                  rotate_left; · (intro w'; go_simp; with_reducible rfl)
                  rotate_left; · (simp only [Act.put, εm, εn, εo, i64_w, i32_w]; rfl)
                  refine pure_ (i := 13) (N := some 47) (v := undef) (a' := ?_) ε14 rfl rfl (any_of HT_.out (by kernel_rfl)) (fun _ _ _ h => h) (Or.inr ⟨by rfl, rfl⟩) ?_ ?_
                  rotate_left
                  ·
                   simp only [Act.put, εm, εn, εo, i64_w, i32_w]
                   rfl
                  refine pure_ (i := 14) (N := some 48) (v := undef) (a' := ?_) ε15 rfl rfl (any_of HT_.out (by kernel_rfl)) (fun _ _ _ h => h) (Or.inr ⟨by rfl, rfl⟩) ?_ ?_
                  rotate_left
                  ·
                   simp only [Act.put, εm, εn, εo, i64_w, i32_w]
                   rfl
                  refine pure_ (i := 15) (N := some 49) (v := undef) (a' := ?_) ε86 rfl rfl (any_of HT_.out (by kernel_rfl)) (fun _ _ _ h => h) (Or.inr ⟨by rfl, rfl⟩) ?_ ?_
                  rotate_left
                  ·
                   simp only [Act.put, εm, εn, εo, i64_w, i32_w]
                   rfl
                  refine pure_ (i := 16) (N := some 50) (v := undef) (a' := ?_) ε87 rfl rfl (any_of HT_.out (by kernel_rfl)) (fun _ _ _ h => h) (Or.inr ⟨by rfl, rfl⟩) ?_ ?_
                  rotate_left
                  ·
                   simp only [Act.put, εm, εn, εo, i64_w, i32_w]
                   rfl
                  refine pure_ (i := 17) (N := some 51) (v := undef) (a' := ?_) ε18 rfl rfl (any_of HT_.out (by kernel_rfl)) (fun _ _ _ h => h) (Or.inr ⟨by rfl, rfl⟩) ?_ ?_
                  rotate_left
                  ·
                   simp only [Act.put, εm, εn, εo, i64_w, i32_w]
                   rfl
                  refine pure_ (i := 18) (N := some 52) (v := undef) (a' := ?_) ε19 rfl rfl (any_of HT_.out (by kernel_rfl)) (fun _ _ _ h => h) (Or.inr ⟨by rfl, rfl⟩) ?_ ?_
                  rotate_left
                  ·
                   simp only [Act.put, εm, εn, εo, i64_w, i32_w]
                   rfl
                  refine pure_ (i := 19) (N := some 53) (v := undef) (a' := ?_) ε20 rfl rfl (any_of HT_.out (by kernel_rfl)) (fun _ _ _ h => h) (Or.inr ⟨by rfl, rfl⟩) ?_ ?_
                  rotate_left
                  ·
                   simp only [Act.put, εm, εn, εo, i64_w, i32_w]
                   rfl
                  refine pure_ (i := 20) (N := some 54) (v := ?_) (a' := ?_) ε21 rfl rfl (any_of HT_.out (by kernel_rfl)) (fun _ _ _ h => h) (Or.inl ⟨by rfl, ?_⟩) ?_ ?_
                  rotate_left; · (intro w'; go_simp; with_reducible rfl)
                  rotate_left; · (simp only [Act.put, εm, εn, εo, i64_w, i32_w]; rfl)
                  refine pure_ (i := 21) (N := some 55) (v := ?_) (a' := ?_) ε22 rfl rfl (any_of HT_.out (by kernel_rfl)) (fun _ _ _ h => h) (Or.inl ⟨by rfl, ?_⟩) ?_ ?_
                  rotate_left; · (intro w'; go_simp; with_reducible rfl)
                  rotate_left; · (simp only [Act.put, εm, εn, εo, i64_w, i32_w]; rfl)
                  refine pure_ (i := 22) (N := some 56) (v := undef) (a' := ?_) ε23 rfl rfl (any_of HT_.out (by kernel_rfl)) (fun _ _ _ h => h) (Or.inr ⟨by rfl, rfl⟩) ?_ ?_
                  rotate_left
                  ·
                   simp only [Act.put, εm, εn, εo, i64_w, i32_w]
                   rfl
                  refine pure_ (i := 23) (N := some 57) (v := undef) (a' := ?_) ε24 rfl rfl (any_of HT_.out (by kernel_rfl)) (fun _ _ _ h => h) (Or.inr ⟨by rfl, rfl⟩) ?_ ?_
                  rotate_left
                  ·
                   simp only [Act.put, εm, εn, εo, i64_w, i32_w]
                   rfl
                  refine pure_ (i := 24) (N := some 58) (v := undef) (a' := ?_) ε84 rfl rfl (any_of HT_.out (by kernel_rfl)) (fun _ _ _ h => h) (Or.inr ⟨by rfl, rfl⟩) ?_ ?_
                  rotate_left
                  ·
                   simp only [Act.put, εm, εn, εo, i64_w, i32_w]
                   rfl
                  refine pure_ (i := 25) (N := some 59) (v := undef) (a' := ?_) ε85 rfl rfl (any_of HT_.out (by kernel_rfl)) (fun _ _ _ h => h) (Or.inr ⟨by rfl, rfl⟩) ?_ ?_
                  rotate_left
                  ·
                   simp only [Act.put, εm, εn, εo, i64_w, i32_w]
                   rfl
                  refine pure_ (i := 26) (N := some 60) (v := undef) (a' := ?_) ε27 rfl rfl (any_of HT_.out (by kernel_rfl)) (fun _ _ _ h => h) (Or.inr ⟨by rfl, rfl⟩) ?_ ?_
                  rotate_left
                  ·
                   simp only [Act.put, εm, εn, εo, i64_w, i32_w]
                   rfl
                  refine pure_ (i := 27) (N := some 61) (v := undef) (a' := ?_) ε28 rfl rfl (any_of HT_.out (by kernel_rfl)) (fun _ _ _ h => h) (Or.inr ⟨by rfl, rfl⟩) ?_ ?_
                  rotate_left
                  ·
                   simp only [Act.put, εm, εn, εo, i64_w, i32_w]
                   rfl
                  refine pure_ (i := 28) (N := some 62) (v := undef) (a' := ?_) ε29 rfl rfl (any_of HT_.out (by kernel_rfl)) (fun _ _ _ h => h) (Or.inr ⟨by rfl, rfl⟩) ?_ ?_
                  rotate_left
                  ·
                   simp only [Act.put, εm, εn, εo, i64_w, i32_w]
                   rfl
                  refine pure_ (i := 29) (N := some 63) (v := ?_) (a' := ?_) ε30 rfl rfl (any_of HT_.out (by kernel_rfl)) (fun _ _ _ h => h) (Or.inl ⟨by rfl, ?_⟩) ?_ ?_
                  rotate_left; · (intro w'; go_simp; with_reducible rfl)
                  rotate_left; · (simp only [Act.put, εm, εn, εo, i64_w, i32_w]; rfl)
                  refine pure_ (i := 30) (N := some 64) (v := ?_) (a' := ?_) ε31 rfl rfl (any_of HT_.out (by kernel_rfl)) (fun _ _ _ h => h) (Or.inl ⟨by rfl, ?_⟩) ?_ ?_
                  rotate_left; · (intro w'; go_simp; with_reducible rfl)
                  rotate_left; · (simp only [Act.put, εm, εn, εo, i64_w, i32_w]; rfl)
                  refine pure_ (i := 31) (N := some 65) (v := undef) (a' := ?_) ε32 rfl rfl (any_of HT_.out (by kernel_rfl)) (fun _ _ _ h => h) (Or.inr ⟨by rfl, rfl⟩) ?_ ?_
                  rotate_left
                  ·
                   simp only [Act.put, εm, εn, εo, i64_w, i32_w]
                   rfl
                  refine pure_ (i := 32) (N := some 66) (v := undef) (a' := ?_) ε33 rfl rfl (any_of HT_.out (by kernel_rfl)) (fun _ _ _ h => h) (Or.inr ⟨by rfl, rfl⟩) ?_ ?_
                  rotate_left
                  ·
                   simp only [Act.put, εm, εn, εo, i64_w, i32_w]
                   rfl
                  refine pure_ (i := 33) (N := some 67) (v := undef) (a' := ?_) ε34 rfl rfl (any_of HT_.out (by kernel_rfl)) (fun _ _ _ h => h) (Or.inr ⟨by rfl, rfl⟩) ?_ ?_
                  rotate_left
                  ·
                   simp only [Act.put, εm, εn, εo, i64_w, i32_w]
                   rfl
                  refine pure_ (i := 34) (N := some 68) (v := undef) (a' := ?_) ε35 rfl rfl (any_of HT_.out (by kernel_rfl)) (fun _ _ _ h => h) (Or.inr ⟨by rfl, rfl⟩) ?_ ?_
                  rotate_left
                  ·
                   simp only [Act.put, εm, εn, εo, i64_w, i32_w]
                   rfl
                  refine pure_ (i := 35) (N := some 69) (v := undef) (a' := ?_) ε36 rfl rfl (any_of HT_.out (by kernel_rfl)) (fun _ _ _ h => h) (Or.inr ⟨by rfl, rfl⟩) ?_ ?_
                  rotate_left
                  ·
                   simp only [Act.put, εm, εn, εo, i64_w, i32_w]
                   rfl
                  refine pure_ (i := 36) (N := some 70) (v := undef) (a' := ?_) ε37 rfl rfl (any_of HT_.out (by kernel_rfl)) (fun _ _ _ h => h) (Or.inr ⟨by rfl, rfl⟩) ?_ ?_
                  rotate_left
                  ·
                   simp only [Act.put, εm, εn, εo, i64_w, i32_w]
                   rfl
                  refine pure_ (i := 37) (N := some 71) (v := ?_) (a' := ?_) ε38 rfl rfl (any_of HT_.out (by kernel_rfl)) (fun _ _ _ h => h) (Or.inl ⟨by rfl, ?_⟩) ?_ ?_
                  rotate_left; · (intro w'; go_simp; with_reducible rfl)
                  rotate_left; · (simp only [Act.put, εm, εn, εo, i64_w, i32_w]; rfl)
                  refine pure_ (i := 38) (N := some 72) (v := ?_) (a' := ?_) ε39 rfl rfl (any_of HT_.out (by kernel_rfl)) (fun _ _ _ h => h) (Or.inl ⟨by rfl, ?_⟩) ?_ ?_
                  rotate_left; · (intro w'; go_simp; with_reducible rfl)
                  rotate_left; · (simp only [Act.put, εm, εn, εo, i64_w, i32_w]; rfl)
                  refine pure_ (i := 39) (N := some 73) (v := undef) (a' := ?_) ε40 rfl rfl (any_of HT_.out (by kernel_rfl)) (fun _ _ _ h => h) (Or.inr ⟨by rfl, rfl⟩) ?_ ?_
                  rotate_left
                  ·
                   simp only [Act.put, εm, εn, εo, i64_w, i32_w]
                   rfl
                  refine pure_ (i := 40) (N := some 74) (v := undef) (a' := ?_) ε41 rfl rfl (any_of HT_.out (by kernel_rfl)) (fun _ _ _ h => h) (Or.inr ⟨by rfl, rfl⟩) ?_ ?_
                  rotate_left
                  ·
                   simp only [Act.put, εm, εn, εo, i64_w, i32_w]
                   rfl
                  refine pure_ (i := 41) (N := some 75) (v := undef) (a' := ?_) ε42 rfl rfl (any_of HT_.out (by kernel_rfl)) (fun _ _ _ h => h) (Or.inr ⟨by rfl, rfl⟩) ?_ ?_
                  rotate_left
                  ·
                   simp only [Act.put, εm, εn, εo, i64_w, i32_w]
                   rfl
                  refine pure_ (i := 42) (N := some 76) (v := undef) (a' := ?_) ε43 rfl rfl (any_of HT_.out (by kernel_rfl)) (fun _ _ _ h => h) (Or.inr ⟨by rfl, rfl⟩) ?_ ?_
                  rotate_left
                  ·
                   simp only [Act.put, εm, εn, εo, i64_w, i32_w]
                   rfl
                  refine pure_ (i := 43) (N := some 77) (v := undef) (a' := ?_) ε44 rfl rfl (any_of HT_.out (by kernel_rfl)) (fun _ _ _ h => h) (Or.inr ⟨by rfl, rfl⟩) ?_ ?_
                  rotate_left
                  ·
                   simp only [Act.put, εm, εn, εo, i64_w, i32_w]
                   rfl
                  refine pure_ (i := 44) (N := some 78) (v := undef) (a' := ?_) ε45 rfl rfl (any_of HT_.out (by kernel_rfl)) (fun _ _ _ h => h) (Or.inr ⟨by rfl, rfl⟩) ?_ ?_
                  rotate_left
                  ·
                   simp only [Act.put, εm, εn, εo, i64_w, i32_w]
                   rfl
                  refine pure_ (i := 45) (N := some 79) (v := ?_) (a' := ?_) ε46 rfl rfl (any_of HT_.out (by kernel_rfl)) (fun _ _ _ h => h) (Or.inl ⟨by rfl, ?_⟩) ?_ ?_
                  rotate_left; · (intro w'; go_simp; with_reducible rfl)
                  rotate_left; · (simp only [Act.put, εm, εn, εo, i64_w, i32_w]; rfl)
                  refine done_ (done_of HT_.out (by kernel_rfl)) ?_
                  try go_wp2
                  go_ret
                  exact ⟨by first | rfl | (simp [errW_none, errW_some] <;> rfl) | (simp only [← hji5]; first | rfl | (simp [errW_none, errW_some] <;> rfl)) | (simp [*, errW_none, errW_some] <;> rfl), by repeat (first | (with_reducible first | exact HB.out | apply εj | apply εh | apply εi) | exact HB.out)⟩
                 rw [if_neg c21] at H
                 exact absurd H (by simp)
                rw [if_neg c20] at H
                have c20b0 : (((rd_L1 (rd_L2 l0 x22_1) x30_2).length : Int) == 2) = false := beq_eq_false_iff_ne.mpr c20
                have c20b1 : (((rd_L1 (rd_L2 l0 x22_1) x30_2).length : Int) != 2) = true := bne_iff_ne.mpr c20
                obtain rfl := Option.some.inj H
                have p168 : 0 ≤ (x30_2 : Int) := of_decide_eq_true (by first | (with_reducible assumption) | assumption)
                have q168 : x30_2 < ((rd_L2 l0 x22_1).length : Int) := of_decide_eq_true (by first | (with_reducible assumption) | assumption)
                obtain ⟨ad168, A168_0, c168_0, e168, hx168_0, hl168_0, hi168_0⟩ := at_L1 HR164_0.out x30_2 p168 q168
                cases e168
                (try (replace hx168_0 := (HB.out.cell (World.block_lt_of_cell? w _ hx168_0)).trans hx168_0))
                have HR168_0 := εp hi168_0
                have HC168_0 := εp hl168_0
                clear hi168_0 hl168_0
                replace p168 := eq_true p168
                replace q168 := eq_true q168
                try go_wp2
                have n0_ := εp (εf HO_5.out)
                have n1_ := εp (εf HO_8.out)
                have n2_ := εp (εi HB.out)
                clear HO_5
                clear HO_8
                clear HB
                have HO_5 := n0_
                have HO_8 := n1_
                have HB := n2_
                clear n0_ n1_ n2_
                refine start_ (n := 46) (S := fun w' => True) (ds := []) ε0 (by kernel_rfl) rfl rfl trivial (fun hHeld => ?_); refine with_tabW impl_MeetOnce.tab11 impl_MeetOnce.bits11 (fun HT_ HW_ => ?_)
                generalize wr.drew = w60 at HO_5 HO_8 HB hHeld ⊢
                refine pure_ (i := 0) (N := some 34) (v := ?_) (a' := ?_) ε1 rfl rfl (any_of HT_.out (by kernel_rfl)) (fun _ _ _ h => h) (Or.inl ⟨by rfl, ?_⟩) ?_ ?_
                rotate_left; · (intro w'; go_simp; with_reducible rfl)
                rotate_left; · (simp only [Act.put, εm, εn, εo, i64_w, i32_w]; rfl)
                refine pure_ (i := 1) (N := some 35) (v := ?_) (a' := ?_) ε2 rfl rfl (any_of HT_.out (by kernel_rfl)) (fun _ _ _ h => h) (Or.inl ⟨by rfl, ?_⟩) ?_ ?_
                rotate_left; · (intro w'; go_simp; with_reducible rfl)
                rotate_left; · (simp only [Act.put, εm, εn, εo, i64_w, i32_w]; rfl)
                refine pure_ (i := 2) (N := some 36) (v := ?_) (a' := ?_) ε3 rfl rfl (any_of HT_.out (by kernel_rfl)) (fun _ _ _ h => h) (Or.inl ⟨by rfl, ?_⟩) ?_ ?_
                rotate_left; · (intro w'; go_simp; with_reducible rfl)
                rotate_left; · (simp only [Act.put, εm, εn, εo, i64_w, i32_w]; rfl)
                refine pure_ (i := 3) (N := some 37) (v := ?_) (a' := ?_) ε4 rfl rfl (any_of HT_.out (by kernel_rfl)) (fun _ _ _ h => h) (Or.inl ⟨by rfl, ?_⟩) ?_ ?_
                rotate_left; · (intro w'; go_simp; with_reducible rfl)
                rotate_left; · (simp only [Act.put, εm, εn, εo, i64_w, i32_w]; rfl)
                refine pure_ (i := 4) (N := some 38) (v := undef) (a' := ?_) ε5 rfl rfl (any_of HT_.out (by kernel_rfl)) (fun _ _ _ h => h) (Or.inr ⟨by rfl, rfl⟩) ?_ ?_
                rotate_left
                ·
                 simp only [Act.put, εm, εn, εo, i64_w, i32_w]
                 rfl
                refine pure_ (i := 5) (N := some 39) (v := undef) (a' := ?_) ε6 rfl rfl (any_of HT_.out (by kernel_rfl)) (fun _ _ _ h => h) (Or.inr ⟨by rfl, rfl⟩) ?_ ?_
                rotate_left
                ·
                 simp only [Act.put, εm, εn, εo, i64_w, i32_w]
                 rfl
                refine pure_ (i := 6) (N := some 40) (v := undef) (a' := ?_) ε88 rfl rfl (any_of HT_.out (by kernel_rfl)) (fun _ _ _ h => h) (Or.inr ⟨by rfl, rfl⟩) ?_ ?_
                rotate_left
                ·
                 simp only [Act.put, εm, εn, εo, i64_w, i32_w]
                 rfl
                refine pure_ (i := 7) (N := some 41) (v := undef) (a' := ?_) ε89 rfl rfl (any_of HT_.out (by kernel_rfl)) (fun _ _ _ h => h) (Or.inr ⟨by rfl, rfl⟩) ?_ ?_
                rotate_left
                ·
                 simp only [Act.put, εm, εn, εo, i64_w, i32_w]
                 rfl
                refine pure_ (i := 8) (N := some 42) (v := undef) (a' := ?_) ε9 rfl rfl (any_of HT_.out (by kernel_rfl)) (fun _ _ _ h => h) (Or.inr ⟨by rfl, rfl⟩) ?_ ?_
                rotate_left
                ·
                 simp only [Act.put, εm, εn, εo, i64_w, i32_w]
                 rfl
                refine pure_ (i := 9) (N := some 43) (v := undef) (a' := ?_) ε10 rfl rfl (any_of HT_.out (by kernel_rfl)) (fun _ _ _ h => h) (Or.inr ⟨by rfl, rfl⟩) ?_ ?_
                rotate_left
                ·
                 simp only [Act.put, εm, εn, εo, i64_w, i32_w]
                 rfl
                refine pure_ (i := 10) (N := some 44) (v := undef) (a' := ?_) ε11 rfl rfl (any_of HT_.out (by kernel_rfl)) (fun _ _ _ h => h) (Or.inr ⟨by rfl, rfl⟩) ?_ ?_
                rotate_left
                ·
                 simp only [Act.put, εm, εn, εo, i64_w, i32_w]
                 rfl
                refine pure_ (i := 11) (N := some 45) (v := ?_) (a' := ?_) ε12 rfl rfl (any_of HT_.out (by kernel_rfl)) (fun _ _ _ h => h) (Or.inl ⟨by rfl, ?_⟩) ?_ ?_
                rotate_left; · (intro w'; go_simp; with_reducible rfl)
                rotate_left; · (simp only [Act.put, εm, εn, εo, i64_w, i32_w]; rfl)
                refine pure_ (i := 12) (N := some 46) (v := ?_) (a' := ?_) ε13 rfl rfl (any_of HT_.out (by kernel_rfl)) (fun _ _ _ h => h) (Or.inl ⟨by rfl, ?_⟩) ?_ ?_
                rotate_left; · (intro w'; go_simp; with_reducible rfl)
                rotate_left; · (simp only [Act.put, εm, εn, εo, i64_w, i32_w]; rfl)
                refine pure_ (i := 13) (N := some 47) (v := undef) (a' := ?_) ε14 rfl rfl (any_of HT_.out (by kernel_rfl)) (fun _ _ _ h => h) (Or.inr ⟨by rfl, rfl⟩) ?_ ?_
                rotate_left
                ·
                 simp only [Act.put, εm, εn, εo, i64_w, i32_w]
                 rfl
                refine pure_ (i := 14) (N := some 48) (v := undef) (a' := ?_) ε15 rfl rfl (any_of HT_.out (by kernel_rfl)) (fun _ _ _ h => h) (Or.inr ⟨by rfl, rfl⟩) ?_ ?_
                rotate_left
                ·
                 simp only [Act.put, εm, εn, εo, i64_w, i32_w]
                 rfl
                refine pure_ (i := 15) (N := some 49) (v := undef) (a' := ?_) ε86 rfl rfl (any_of HT_.out (by kernel_rfl)) (fun _ _ _ h => h) (Or.inr ⟨by rfl, rfl⟩) ?_ ?_
                rotate_left
                ·
                 simp only [Act.put, εm, εn, εo, i64_w, i32_w]
                 rfl
                refine pure_ (i := 16) (N := some 50) (v := undef) (a' := ?_) ε87 rfl rfl (any_of HT_.out (by kernel_rfl)) (fun _ _ _ h => h) (Or.inr ⟨by rfl, rfl⟩) ?_ ?_
                rotate_left
                ·
                 simp only [Act.put, εm, εn, εo, i64_w, i32_w]
                 rfl
                refine pure_ (i := 17) (N := some 51) (v := undef) (a' := ?_) ε18 rfl rfl (any_of HT_.out (by kernel_rfl)) (fun _ _ _ h => h) (Or.inr ⟨by rfl, rfl⟩) ?_ ?_
                rotate_left
                ·
                 simp only [Act.put, εm, εn, εo, i64_w, i32_w]
                 rfl
                refine pure_ (i := 18) (N := some 52) (v := undef) (a' := ?_) ε19 rfl rfl (any_of HT_.out (by kernel_rfl)) (fun _ _ _ h => h) (Or.inr ⟨by rfl, rfl⟩) ?_ ?_
                rotate_left
                ·
                 simp only [Act.put, εm, εn, εo, i64_w, i32_w]
                 rfl
                refine pure_ (i := 19) (N := some 53) (v := undef) (a' := ?_) ε20 rfl rfl (any_of HT_.out (by kernel_rfl)) (fun _ _ _ h => h) (Or.inr ⟨by rfl, rfl⟩) ?_ ?_
                rotate_left
                ·
                 simp only [Act.put, εm, εn, εo, i64_w, i32_w]
                 rfl
                refine pure_ (i := 20) (N := some 54) (v := ?_) (a' := ?_) ε21 rfl rfl (any_of HT_.out (by kernel_rfl)) (fun _ _ _ h => h) (Or.inl ⟨by rfl, ?_⟩) ?_ ?_
                rotate_left; · (intro w'; go_simp; with_reducible rfl)
                rotate_left; · (simp only [Act.put, εm, εn, εo, i64_w, i32_w]; rfl)
                refine pure_ (i := 21) (N := some 55) (v := ?_) (a' := ?_) ε22 rfl rfl (any_of HT_.out (by kernel_rfl)) (fun _ _ _ h => h) (Or.inl ⟨by rfl, ?_⟩) ?_ ?_
                rotate_left; · (intro w'; go_simp; with_reducible rfl)
                rotate_left; · (simp only [Act.put, εm, εn, εo, i64_w, i32_w]; rfl)
                refine pure_ (i := 22) (N := some 56) (v := undef) (a' := ?_) ε23 rfl rfl (any_of HT_.out (by kernel_rfl)) (fun _ _ _ h => h) (Or.inr ⟨by rfl, rfl⟩) ?_ ?_
                rotate_left
                ·
                 simp only [Act.put, εm, εn, εo, i64_w, i32_w]
                 rfl
                refine pure_ (i := 23) (N := some 57) (v := undef) (a' := ?_) ε24 rfl rfl (any_of HT_.out (by kernel_rfl)) (fun _ _ _ h => h) (Or.inr ⟨by rfl, rfl⟩) ?_ ?_
                rotate_left
                ·
                 simp only [Act.put, εm, εn, εo, i64_w, i32_w]
                 rfl
                refine pure_ (i := 24) (N := some 58) (v := undef) (a' := ?_) ε84 rfl rfl (any_of HT_.out (by kernel_rfl)) (fun _ _ _ h => h) (Or.inr ⟨by rfl, rfl⟩) ?_ ?_
                rotate_left
                ·
                 simp only [Act.put, εm, εn, εo, i64_w, i32_w]
                 rfl
                refine pure_ (i := 25) (N := some 59) (v := undef) (a' := ?_) ε85 rfl rfl (any_of HT_.out (by kernel_rfl)) (fun _ _ _ h => h) (Or.inr ⟨by rfl, rfl⟩) ?_ ?_
                rotate_left
                ·
                 simp only [Act.put, εm, εn, εo, i64_w, i32_w]
                 rfl
                refine pure_ (i := 26) (N := some 60) (v := undef) (a' := ?_) ε27 rfl rfl (any_of HT_.out (by kernel_rfl)) (fun _ _ _ h => h) (Or.inr ⟨by rfl, rfl⟩) ?_ ?_
                rotate_left
                ·
                 simp only [Act.put, εm, εn, εo, i64_w, i32_w]
                 rfl
                refine pure_ (i := 27) (N := some 61) (v := undef) (a' := ?_) ε28 rfl rfl (any_of HT_.out (by kernel_rfl)) (fun _ _ _ h => h) (Or.inr ⟨by rfl, rfl⟩) ?_ ?_
                rotate_left
                ·
                 simp only [Act.put, εm, εn, εo, i64_w, i32_w]
                 rfl
                refine pure_ (i := 28) (N := some 62) (v := undef) (a' := ?_) ε29 rfl rfl (any_of HT_.out (by kernel_rfl)) (fun _ _ _ h => h) (Or.inr ⟨by rfl, rfl⟩) ?_ ?_
                rotate_left
                ·
                 simp only [Act.put, εm, εn, εo, i64_w, i32_w]
                 rfl
                refine pure_ (i := 29) (N := some 63) (v := ?_) (a' := ?_) ε30 rfl rfl (any_of HT_.out (by kernel_rfl)) (fun _ _ _ h => h) (Or.inl ⟨by rfl, ?_⟩) ?_ ?_
                rotate_left; · (intro w'; go_simp; with_reducible rfl)
                rotate_left; · (simp only [Act.put, εm, εn, εo, i64_w, i32_w]; rfl)
                refine pure_ (i := 30) (N := some 64) (v := ?_) (a' := ?_) ε31 rfl rfl (any_of HT_.out (by kernel_rfl)) (fun _ _ _ h => h) (Or.inl ⟨by rfl, ?_⟩) ?_ ?_
                rotate_left; · (intro w'; go_simp; with_reducible rfl)
                rotate_left; · (simp only [Act.put, εm, εn, εo, i64_w, i32_w]; rfl)
                refine pure_ (i := 31) (N := some 65) (v := undef) (a' := ?_) ε32 rfl rfl (any_of HT_.out (by kernel_rfl)) (fun _ _ _ h => h) (Or.inr ⟨by rfl, rfl⟩) ?_ ?_
                rotate_left
                ·
                 simp only [Act.put, εm, εn, εo, i64_w, i32_w]
                 rfl
                refine pure_ (i := 32) (N := some 66) (v := undef) (a' := ?_) ε33 rfl rfl (any_of HT_.out (by kernel_rfl)) (fun _ _ _ h => h) (Or.inr ⟨by rfl, rfl⟩) ?_ ?_
                rotate_left
                ·
                 simp only [Act.put, εm, εn, εo, i64_w, i32_w]
                 rfl
                refine pure_ (i := 33) (N := some 67) (v := undef) (a' := ?_) ε34 rfl rfl (any_of HT_.out (by kernel_rfl)) (fun _ _ _ h => h) (Or.inr ⟨by rfl, rfl⟩) ?_ ?_
                rotate_left
                ·
                 simp only [Act.put, εm, εn, εo, i64_w, i32_w]
                 rfl
                refine pure_ (i := 34) (N := some 68) (v := undef) (a' := ?_) ε35 rfl rfl (any_of HT_.out (by kernel_rfl)) (fun _ _ _ h => h) (Or.inr ⟨by rfl, rfl⟩) ?_ ?_
                rotate_left
                ·
                 simp only [Act.put, εm, εn, εo, i64_w, i32_w]
                 rfl
                refine pure_ (i := 35) (N := some 69) (v := undef) (a' := ?_) ε36 rfl rfl (any_of HT_.out (by kernel_rfl)) (fun _ _ _ h => h) (Or.inr ⟨by rfl, rfl⟩) ?_ ?_
                rotate_left
                ·
                 simp only [Act.put, εm, εn, εo, i64_w, i32_w]
                 rfl
                refine pure_ (i := 36) (N := some 70) (v := undef) (a' := ?_) ε37 rfl rfl (any_of HT_.out (by kernel_rfl)) (fun _ _ _ h => h) (Or.inr ⟨by rfl, rfl⟩) ?_ ?_
                rotate_left
                ·
                 simp only [Act.put, εm, εn, εo, i64_w, i32_w]
                 rfl
                refine pure_ (i := 37) (N := some 71) (v := ?_) (a' := ?_) ε38 rfl rfl (any_of HT_.out (by kernel_rfl)) (fun _ _ _ h => h) (Or.inl ⟨by rfl, ?_⟩) ?_ ?_
                rotate_left; · (intro w'; go_simp; with_reducible rfl)
                rotate_left; · (simp only [Act.put, εm, εn, εo, i64_w, i32_w]; rfl)
                refine pure_ (i := 38) (N := some 72) (v := ?_) (a' := ?_) ε39 rfl rfl (any_of HT_.out (by kernel_rfl)) (fun _ _ _ h => h) (Or.inl ⟨by rfl, ?_⟩) ?_ ?_
                rotate_left; · (intro w'; go_simp; with_reducible rfl)
                rotate_left; · (simp only [Act.put, εm, εn, εo, i64_w, i32_w]; rfl)
                refine pure_ (i := 39) (N := some 73) (v := undef) (a' := ?_) ε40 rfl rfl (any_of HT_.out (by kernel_rfl)) (fun _ _ _ h => h) (Or.inr ⟨by rfl, rfl⟩) ?_ ?_
                rotate_left
                ·
                 simp only [Act.put, εm, εn, εo, i64_w, i32_w]
                 rfl
                refine pure_ (i := 40) (N := some 74) (v := undef) (a' := ?_) ε41 rfl rfl (any_of HT_.out (by kernel_rfl)) (fun _ _ _ h => h) (Or.inr ⟨by rfl, rfl⟩) ?_ ?_
                rotate_left
                ·
                 simp only [Act.put, εm, εn, εo, i64_w, i32_w]
                 rfl
                refine pure_ (i := 41) (N := some 75) (v := undef) (a' := ?_) ε42 rfl rfl (any_of HT_.out (by kernel_rfl)) (fun _ _ _ h => h) (Or.inr ⟨by rfl, rfl⟩) ?_ ?_
                rotate_left
                ·
                 simp only [Act.put, εm, εn, εo, i64_w, i32_w]
                 rfl
                refine pure_ (i := 42) (N := some 76) (v := undef) (a' := ?_) ε43 rfl rfl (any_of HT_.out (by kernel_rfl)) (fun _ _ _ h => h) (Or.inr ⟨by rfl, rfl⟩) ?_ ?_
                rotate_left
                ·
                 simp only [Act.put, εm, εn, εo, i64_w, i32_w]
                 rfl
                refine pure_ (i := 43) (N := some 77) (v := undef) (a' := ?_) ε44 rfl rfl (any_of HT_.out (by kernel_rfl)) (fun _ _ _ h => h) (Or.inr ⟨by rfl, rfl⟩) ?_ ?_
                rotate_left
                ·
                 simp only [Act.put, εm, εn, εo, i64_w, i32_w]
                 rfl
                refine pure_ (i := 44) (N := some 78) (v := undef) (a' := ?_) ε45 rfl rfl (any_of HT_.out (by kernel_rfl)) (fun _ _ _ h => h) (Or.inr ⟨by rfl, rfl⟩) ?_ ?_
                rotate_left
                ·
                 simp only [Act.put, εm, εn, εo, i64_w, i32_w]
                 rfl
                refine pure_ (i := 45) (N := some 79) (v := ?_) (a' := ?_) ε46 rfl rfl (any_of HT_.out (by kernel_rfl)) (fun _ _ _ h => h) (Or.inl ⟨by rfl, ?_⟩) ?_ ?_
                rotate_left; · (intro w'; go_simp; with_reducible rfl)
                rotate_left; · (simp only [Act.put, εm, εn, εo, i64_w, i32_w]; rfl)
                refine done_ (done_of HT_.out (by kernel_rfl)) ?_
                try go_wp2
                go_ret
                exact ⟨by first | rfl | (simp [errW_none, errW_some] <;> rfl) | (simp only [← hji5]; first | rfl | (simp [errW_none, errW_some] <;> rfl)) | (simp [*, errW_none, errW_some] <;> rfl), by repeat (first | (with_reducible first | exact HB.out | apply εj | apply εh | apply εi) | exact HB.out)⟩
               rw [if_neg c19] at H
               exact absurd H (by simp)
              rw [if_neg c18] at H
              exact absurd H (by simp)
             rw [if_neg c17] at H
             have c17b0 : decide (x30_2 < ((rd_L2 l0 x22_1).length : Int)) = false := decide_eq_false c17
             clear c17
             have H' := εp H
             clear H
             go_wp2
             go_roundg k2
             case measure => have := HK1.out; have := HK2.out; omega
             case rel => exact ⟨(x5_2), (wrap64 (x22_1 + 1)), (by first | rfl | (simp; done) | (simp [*]; done)), H', ⟨by have := HK1.out; have := HK2.out; omega⟩, ⟨by (with_reducible repeat (first | apply Kd.R_alloc | apply Kd.R_drewN | apply εf)); exact HO_5.out⟩, ⟨by repeat (first | (with_reducible first | exact HB.out | apply εj | apply εh | apply εi) | exact HB.out)⟩⟩
          rw [if_neg c14] at H
          exact absurd H (by simp)
         rw [if_neg c13] at H
         exact absurd H (by simp)
        rw [if_neg c12] at H
        exact absurd H (by simp)
       rw [if_neg c11] at H
       exact absurd H (by simp)
      rw [if_neg c10] at H
      have c10b0 : decide (x22_1 < (l0.length : Int)) = false := decide_eq_false c10
      clear c10
      have H' := εp H
      clear H
      go_wp2
      go_loopg [115] k1 (fun kq v115 w' => ∃ (x115_2 : Int), v115 = .int .i64 x115_2 ∧ Aside0 (impl_MeetOnce.l2 kq a1 x5_1 a1 x115_2 = some r) ∧ Aside0 (kq ≤ k1) ∧ Aside0 (Kd.R (Kd.int .i64) 3 w' w.heap.size (fun _ => True) v162 x5_1) ∧ Aside0 (Below w.heap.size w w'))
      case atStart => exact ⟨(0), (by first | rfl | (simp; done) | (simp [*]; done)), H', ⟨Nat.le_refl _⟩, ⟨by (with_reducible repeat (first | apply Kd.R_alloc | apply Kd.R_drewN | apply εf)); exact HO_5.out⟩, ⟨by repeat (first | (with_reducible first | exact HB.out | apply εj | apply εh | apply εi) | exact HB.out)⟩⟩
      case round =>
       clear H'
       try clear c1
       try clear p1
       try clear q1
       try clear hx1
       try clear qi1
       try clear c2
       try clear p2
       try clear c6
       try clear p6
       try clear c10
       try clear c10b0
       try clear c11
       try clear c12
       try clear c13
       try clear c14
       try clear c16
       try clear p16
       try clear q16
       try clear hx16
       try clear qi16
       try clear c17
       try clear c17b0
       try clear c18
       try clear c19
       try clear c20
       try clear c20b0
       try clear c20b1
       try clear c21
       try clear hx168_0
       try clear hx169_0
       try clear p168
       try clear p169
       try clear q168
       try clear q169
       obtain ⟨x115_2, rfl, HA, HK2, HO_5, HB⟩ := hrel
       cases gk with
       | zero => exact absurd HA.out (by simp [impl_MeetOnce.l2])
       | succ k2 =>
        have H := HA.out
        clear HA
        simp only [impl_MeetOnce.l2] at H
        by_cases c61 : x115_2 < a1
        ·
         rw [if_pos c61] at H
         have c61b0 : decide (x115_2 < a1) = true := decide_eq_true c61
         clear c61
         have H' := εp H
         clear H
         go_wp2
         go_loopg [12] k2 (fun kq v12 w' => ∃ (x12_3 : Int), v12 = .int .i64 x12_3 ∧ Aside0 (impl_MeetOnce.l3 kq a1 x5_1 x115_2 x12_3 a1 x115_2 = some r) ∧ Aside0 (kq ≤ k2) ∧ Aside0 (Kd.R (Kd.int .i64) 3 w' w.heap.size (fun _ => True) v162 x5_1) ∧ Aside0 (Below w.heap.size w w'))
         case atStart => exact ⟨(wrap64 (x115_2 + 1)), (by first | rfl | (simp; done) | (simp [*]; done)), H', ⟨Nat.le_refl _⟩, ⟨by (with_reducible repeat (first | apply Kd.R_alloc | apply Kd.R_drewN | apply εf)); exact HO_5.out⟩, ⟨by repeat (first | (with_reducible first | exact HB.out | apply εj | apply εh | apply εi) | exact HB.out)⟩⟩
         case round =>
          clear H'
          try clear c1
          try clear p1
          try clear q1
          try clear hx1
          try clear qi1
          try clear c2
          try clear p2
          try clear c6
          try clear p6
          try clear c10
          try clear c10b0
          try clear c11
          try clear c12
          try clear c13
          try clear c14
          try clear c16
          try clear p16
          try clear q16
          try clear hx16
          try clear qi16
          try clear c17
          try clear c17b0
          try clear c18
          try clear c19
          try clear c20
          try clear c20b0
          try clear c20b1
          try clear c21
          try clear c61
          try clear c61b0
          try clear hx168_0
          try clear hx169_0
          try clear p1
          try clear p16
          try clear p168
          try clear p169
          try clear p2
          try clear p6
          try clear q1
          try clear q16
          try clear q168
          try clear q169
          obtain ⟨x12_3, rfl, HA, HK3, HO_5, HB⟩ := hrel
          cases gk with
          | zero => exact absurd HA.out (by simp [impl_MeetOnce.l3])
          | succ k3 =>
           have H := HA.out
           clear HA
           simp only [impl_MeetOnce.l3] at H
           by_cases c62 : x12_3 < a1
           ·
            rw [if_pos c62] at H
            have c62b0 : decide (x12_3 < a1) = true := decide_eq_true c62
            clear c62
            obtain ⟨ji63, hji63⟩ : ∃ j_ : Int, (wrap64 ((wrap64 (x115_2 * a1)) + x12_3)) = j_ := ⟨_, rfl⟩
            replace H : (if 0 ≤ (ji63) then (if (ji63) < (x5_1.length : Int) then (if (rd x5_1 (ji63)) = 1 then (impl_MeetOnce.l3 k3 a1 x5_1 x115_2 (wrap64 (x12_3 + 1)) a1 x115_2) else (some false)) else (none)) else (none)) = some r := by first | (rw [hji63] at H; exact H) | (simp only [hji63] at H ⊢; exact H)
            have hji63w : (IntKind.i64.wrap ((wrap64 (x115_2 * a1)) + x12_3)) = ji63 := (i64_w _).trans hji63
            by_cases c64 : 0 ≤ (ji63)
            ·
             rw [if_pos c64] at H
             have c64b0 : decide (0 ≤ (ji63)) = true := decide_eq_true c64
             clear c64
             by_cases c65 : (ji63) < (x5_1.length : Int)
             ·
              rw [if_pos c65] at H
              have c65b0 : decide ((ji63) < (x5_1.length : Int)) = true := decide_eq_true c65
              clear c65
              by_cases c66 : (rd x5_1 (ji63)) = 1
              ·
               rw [if_pos c66] at H
               have c66b0 : ((rd x5_1 (ji63)) == 1) = true := beq_iff_eq.mpr c66
               have c66b1 : ((rd x5_1 (ji63)) != 1) = false := bne_eq_false_iff_eq.mpr c66
               clear c66
               have H' := εp H
               clear H
               obtain ⟨Ao67, co67, eo67⟩ := Kd.R_slice HO_5.out
               subst eo67
               have p189 : 0 ≤ ((ji63) : Int) := of_decide_eq_true (by first | (with_reducible assumption) | assumption)
               have q189 : (ji63) < (x5_1.length : Int) := of_decide_eq_true (by first | (with_reducible assumption) | assumption)
               obtain ⟨ad189, e189, hx189_0⟩ := Kd.at_int (Kd.R_reads' HO_5.out).2.2 (ji63) p189 q189
               cases e189
               replace p189 := eq_true p189
               replace q189 := eq_true q189
               go_wp2
               go_roundg k3
               case measure => have := HK1.out; have := HK2.out; have := HK3.out; omega
               case rel => exact ⟨(wrap64 (x12_3 + 1)), (by first | rfl | (simp; done) | (simp [*]; done)), H', ⟨by have := HK1.out; have := HK2.out; have := HK3.out; omega⟩, ⟨by (with_reducible repeat (first | apply Kd.R_alloc | apply Kd.R_drewN | apply εf)); exact HO_5.out⟩, ⟨by repeat (first | (with_reducible first | exact HB.out | apply εj | apply εh | apply εi) | exact HB.out)⟩⟩
              rw [if_neg c66] at H
              have c66b0 : ((rd x5_1 (ji63)) == 1) = false := beq_eq_false_iff_ne.mpr c66
              have c66b1 : ((rd x5_1 (ji63)) != 1) = true := bne_iff_ne.mpr c66
              obtain rfl := Option.some.inj H
              obtain ⟨Ao68, co68, eo68⟩ := Kd.R_slice HO_5.out
              subst eo68
              have p189 : 0 ≤ ((ji63) : Int) := of_decide_eq_true (by first | (with_reducible assumption) | assumption)
              have q189 : (ji63) < (x5_1.length : Int) := of_decide_eq_true (by first | (with_reducible assumption) | assumption)
              obtain ⟨ad189, e189, hx189_0⟩ := Kd.at_int (Kd.R_reads' HO_5.out).2.2 (ji63) p189 q189
              cases e189
              replace p189 := eq_true p189
              replace q189 := eq_true q189
              go_wp2
              go_ret
              exact ⟨by first | rfl | (simp [errW_none, errW_some] <;> rfl) | (simp only [← hji5, ← hji63]; first | rfl | (simp [errW_none, errW_some] <;> rfl)) | (simp [*, errW_none, errW_some] <;> rfl), by repeat (first | (with_reducible first | exact HB.out | apply εj | apply εh | apply εi) | exact HB.out)⟩
             rw [if_neg c65] at H
             exact absurd H (by simp)
            rw [if_neg c64] at H
            exact absurd H (by simp)
           rw [if_neg c62] at H
           have c62b0 : decide (x12_3 < a1) = false := decide_eq_false c62
           clear c62
           have H' := εp H
           clear H
           go_wp2
           go_roundg k3
           case measure => have := HK1.out; have := HK2.out; have := HK3.out; omega
           case rel => exact ⟨(wrap64 (x115_2 + 1)), (by first | rfl | (simp; done) | (simp [*]; done)), H', ⟨by have := HK1.out; have := HK2.out; have := HK3.out; omega⟩, ⟨by (with_reducible repeat (first | apply Kd.R_alloc | apply Kd.R_drewN | apply εf)); exact HO_5.out⟩, ⟨by repeat (first | (with_reducible first | exact HB.out | apply εj | apply εh | apply εi) | exact HB.out)⟩⟩
        rw [if_neg c61] at H
        have c61b0 : decide (x115_2 < a1) = false := decide_eq_false c61
        clear c61
        obtain rfl := Option.some.inj H
        go_wp2
        go_ret
        exact ⟨by first | rfl | (simp [errW_none, errW_some] <;> rfl) | (simp only [← hji5]; first | rfl | (simp [errW_none, errW_some] <;> rfl)) | (simp [*, errW_none, errW_some] <;> rfl), by repeat (first | (with_reducible first | exact HB.out | apply εj | apply εh | apply εi) | exact HB.out)⟩
   rw [if_neg c7] at H
   exact absurd H (by simp)
  rw [if_neg c6] at H
  exact absurd H (by simp)
 replace c4 := Bool.eq_false_iff.mpr c4
 subst c4
 have H1 : (some false) = some r := by rw [if_neg (show ¬ (false = true) by decide)] at H; exact H
 clear H
 have H := H1
 clear H1
 obtain rfl := Option.some.inj H
 go_enter Try.func58, Try.ntmps58
 go_wp2_with (first | ((with_reducible refine gate_callee (f := 64) rfl ?_); refine goesL_ (some 14) rfl rfl Try.func64 (by kernel_rfl) rfl #[.int .i64 a1, .int .i64 2, .int .i64 20] rfl (by (try simp only [List.map_toArray, List.map_cons, List.map_nil]); first | done | rfl | (simp only [List.length_drop, List.length_take]; rfl)) ?_; (with_reducible refine (impl_InRange.calls a1 2 20 false _ A3.out).mono ?_); rintro e w' ⟨rfl, ⟨nd, rfl⟩⟩; refine ⟨_, rfl, ?_⟩))
 go_ret
 exact ⟨by first | rfl | (simp [errW_none, errW_some] <;> rfl) | (simp [*, errW_none, errW_some] <;> rfl), by repeat (first | (with_reducible first | exact HB.out | apply εj | apply εh | apply εi) | exact HB.out)⟩

end Go.Proofs.Ytfcidjlnokhkjaa.QFnSeasons
