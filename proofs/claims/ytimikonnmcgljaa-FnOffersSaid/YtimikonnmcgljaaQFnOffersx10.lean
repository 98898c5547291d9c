-- Laid by this session's own program (wip/myprint.py), the kit's printer its engine; turned by hand where that fell. Lean checks it.
import Derived.Test.YtimikonnmcgljaaQFnOffersx0
import Derived.Test.YtimikonnmcgljaaQFnOffersx1
namespace Go.Proofs.Ytimikonnmcgljaa.QFnOffers
open Go.RowKit Go.Proofs.YtimikonnmcgljaaW.PrintWords Go.Proofs.YtimikonnmcgljaaW.PrintLast Go.Proofs.YtimikonnmcgljaaW.PrintMore
attribute [local go_sem] max2_int min2_int max_two min_two max_three min_three max_four min_four   -- for this text's walks alone
set_option linter.unusedVariables false
set_option linter.unusedSimpArgs false

/-! ### impl_AreOffers: function 30 -/
mutual
def impl_AreOffers.j0 : Nat → List (S46) → Bool → Int → Int → Int → Option (Bool)
 | 0, _, _, _, _, _ => none
 | k + 1, x1, x15, x254000, x254001, x254002 => if x15 = true then (some false) else (impl_AreOffers.l0 k x1 0 x1 (x1.length : Int) 0 x254000 x254001 x254002)
def impl_AreOffers.l0 : Nat → List (S46) → Int → List (S46) → Int → Int → Int → Int → Int → Option (Bool)
 | 0, _, _, _, _, _, _, _, _ => none
 | k + 1, x1, x5, x16, x17, x18, x254000, x254001, x254002 => if x18 < x17 then (if 0 ≤ x18 then (if x18 < (x16.length : Int) then ((impl_MayOffer.f x254000 x254001 x254002 ((rd_T46 x16 x18).f0)).bind fun t257 => (if t257 = true then (if x18 > 0 then (if 0 ≤ (wrap64 (x18 - 1)) then (if (wrap64 (x18 - 1)) < (x1.length : Int) then (if ((rd_T46 x16 x18).f0) ≤ ((rd_T46 x1 (wrap64 (x18 - 1))).f0) then (impl_AreOffers.j2 k x1 x5 x16 x17 x18 true x254000 x254001 x254002 ((rd_T46 x16 x18).f0) ((rd_T46 x16 x18).f1) ((rd_T46 x16 x18).f2)) else ((impl_InRange.f ((rd_T46 x16 x18).f1) 1 99).bind fun t259 => (if t259 = true then (impl_AreOffers.j2 k x1 x5 x16 x17 x18 (((rd_T46 x16 x18).f1) == x254000) x254000 x254001 x254002 ((rd_T46 x16 x18).f0) ((rd_T46 x16 x18).f1) ((rd_T46 x16 x18).f2)) else (impl_AreOffers.j2 k x1 x5 x16 x17 x18 true x254000 x254001 x254002 ((rd_T46 x16 x18).f0) ((rd_T46 x16 x18).f1) ((rd_T46 x16 x18).f2))))) else (none)) else (none)) else ((impl_InRange.f ((rd_T46 x16 x18).f1) 1 99).bind fun t260 => (if t260 = true then (impl_AreOffers.j2 k x1 x5 x16 x17 x18 (((rd_T46 x16 x18).f1) == x254000) x254000 x254001 x254002 ((rd_T46 x16 x18).f0) ((rd_T46 x16 x18).f1) ((rd_T46 x16 x18).f2)) else (impl_AreOffers.j2 k x1 x5 x16 x17 x18 true x254000 x254001 x254002 ((rd_T46 x16 x18).f0) ((rd_T46 x16 x18).f1) ((rd_T46 x16 x18).f2))))) else (impl_AreOffers.j2 k x1 x5 x16 x17 x18 true x254000 x254001 x254002 ((rd_T46 x16 x18).f0) ((rd_T46 x16 x18).f1) ((rd_T46 x16 x18).f2)))) else (none)) else (none)) else (some (decide (x5 ≤ 2)))
def impl_AreOffers.j2 : Nat → List (S46) → Int → List (S46) → Int → Int → Bool → Int → Int → Int → Int → Int → Bool → Option (Bool)
 | 0, _, _, _, _, _, _, _, _, _, _, _, _ => none
 | k + 1, x1, x5, x16, x17, x18, x55, x254000, x254001, x254002, x257000, x257001, x257002 => if x55 = true then (some false) else (if x257002 = true then (impl_AreOffers.l0 k x1 (wrap64 (x5 + 1)) x16 x17 (wrap64 (x18 + 1)) x254000 x254001 x254002) else (impl_AreOffers.l0 k x1 x5 x16 x17 (wrap64 (x18 + 1)) x254000 x254001 x254002))
end
def impl_AreOffers.f (k : Nat) (a0_0 : Int) (a0_1 : Int) (a0_2 : Int) (l1 : List (S46)) : Option (Bool) := (impl_IsSlot.f a0_0 a0_1 a0_2).bind fun t254 => (if t254 = true then (impl_AreOffers.j0 k l1 (decide ((l1.length : Int) > 20)) a0_0 a0_1 a0_2) else (impl_AreOffers.j0 k l1 true a0_0 a0_1 a0_2))
theorem impl_AreOffers.mono_l : ∀ k, (∀ y0 y1 y2 y3 y4, LeO (impl_AreOffers.j0 k y0 y1 y2 y3 y4) (impl_AreOffers.j0 (k + 1) y0 y1 y2 y3 y4)) ∧ (∀ y0 y1 y2 y3 y4 y5 y6 y7, LeO (impl_AreOffers.l0 k y0 y1 y2 y3 y4 y5 y6 y7) (impl_AreOffers.l0 (k + 1) y0 y1 y2 y3 y4 y5 y6 y7)) ∧ (∀ y0 y1 y2 y3 y4 y5 y6 y7 y8 y9 y10 y11, LeO (impl_AreOffers.j2 k y0 y1 y2 y3 y4 y5 y6 y7 y8 y9 y10 y11) (impl_AreOffers.j2 (k + 1) y0 y1 y2 y3 y4 y5 y6 y7 y8 y9 y10 y11))
 | 0 => ⟨fun _ _ _ _ _ r h => by simp [impl_AreOffers.j0] at h, fun _ _ _ _ _ _ _ _ r h => by simp [impl_AreOffers.l0] at h, fun _ _ _ _ _ _ _ _ _ _ _ _ r h => by simp [impl_AreOffers.j2] at h⟩
 | k + 1 => by
  obtain ⟨ih0, ih1, ih2⟩ := impl_AreOffers.mono_l k
  refine ⟨?_, ?_, ?_⟩
  ·
   intro y0 y1 y2 y3 y4
   unfold impl_AreOffers.j0
   repeat' first
   | (with_reducible exact ih0 _ _ _ _ _)
   | (with_reducible exact ih1 _ _ _ _ _ _ _ _)
   | (with_reducible exact ih2 _ _ _ _ _ _ _ _ _ _ _ _)
   | (with_reducible exact LeO.refl _)
   | (with_reducible exact LeO.none _)
   | (with_reducible refine LeO.ite ?_ ?_)
   | (with_reducible refine LeO.bind ?_ (fun _ => ?_))
   | exact ih0 _ _ _ _ _
   | exact ih1 _ _ _ _ _ _ _ _
   | exact ih2 _ _ _ _ _ _ _ _ _ _ _ _
   | exact LeO.none _
   | refine LeO.ite ?_ ?_
   | refine LeO.bind ?_ (fun _ => ?_)
  ·
   intro y0 y1 y2 y3 y4 y5 y6 y7
   unfold impl_AreOffers.l0
   repeat' first
   | (with_reducible exact ih0 _ _ _ _ _)
   | (with_reducible exact ih1 _ _ _ _ _ _ _ _)
   | (with_reducible exact ih2 _ _ _ _ _ _ _ _ _ _ _ _)
   | (with_reducible exact LeO.refl _)
   | (with_reducible exact LeO.none _)
   | (with_reducible refine LeO.ite ?_ ?_)
   | (with_reducible refine LeO.bind ?_ (fun _ => ?_))
   | exact ih0 _ _ _ _ _
   | exact ih1 _ _ _ _ _ _ _ _
   | exact ih2 _ _ _ _ _ _ _ _ _ _ _ _
   | exact LeO.none _
   | refine LeO.ite ?_ ?_
   | refine LeO.bind ?_ (fun _ => ?_)
  ·
   intro y0 y1 y2 y3 y4 y5 y6 y7 y8 y9 y10 y11
   unfold impl_AreOffers.j2
   repeat' first
   | (with_reducible exact ih0 _ _ _ _ _)
   | (with_reducible exact ih1 _ _ _ _ _ _ _ _)
   | (with_reducible exact ih2 _ _ _ _ _ _ _ _ _ _ _ _)
   | (with_reducible exact LeO.refl _)
   | (with_reducible exact LeO.none _)
   | (with_reducible refine LeO.ite ?_ ?_)
   | (with_reducible refine LeO.bind ?_ (fun _ => ?_))
   | exact ih0 _ _ _ _ _
   | exact ih1 _ _ _ _ _ _ _ _
   | exact ih2 _ _ _ _ _ _ _ _ _ _ _ _
   | exact LeO.none _
   | refine LeO.ite ?_ ?_
   | refine LeO.bind ?_ (fun _ => ?_)
theorem impl_AreOffers.mono : ∀ a0 a1 a2 a3 k, LeO (impl_AreOffers.f k a0 a1 a2 a3) (impl_AreOffers.f (k + 1) a0 a1 a2 a3) := by
 intro a0 a1 a2 a3 k
 obtain ⟨ih0, ih1, ih2⟩ := impl_AreOffers.mono_l k
 unfold impl_AreOffers.f
 repeat' first
   | (with_reducible exact ih0 _ _ _ _ _)
   | (with_reducible exact ih1 _ _ _ _ _ _ _ _)
   | (with_reducible exact ih2 _ _ _ _ _ _ _ _ _ _ _ _)
   | (with_reducible exact LeO.refl _)
   | (with_reducible exact LeO.none _)
   | (with_reducible refine LeO.ite ?_ ?_)
   | (with_reducible refine LeO.bind ?_ (fun _ => ?_))
   | exact ih0 _ _ _ _ _
   | exact ih1 _ _ _ _ _ _ _ _
   | exact ih2 _ _ _ _ _ _ _ _ _ _ _ _
   | exact LeO.none _
   | refine LeO.ite ?_ ?_
   | refine LeO.bind ?_ (fun _ => ?_)
def impl_AreOffers.T7 : Bool × List (List Nat × List Nat) := (true, [([], []), ([], []), ([1], [1]), ([0, 2], [0, 2]), ([3], [3]), ([4, 3], [4]), ([5], [5]), ([6, 5], [5, 6]), ([7, 5, 5], [5, 7]), ([8], [8]), ([9, 8], [8, 9]), ([8], [8]), ([8], [8]), ([12, 8], [8, 12]), ([11, 13, 8], [8, 11, 13]), ([14, 8], [8, 14]), ([15, 8], [8, 15]), ([10, 16, 8], [8, 10, 16]), ([8, 17, 5], [5, 8, 17]), ([5, 18], [5, 18]), ([19, 8], [19]), ([20], [20]), ([21, 20], [20, 21]), ([22, 20, 20], [20, 22]), ([23, 20], [20, 23]), ([20, 24], [20, 24]), ([25, 23], [25]), ([26], [26]), ([27, 26], [26, 27]), ([26], [26]), ([29, 26], [26, 29]), ([28, 30, 26], [26, 28, 30]), ([26, 31], [26, 31])])
def impl_AreOffers.B7 : List Nat := [0, 0, 2, 7, 15, 31, 63, 127, 255, 511, 1023, 511, 511, 4607, 14847, 31231, 63999, 131071, 262143, 524287, 1048575, 2097151, 4194303, 8388607, 16777215, 33554431, 67108863, 134217727, 268435455, 134217727, 671088639, 2147483647, 4294967295]
theorem impl_AreOffers.tab7 : rtab .any (opsOf Try.f30 7) = impl_AreOffers.T7 := by kernel_rfl
theorem impl_AreOffers.bits7 : waitsOk impl_AreOffers.T7.2 impl_AreOffers.B7 = true := by kernel_rfl
set_option linter.defProp false
def νa := @blk_drewN
def νb := @blk_alloc
def νc := @blk_drew
def νg := @below_set
def νh := @pw_below_drewN
def νi := @below_drew1
def νj := @below_alloc
def νk := @blk_cell
def νm := @List.setIfInBounds_toArray
def νn := @List.set_cons_zero
def νo := @List.set_cons_succ
def νp := @Aside0.mk
abbrev ν0 : Array Bool := #[false, false, false, false, false, false, false, false, false, false, false, false, false, false, false, false, false, false, false, false, false, false, false, false, false, false, false, false, false, false, false, false, false]
abbrev ν1 : Array Bool := #[false, true, false, false, false, false, false, false, false, false, false, false, false, false, false, false, false, false, false, false, false, false, false, false, false, false, false, false, false, false, false, false, false]
abbrev ν2 : Array Bool := #[true, true, false, false, false, false, false, false, false, false, false, false, false, false, false, false, false, false, false, false, false, false, false, false, false, false, false, false, false, false, false, false, false]
abbrev ν3 : Array Bool := #[true, true, true, false, false, false, false, false, false, false, false, false, false, false, false, false, false, false, false, false, false, false, false, false, false, false, false, false, false, false, false, false, false]
abbrev ν4 : Array Bool := #[true, true, true, true, false, false, false, false, false, false, false, false, false, false, false, false, false, false, false, false, false, false, false, false, false, false, false, false, false, false, false, false, false]
abbrev ν5 : Array Bool := #[true, true, true, true, true, false, false, false, false, false, false, false, false, false, false, false, false, false, false, false, false, false, false, false, false, false, false, false, false, false, false, false, false]
abbrev ν6 : Array Bool := #[true, true, true, true, true, true, false, false, false, false, false, false, false, false, false, false, false, false, false, false, false, false, false, false, false, false, false, false, false, false, false, false, false]
abbrev ν7 : Array Bool := #[true, true, true, true, true, true, true, false, false, false, false, false, false, false, false, false, false, false, false, false, false, false, false, false, false, false, false, false, false, false, false, false, false]
abbrev ν8 : Array Bool := #[true, true, true, true, true, true, true, true, false, false, false, false, false, false, false, false, false, false, false, false, false, false, false, false, false, false, false, false, false, false, false, false, false]
abbrev ν9 : Array Bool := #[true, true, true, true, true, true, true, true, true, false, false, false, false, false, false, false, false, false, false, false, false, false, false, false, false, false, false, false, false, false, false, false, false]
abbrev ν10 : Array Bool := #[true, true, true, true, true, true, true, true, true, true, false, false, false, false, false, false, false, false, false, false, false, false, false, false, false, false, false, false, false, false, false, false, false]
abbrev ν11 : Array Bool := #[true, true, true, true, true, true, true, true, true, true, false, true, false, false, false, false, false, false, false, false, false, false, false, false, false, false, false, false, false, false, false, false, false]
abbrev ν12 : Array Bool := #[true, true, true, true, true, true, true, true, true, true, false, true, true, false, false, false, false, false, false, false, false, false, false, false, false, false, false, false, false, false, false, false, false]
abbrev ν13 : Array Bool := #[true, true, true, true, true, true, true, true, true, true, false, true, true, true, false, false, false, false, false, false, false, false, false, false, false, false, false, false, false, false, false, false, false]
abbrev ν14 : Array Bool := #[true, true, true, true, true, true, true, true, true, true, false, true, true, true, true, false, false, false, false, false, false, false, false, false, false, false, false, false, false, false, false, false, false]
abbrev ν15 : Array Bool := #[true, true, true, true, true, true, true, true, true, true, false, true, true, true, true, true, false, false, false, false, false, false, false, false, false, false, false, false, false, false, false, false, false]
abbrev ν16 : Array Bool := #[true, true, true, true, true, true, true, true, true, true, true, true, true, true, true, true, false, false, false, false, false, false, false, false, false, false, false, false, false, false, false, false, false]
abbrev ν17 : Array Bool := #[true, true, true, true, true, true, true, true, true, true, true, true, true, true, true, true, true, false, false, false, false, false, false, false, false, false, false, false, false, false, false, false, false]
abbrev ν18 : Array Bool := #[true, true, true, true, true, true, true, true, true, true, true, true, true, true, true, true, true, true, false, false, false, false, false, false, false, false, false, false, false, false, false, false, false]
abbrev ν19 : Array Bool := #[true, true, true, true, true, true, true, true, true, true, true, true, true, true, true, true, true, true, true, false, false, false, false, false, false, false, false, false, false, false, false, false, false]
abbrev ν20 : Array Bool := #[true, true, true, true, true, true, true, true, true, true, true, true, true, true, true, true, true, true, true, true, false, false, false, false, false, false, false, false, false, false, false, false, false]
abbrev ν21 : Array Bool := #[true, true, true, true, true, true, true, true, true, true, true, true, true, true, true, true, true, true, true, true, true, false, false, false, false, false, false, false, false, false, false, false, false]
abbrev ν22 : Array Bool := #[true, true, true, true, true, true, true, true, true, true, true, true, true, true, true, true, true, true, true, true, true, true, false, false, false, false, false, false, false, false, false, false, false]
abbrev ν23 : Array Bool := #[true, true, true, true, true, true, true, true, true, true, true, true, true, true, true, true, true, true, true, true, true, true, true, false, false, false, false, false, false, false, false, false, false]
abbrev ν24 : Array Bool := #[true, true, true, true, true, true, true, true, true, true, true, true, true, true, true, true, true, true, true, true, true, true, true, true, false, false, false, false, false, false, false, false, false]
abbrev ν25 : Array Bool := #[true, true, true, true, true, true, true, true, true, true, true, true, true, true, true, true, true, true, true, true, true, true, true, true, true, false, false, false, false, false, false, false, false]
abbrev ν26 : Array Bool := #[true, true, true, true, true, true, true, true, true, true, true, true, true, true, true, true, true, true, true, true, true, true, true, true, true, true, false, false, false, false, false, false, false]
abbrev ν27 : Array Bool := #[true, true, true, true, true, true, true, true, true, true, true, true, true, true, true, true, true, true, true, true, true, true, true, true, true, true, true, false, false, false, false, false, false]
abbrev ν28 : Array Bool := #[true, true, true, true, true, true, true, true, true, true, true, true, true, true, true, true, true, true, true, true, true, true, true, true, true, true, true, true, false, false, false, false, false]
abbrev ν29 : Array Bool := #[true, true, true, true, true, true, true, true, true, true, true, true, true, true, true, true, true, true, true, true, true, true, true, true, true, true, true, true, true, false, false, false, false]
abbrev ν30 : Array Bool := #[true, true, true, true, true, true, true, true, true, true, true, true, true, true, true, true, true, true, true, true, true, true, true, true, true, true, true, true, true, true, false, false, false]
abbrev ν31 : Array Bool := #[true, true, true, true, true, true, true, true, true, true, true, true, true, true, true, true, true, true, true, true, true, true, true, true, true, true, true, true, true, true, true, false, false]
abbrev ν32 : Array Bool := #[true, true, true, true, true, true, true, true, true, true, true, true, true, true, true, true, true, true, true, true, true, true, true, true, true, true, true, true, true, true, true, true, false]
abbrev ν33 : Array Bool := #[true, true, true, true, true, true, true, true, true, true, true, true, true, true, true, true, true, true, true, true, true, true, true, true, true, true, true, true, true, true, true, true, true]
abbrev ν34 : Array Bool := #[true, true, true, true, true, true, true, true, true, true, true, true, true, true, true, true, true, true, true, true, true, true, true, true, true, true, true, true, false, true, false, false, false]
abbrev ν35 : Array Bool := #[true, true, true, true, true, true, true, true, true, true, true, false, false, false, false, false, false, false, false, false, false, false, false, false, false, false, false, false, false, false, false, false, false]
abbrev ν36 : Array Bool := #[true, true, true, true, true, true, true, true, true, true, true, true, false, false, false, false, false, false, false, false, false, false, false, false, false, false, false, false, false, false, false, false, false]
abbrev ν37 : Array Bool := #[true, true, true, true, true, true, true, true, true, true, true, true, true, false, false, false, false, false, false, false, false, false, false, false, false, false, false, false, false, false, false, false, false]
abbrev ν38 : Array Bool := #[true, true, true, true, true, true, true, true, true, true, true, true, true, true, false, false, false, false, false, false, false, false, false, false, false, false, false, false, false, false, false, false, false]
abbrev ν39 : Array Bool := #[true, true, true, true, true, true, true, true, true, true, true, true, true, true, true, false, false, false, false, false, false, false, false, false, false, false, false, false, false, false, false, false, false]
set_option maxHeartbeats 8000000 in
set_option maxRecDepth 100000 in
theorem impl_AreOffers.calls (k : Nat) (a0_0 : Int) (a0_1 : Int) (a0_2 : Int) (A1 : Option Addr) (c1 : Nat) (l1 : List (S46)) (r : Bool) (w : World) (hr1 : Kd.C k46 w A1 l1.length l1) (hc1 : l1.length ≤ c1) (h : impl_AreOffers.f k a0_0 a0_1 a0_2 l1 = some r) :
  Calls Try.prog 30 #[.agg #[.int .i64 a0_0, .int .i64 a0_1, .int .i64 a0_2], .slice A1 l1.length c1] w fun e w' => e = .returned (.bool r) ∧ Below w.heap.size w w' := by
 have hu25 := Try.underlying25
 have hu46 := Try.underlying46
 have HR1 := νp hr1
 have HC1 := νp hc1
 clear hr1 hc1
 have HB := νp (Below.refl w.heap.size w)
 have H : ((impl_IsSlot.f a0_0 a0_1 a0_2).bind fun t254 => (if t254 = true then (impl_AreOffers.j0 k l1 (decide ((l1.length : Int) > 20)) a0_0 a0_1 a0_2) else (impl_AreOffers.j0 k l1 true a0_0 a0_1 a0_2))) = some r := h
 clear h
 have HC3 := νp H
 clear H
 go_enter Try.func30, Try.ntmps30
 go_upto_region 1 with (first | ((with_reducible refine gate_dst (N := 2) rfl ?_); (try (refine gate_guard (by rfl) ?_; dsimp only)); refine box_event ?hg (N := 2) ?hd (cs := #[.int .i64 a0_0, .int .i64 a0_1, .int .i64 a0_2]) (t := 25) ?hr ?_; (case hd => rfl); (case hg => rfl); (case hr => first | (go_simp; done) | (go_simp; rfl)); intro gb253 hg w4 hbox hb; have n0_ := νp (below_step (by repeat (first | (with_reducible first | exact HB.out | apply νj | apply νh | apply νi) | exact HB.out)) hb); have n1_ := νp (hbox); have n2_ := νp ((by rw [hg]; exact (below_size (by repeat (first | (with_reducible first | exact HB.out | apply νj | apply νh | apply νi) | exact HB.out))) : w.heap.size ≤ gb253)); have n3_ := νp ((by rw [hg]; exact (below_size (by repeat (first | (with_reducible first | exact HB.out | apply νj | apply νh | apply νi) | exact HB.out))) : w.heap.size ≤ gb253)); clear HB; have HB := n0_; have BK253 := n1_; have GW253 := n2_; have GE253 := n3_; clear n0_ n1_ n2_ n3_; clear hb hbox hg))
 (try simp only [Act.put, νm, νn, νo])
 go_cut [15] (fun v15 wc => ∃ (kq : Nat) (x15_2 : Bool), v15 = .bool x15_2 ∧ Aside0 (impl_AreOffers.j0 kq l1 x15_2 a0_0 a0_1 a0_2 = some r) ∧ Aside0 (kq ≤ k) ∧ Aside0 (wc.heap[gb253]? = some (.cells #[.int .i64 a0_0, .int .i64 a0_1, .int .i64 a0_2] 25 (0, 0))) ∧ Aside0 (Below w.heap.size w wc))
 case first =>
  have H := HC3.out
  clear HC3
  replace H := Option.bind_eq_some_iff.mp H
  obtain ⟨t254, A50, H⟩ := H
  try dsimp only at H
  have A5 := νp A50
  clear A50
  by_cases c6 : t254 = true
  ·
   subst c6
   rw [if_pos rfl] at H
   have H' := νp H
   clear H
   have hcz7_0 : w4.cell? ⟨gb253, 0, none⟩ = some (.int .i64 a0_0) := (νk BK253.out 0).trans rfl
   have hcz7_1 : w4.cell? ⟨gb253, 1, none⟩ = some (.int .i64 a0_1) := (νk BK253.out 1).trans rfl
   have hcz7_2 : w4.cell? ⟨gb253, 2, none⟩ = some (.int .i64 a0_2) := (νk BK253.out 2).trans rfl
   have hfz7_0 := blk_frozen BK253.out 0
   have hfz7_1 := blk_frozen BK253.out 1
   have hfz7_2 := blk_frozen BK253.out 2
   go_wp2_with (first | ((with_reducible refine gate_callee (f := 54) rfl ?_); refine goesL_ (some 9) rfl rfl Try.func54 (by kernel_rfl) rfl #[.agg #[.int .i64 a0_0, .int .i64 a0_1, .int .i64 a0_2]] rfl (by (try simp only [List.map_toArray, List.map_cons, List.map_nil]); first | done | rfl | (simp only [List.length_drop, List.length_take]; rfl)) ?_; (with_reducible refine (impl_IsSlot.calls a0_0 a0_1 a0_2 true _ A5.out).mono ?_); rintro e w8 ⟨rfl, hb⟩; refine ⟨_, rfl, ?_⟩; have n0_ := νp (blk_below (g := gb253) (o := .cells #[.int .i64 a0_0, .int .i64 a0_1, .int .i64 a0_2] 25 (0, 0)) (by (with_reducible repeat (first | refine νa ?_ _ | refine νc ?_ | refine νb ?_ _)); exact BK253.out) hb); have n1_ := νp (below_step (by repeat (first | (with_reducible first | exact HB.out | apply νj | apply νh | apply νi | refine νg ?_ GE253.out) | exact HB.out)) hb); clear BK253; clear HB; have BK253 := n0_; have HB := n1_; clear n0_ n1_; (try clear hb); (try clear hb2); (try clear hk); (try clear hi)))
   go_meet
   case rel => exact ⟨_, (decide ((l1.length : Int) > 20)), (by first | rfl | (simp; done) | (simp [*]; done)), H', ⟨by first | omega | exact Nat.le_refl _⟩, ⟨by (with_reducible repeat (first | refine νa ?_ _ | refine νc ?_ | refine νb ?_ _)); exact BK253.out⟩, ⟨by repeat (first | (with_reducible first | exact HB.out | apply νj | apply νh | apply νi | refine νg ?_ GE253.out) | exact HB.out)⟩⟩
  replace c6 := Bool.eq_false_iff.mpr c6
  subst c6
  have H1 : (impl_AreOffers.j0 k l1 true a0_0 a0_1 a0_2) = some r := by rw [if_neg (show ¬ (false = true) by decide)] at H; exact H
  clear H
  have H := H1
  clear H1
  have H' := νp H
  clear H
  have hcz9_0 : w4.cell? ⟨gb253, 0, none⟩ = some (.int .i64 a0_0) := (νk BK253.out 0).trans rfl
  have hcz9_1 : w4.cell? ⟨gb253, 1, none⟩ = some (.int .i64 a0_1) := (νk BK253.out 1).trans rfl
  have hcz9_2 : w4.cell? ⟨gb253, 2, none⟩ = some (.int .i64 a0_2) := (νk BK253.out 2).trans rfl
  have hfz9_0 := blk_frozen BK253.out 0
  have hfz9_1 := blk_frozen BK253.out 1
  have hfz9_2 := blk_frozen BK253.out 2
  go_wp2_with (first | ((with_reducible refine gate_callee (f := 54) rfl ?_); refine goesL_ (some 9) rfl rfl Try.func54 (by kernel_rfl) rfl #[.agg #[.int .i64 a0_0, .int .i64 a0_1, .int .i64 a0_2]] rfl (by (try simp only [List.map_toArray, List.map_cons, List.map_nil]); first | done | rfl | (simp only [List.length_drop, List.length_take]; rfl)) ?_; (with_reducible refine (impl_IsSlot.calls a0_0 a0_1 a0_2 false _ A5.out).mono ?_); rintro e w10 ⟨rfl, hb⟩; refine ⟨_, rfl, ?_⟩; have n0_ := νp (blk_below (g := gb253) (o := .cells #[.int .i64 a0_0, .int .i64 a0_1, .int .i64 a0_2] 25 (0, 0)) (by (with_reducible repeat (first | refine νa ?_ _ | refine νc ?_ | refine νb ?_ _)); exact BK253.out) hb); have n1_ := νp (below_step (by repeat (first | (with_reducible first | exact HB.out | apply νj | apply νh | apply νi | refine νg ?_ GE253.out) | exact HB.out)) hb); clear BK253; clear HB; have BK253 := n0_; have HB := n1_; clear n0_ n1_; (try clear hb); (try clear hb2); (try clear hk); (try clear hi)))
  go_meet
  case rel => exact ⟨_, (true), (by first | rfl | (simp; done) | (simp [*]; done)), H', ⟨by first | omega | exact Nat.le_refl _⟩, ⟨by (with_reducible repeat (first | refine νa ?_ _ | refine νc ?_ | refine νb ?_ _)); exact BK253.out⟩, ⟨by repeat (first | (with_reducible first | exact HB.out | apply νj | apply νh | apply νi | refine νg ?_ GE253.out) | exact HB.out)⟩⟩
 case rest =>
  clear HC3
  try clear c1
  try clear p2
  try clear c3
  try clear c5
  try clear c6
  try clear hcz7_0
  try clear hcz7_1
  try clear hcz7_2
  try clear hcz9_0
  try clear hcz9_1
  try clear hcz9_2
  try clear hfz7_0
  try clear hfz7_1
  try clear hfz7_2
  try clear hfz9_0
  try clear hfz9_1
  try clear hfz9_2
  obtain ⟨kq, x15_2, rfl, HA, HJ2, BK253, HB⟩ := hcut
  cases kq with
  | zero => exact absurd HA.out (by simp [impl_AreOffers.j0])
  | succ kj2 =>
   have H := HA.out
   clear HA
   simp only [impl_AreOffers.j0] at H
   by_cases c11 : x15_2 = true
   ·
    subst c11
    rw [if_pos rfl] at H
    obtain rfl := Option.some.inj H
    go_wp2
    go_ret
    exact ⟨by first | rfl | (simp [errW_none, errW_some] <;> rfl) | (simp [*, errW_none, errW_some] <;> rfl), by repeat (first | (with_reducible first | exact HB.out | apply νj | apply νh | apply νi | refine νg ?_ GE253.out) | exact HB.out)⟩
   replace c11 := Bool.eq_false_iff.mpr c11
   subst c11
   have H1 : (impl_AreOffers.l0 kj2 l1 0 l1 (l1.length : Int) 0 a0_0 a0_1 a0_2) = some r := by rw [if_neg (show ¬ (false = true) by decide)] at H; exact H
   clear H
   have H := H1
   clear H1
   have H' := νp H
   clear H
   go_wp2
   go_loopg [5, 18] kj2 (fun kq v5 v18 w' => ∃ (x5_2 : Int) (x18_2 : Int), v5 = .int .i64 x5_2 ∧ v18 = .int .i64 x18_2 ∧ Aside0 (impl_AreOffers.l0 kq l1 x5_2 l1 (l1.length : Int) x18_2 a0_0 a0_1 a0_2 = some r) ∧ Aside0 (kq ≤ kj2) ∧ Aside0 (w'.heap[gb253]? = some (.cells #[.int .i64 a0_0, .int .i64 a0_1, .int .i64 a0_2] 25 (0, 0))) ∧ Aside0 (Below w.heap.size w w'))
   case atStart => exact ⟨(0), (0), (by first | rfl | (simp; done) | (simp [*]; done)), (by first | rfl | (simp; done) | (simp [*]; done)), H', ⟨Nat.le_refl _⟩, ⟨by (with_reducible repeat (first | refine νa ?_ _ | refine νc ?_ | refine νb ?_ _)); exact BK253.out⟩, ⟨by repeat (first | (with_reducible first | exact HB.out | apply νj | apply νh | apply νi | refine νg ?_ GE253.out) | exact HB.out)⟩⟩
   case round =>
    clear H'
    try clear c1
    try clear p2
    try clear c3
    try clear c5
    try clear c6
    try clear c11
    try clear hcz7_0
    try clear hcz7_1
    try clear hcz7_2
    try clear hcz9_0
    try clear hcz9_1
    try clear hcz9_2
    try clear hfz7_0
    try clear hfz7_1
    try clear hfz7_2
    try clear hfz9_0
    try clear hfz9_1
    try clear hfz9_2
    try clear p2
    obtain ⟨x5_2, x18_2, rfl, rfl, HA, HK2, BK253, HB⟩ := hrel
    cases gk with
    | zero => exact absurd HA.out (by simp [impl_AreOffers.l0])
    | succ k2 =>
     have H := HA.out
     clear HA
     simp only [impl_AreOffers.l0] at H
     by_cases c12 : x18_2 < (l1.length : Int)
     ·
      rw [if_pos c12] at H
      have c12b0 : decide (x18_2 < (l1.length : Int)) = true := decide_eq_true c12
      clear c12
      by_cases c13 : 0 ≤ x18_2
      ·
       rw [if_pos c13] at H
       have c13b0 : decide (0 ≤ x18_2) = true := decide_eq_true c13
       clear c13
       by_cases c14 : x18_2 < (l1.length : Int)
       ·
        rw [if_pos c14] at H
        have c14b0 : decide (x18_2 < (l1.length : Int)) = true := decide_eq_true c14
        clear c14
        have HC15 := νp H
        clear H
        have p255 : 0 ≤ (x18_2 : Int) := of_decide_eq_true (by first | (with_reducible assumption) | assumption)
        have q255 : x18_2 < (l1.length : Int) := of_decide_eq_true (by first | (with_reducible assumption) | assumption)
        obtain ⟨ad255, e255, hx255_0, hx255_1, hx255_2⟩ := at_T46 HR1.out x18_2 p255 q255
        cases e255
        replace hx255_0 := (HB.out.cell (World.block_lt_of_cell? w _ hx255_0)).trans hx255_0
        replace hx255_1 := (HB.out.cell (World.block_lt_of_cell? w _ hx255_1)).trans hx255_1
        replace hx255_2 := (HB.out.cell (World.block_lt_of_cell? w _ hx255_2)).trans hx255_2
        replace p255 := eq_true p255
        replace q255 := eq_true q255
        go_upto_region 7 with (first | ((with_reducible refine gate_dst (N := 7) rfl ?_); (try (refine gate_guard (by rfl) ?_; dsimp only)); refine box_event ?hg (N := 7) ?hd (cs := #[.int .i64 0, .int .i64 0, .bool false]) (t := 46) ?hr ?_; (case hd => rfl); (case hg => rfl); (case hr => first | (go_simp; done) | (go_simp; rfl)); intro gb256 hg w16 hbox hb; have n0_ := νp (blk_below (g := gb253) (o := .cells #[.int .i64 a0_0, .int .i64 a0_1, .int .i64 a0_2] 25 (0, 0)) (by (with_reducible repeat (first | refine νa ?_ _ | refine νc ?_ | refine νb ?_ _)); exact BK253.out) hb); have n1_ := νp (below_step (by repeat (first | (with_reducible first | exact HB.out | apply νj | apply νh | apply νi | refine νg ?_ GE253.out) | exact HB.out)) hb); have n2_ := νp (hbox); have n3_ := νp ((by rw [hg]; exact (below_size (by repeat (first | (with_reducible first | exact HB.out | apply νj | apply νh | apply νi | refine νg ?_ GE253.out) | exact HB.out))) : w.heap.size ≤ gb256)); have n4_ := νp ((by rw [hg]; exact (below_size (by repeat (first | (with_reducible first | exact HB.out | apply νj | apply νh | apply νi | refine νg ?_ GE253.out) | exact HB.out))) : w.heap.size ≤ gb256)); have n5_ := νp ((by rw [hg]; exact Nat.ne_of_lt (blk_lt (g := gb253) (o := .cells #[.int .i64 a0_0, .int .i64 a0_1, .int .i64 a0_2] 25 (0, 0)) (by (with_reducible repeat (first | refine νa ?_ _ | refine νc ?_ | refine νb ?_ _)); exact BK253.out)) : gb253 ≠ gb256)); have n6_ := νp ((by rw [hg]; exact Nat.ne_of_gt (blk_lt (g := gb253) (o := .cells #[.int .i64 a0_0, .int .i64 a0_1, .int .i64 a0_2] 25 (0, 0)) (by (with_reducible repeat (first | refine νa ?_ _ | refine νc ?_ | refine νb ?_ _)); exact BK253.out)) : gb256 ≠ gb253)); clear BK253; clear HB; have BK253 := n0_; have HB := n1_; have BK256 := n2_; have GW256 := n3_; have GE256 := n4_; have NB253_256 := n5_; have NB256_253 := n6_; clear n0_ n1_ n2_ n3_ n4_ n5_ n6_; clear hb hbox hg; have hnb17 := NB256_253.out; have hnc17 := NB253_256.out; have hcz18_0 : w16.cell? ⟨gb256, 0, none⟩ = some (.int .i64 0) := (νk BK256.out 0).trans rfl; have hcz18_1 : w16.cell? ⟨gb256, 1, none⟩ = some (.int .i64 0) := (νk BK256.out 1).trans rfl; have hcz18_2 : w16.cell? ⟨gb256, 2, none⟩ = some (.bool false) := (νk BK256.out 2).trans rfl; have hfz18_0 := blk_frozen BK256.out 0; have hfz18_1 := blk_frozen BK256.out 1; have hfz18_2 := blk_frozen BK256.out 2))
        (try simp only [Act.put, νm, νn, νo])
        go_cut [55] (fun v55 wc => ∃ (kq : Nat) (x55_14 : Bool), v55 = .bool x55_14 ∧ Aside0 (impl_AreOffers.j2 kq l1 x5_2 l1 (l1.length : Int) x18_2 x55_14 a0_0 a0_1 a0_2 ((rd_T46 l1 x18_2).f0) ((rd_T46 l1 x18_2).f1) ((rd_T46 l1 x18_2).f2) = some r) ∧ Aside0 (kq ≤ k2) ∧ Aside0 (wc.heap[gb253]? = some (.cells #[.int .i64 a0_0, .int .i64 a0_1, .int .i64 a0_2] 25 (0, 0))) ∧ Aside0 (wc.heap[gb256]? = some (.cells #[.int .i64 ((rd_T46 l1 x18_2).f0), .int .i64 ((rd_T46 l1 x18_2).f1), .bool ((rd_T46 l1 x18_2).f2)] 46 (0, 0))) ∧ Aside0 (Below w.heap.size w wc))
        case first =>
         have H := HC15.out
         clear HC15
         replace H := Option.bind_eq_some_iff.mp H
         obtain ⟨t257, A190, H⟩ := H
         try dsimp only at H
         have A19 := νp A190
         clear A190
         by_cases c20 : t257 = true
         ·
          subst c20
          rw [if_pos rfl] at H
          by_cases c21 : x18_2 > 0
          ·
           rw [if_pos c21] at H
           have c21b0 : decide (0 < x18_2) = true := decide_eq_true c21
           clear c21
           (first | rw [c21b0] | (simp only [i64_w, i32_w]; rw [c21b0]) | skip)
           obtain ⟨ji22, hji22⟩ : ∃ j_ : Int, (wrap64 (x18_2 - 1)) = j_ := ⟨_, rfl⟩
           replace H : (if 0 ≤ (ji22) then (if (ji22) < (l1.length : Int) then (if ((rd_T46 l1 x18_2).f0) ≤ ((rd_T46 l1 (ji22)).f0) then (impl_AreOffers.j2 k2 l1 x5_2 l1 (l1.length : Int) x18_2 true a0_0 a0_1 a0_2 ((rd_T46 l1 x18_2).f0) ((rd_T46 l1 x18_2).f1) ((rd_T46 l1 x18_2).f2)) else ((impl_InRange.f ((rd_T46 l1 x18_2).f1) 1 99).bind fun t259 => (if t259 = true then (impl_AreOffers.j2 k2 l1 x5_2 l1 (l1.length : Int) x18_2 (((rd_T46 l1 x18_2).f1) == a0_0) a0_0 a0_1 a0_2 ((rd_T46 l1 x18_2).f0) ((rd_T46 l1 x18_2).f1) ((rd_T46 l1 x18_2).f2)) else (impl_AreOffers.j2 k2 l1 x5_2 l1 (l1.length : Int) x18_2 true a0_0 a0_1 a0_2 ((rd_T46 l1 x18_2).f0) ((rd_T46 l1 x18_2).f1) ((rd_T46 l1 x18_2).f2))))) else (none)) else (none)) = some r := by first | (rw [hji22] at H; exact H) | (simp only [hji22] at H ⊢; exact H)
           (try rw [hji22] at A19)
           have hji22w : (IntKind.i64.wrap (x18_2 - 1)) = ji22 := (i64_w _).trans hji22
           by_cases c23 : 0 ≤ (ji22)
           ·
            rw [if_pos c23] at H
            have c23b0 : decide (0 ≤ (ji22)) = true := decide_eq_true c23
            clear c23
            by_cases c24 : (ji22) < (l1.length : Int)
            ·
             rw [if_pos c24] at H
             have c24b0 : decide ((ji22) < (l1.length : Int)) = true := decide_eq_true c24
             clear c24
             by_cases c25 : ((rd_T46 l1 x18_2).f0) ≤ ((rd_T46 l1 (ji22)).f0)
             ·
              rw [if_pos c25] at H
              have c25b0 : decide (((rd_T46 l1 x18_2).f0) ≤ ((rd_T46 l1 (ji22)).f0)) = true := decide_eq_true c25
              clear c25
              have H' := νp H
              clear H
              try go_wp2
              have n0_ : Aside0 ((((w16.setCell ⟨gb256, 0, none⟩ (.int .i64 ((rd_T46 l1 x18_2).f0))).setCell ⟨gb256, 1, none⟩ (.int .i64 ((rd_T46 l1 x18_2).f1))).setCell ⟨gb256, 2, none⟩ (.bool ((rd_T46 l1 x18_2).f2))).heap[gb253]? = some (.cells #[.int .i64 a0_0, .int .i64 a0_1, .int .i64 a0_2] 25 (0, 0))) := ⟨by (with_reducible repeat (first | refine νa ?_ _ | refine νc ?_ | refine νb ?_ _)); refine blk_far ?_ NB253_256.out _; (with_reducible repeat (first | refine νa ?_ _ | refine νc ?_ | refine νb ?_ _)); refine blk_far ?_ NB253_256.out _; (with_reducible repeat (first | refine νa ?_ _ | refine νc ?_ | refine νb ?_ _)); refine blk_far ?_ NB253_256.out _; (with_reducible repeat (first | refine νa ?_ _ | refine νc ?_ | refine νb ?_ _)); exact BK253.out⟩
              have n1_ : Aside0 ((((w16.setCell ⟨gb256, 0, none⟩ (.int .i64 ((rd_T46 l1 x18_2).f0))).setCell ⟨gb256, 1, none⟩ (.int .i64 ((rd_T46 l1 x18_2).f1))).setCell ⟨gb256, 2, none⟩ (.bool ((rd_T46 l1 x18_2).f2))).heap[gb256]? = some (.cells #[.int .i64 ((rd_T46 l1 x18_2).f0), .int .i64 ((rd_T46 l1 x18_2).f1), .bool ((rd_T46 l1 x18_2).f2)] 46 (0, 0))) := ⟨by (with_reducible repeat (first | refine νa ?_ _ | refine νc ?_ | refine νb ?_ _)); refine blk_put (cs := #[.int .i64 ((rd_T46 l1 x18_2).f0), .int .i64 ((rd_T46 l1 x18_2).f1), .bool false]) ?_ 2 _ rfl; (with_reducible repeat (first | refine νa ?_ _ | refine νc ?_ | refine νb ?_ _)); refine blk_put (cs := #[.int .i64 ((rd_T46 l1 x18_2).f0), .int .i64 0, .bool false]) ?_ 1 _ rfl; (with_reducible repeat (first | refine νa ?_ _ | refine νc ?_ | refine νb ?_ _)); refine blk_put (cs := #[.int .i64 0, .int .i64 0, .bool false]) ?_ 0 _ rfl; (with_reducible repeat (first | refine νa ?_ _ | refine νc ?_ | refine νb ?_ _)); exact BK256.out⟩
              have n2_ : Aside0 (Below w.heap.size w (((w16.setCell ⟨gb256, 0, none⟩ (.int .i64 ((rd_T46 l1 x18_2).f0))).setCell ⟨gb256, 1, none⟩ (.int .i64 ((rd_T46 l1 x18_2).f1))).setCell ⟨gb256, 2, none⟩ (.bool ((rd_T46 l1 x18_2).f2)))) := ⟨by repeat (first | (with_reducible first | exact HB.out | apply νj | apply νh | apply νi | refine νg ?_ GE253.out | refine νg ?_ GE256.out) | exact HB.out)⟩
              (try clear BK253)
              (try clear BK256)
              (try clear HB)
              generalize (((w16.setCell ⟨gb256, 0, none⟩ (.int .i64 ((rd_T46 l1 x18_2).f0))).setCell ⟨gb256, 1, none⟩ (.int .i64 ((rd_T46 l1 x18_2).f1))).setCell ⟨gb256, 2, none⟩ (.bool ((rd_T46 l1 x18_2).f2))) = w26 at n0_ n1_ n2_ ⊢
              have BK253 := n0_
              have BK256 := n1_
              have HB := n2_
              clear n0_ n1_ n2_
              have n0_ := νp (νc BK253.out)
              have n1_ := νp (νc BK256.out)
              have n2_ := νp (νi HB.out)
              clear BK253
              clear BK256
              clear HB
              have BK253 := n0_
              have BK256 := n1_
              have HB := n2_
              clear n0_ n1_ n2_
              have p258 : 0 ≤ ((ji22) : Int) := of_decide_eq_true (by first | (with_reducible assumption) | assumption)
              have q258 : (ji22) < (l1.length : Int) := of_decide_eq_true (by first | (with_reducible assumption) | assumption)
              obtain ⟨ad258, e258, hx258_0, hx258_1, hx258_2⟩ := at_T46 HR1.out (ji22) p258 q258
              have hw258_2 := hx258_2
              have hw258_1 := hx258_1
              have hw258_0 := hx258_0
              obtain rfl : ad255 = ad258 := (by injection e258)
              replace hx258_0 := (HB.out.cell (World.block_lt_of_cell? w _ hx258_0)).trans hx258_0
              replace hx258_1 := (HB.out.cell (World.block_lt_of_cell? w _ hx258_1)).trans hx258_1
              replace hx258_2 := (HB.out.cell (World.block_lt_of_cell? w _ hx258_2)).trans hx258_2
              replace p258 := eq_true p258
              replace q258 := eq_true q258
              refine start_ (n := 33) (S := fun w' => w'.cell? ⟨gb253, 0, none⟩ = some (.int .i64 a0_0) ∧ w'.cell? ⟨gb253, 1, none⟩ = some (.int .i64 a0_1) ∧ w'.cell? ⟨gb253, 2, none⟩ = some (.int .i64 a0_2) ∧ w'.cell? ⟨gb256, 0, none⟩ = some (.int .i64 ((rd_T46 l1 x18_2).f0)) ∧ w'.cell? ⟨gb256, 1, none⟩ = some (.int .i64 ((rd_T46 l1 x18_2).f1)) ∧ w'.cell? ⟨gb256, 2, none⟩ = some (.bool ((rd_T46 l1 x18_2).f2)) ∧ w'.cell? (ad255.add (((ji22)).toNat * 3)) = some (.int .i64 ((rd_T46 l1 (ji22)).f0)) ∧ w'.cell? ⟨(ad255.add (((ji22)).toNat * 3)).block, (ad255.add (((ji22)).toNat * 3)).off + 1, none⟩ = some (.int .i64 ((rd_T46 l1 (ji22)).f1)) ∧ w'.cell? ⟨(ad255.add (((ji22)).toNat * 3)).block, (ad255.add (((ji22)).toNat * 3)).off + 2, none⟩ = some (.bool ((rd_T46 l1 (ji22)).f2))) (ds := []) ν0 (by kernel_rfl) rfl rfl ⟨(νk BK253.out 0).trans rfl, (νk BK253.out 1).trans rfl, (νk BK253.out 2).trans rfl, (νk BK256.out 0).trans rfl, (νk BK256.out 1).trans rfl, (νk BK256.out 2).trans rfl, ((HB.out.cell (World.block_lt_of_cell? w _ hw258_0)).trans hw258_0), ((HB.out.cell (World.block_lt_of_cell? w _ hw258_1)).trans hw258_1), ((HB.out.cell (World.block_lt_of_cell? w _ hw258_2)).trans hw258_2)⟩ (fun hHeld => ?_); refine with_tabW impl_AreOffers.tab7 impl_AreOffers.bits7 (fun HT_ HW_ => ?_)
              generalize w26.drew = w27 at BK253 BK256 HB hx258_0 hx258_1 hx258_2 hHeld ⊢
              refine pure_ (i := 1) (N := some 24) (v := ?_) (a' := ?_) ν1 rfl rfl (any_of HT_.out (by kernel_rfl)) (fun _ _ _ h => h) (Or.inl ⟨by rfl, ?_⟩) ?_ ?_
              rotate_left; · (intro w'; go_simp; with_reducible rfl)
              rotate_left; · (simp only [Act.put, νm, νn, νo, i64_w, i32_w]; rfl)
              refine take_ (i := 0) (N := some 23) (v := ?_) (a' := ?_) ν2 rfl rfl (take_ofW HT_.out HW_.out (by kernel_rfl)) (fun _ _ _ h => h) (Or.inl ⟨by rfl, ?_⟩) hHeld ?_ ?_
              rotate_left
              ·
               rintro w' ⟨s0, s1, s2, s3, s4, s5, s6, s7, s8⟩
               go_simp
               with_reducible rfl
              rotate_left
              ·
               simp only [Act.put, νm, νn, νo, i64_w, i32_w]
               rfl
              refine take_ (i := 2) (N := some 25) (v := ?_) (a' := ?_) ν3 rfl rfl (take_ofW HT_.out HW_.out (by kernel_rfl)) (fun _ _ _ h => h) (Or.inl ⟨by rfl, ?_⟩) hHeld ?_ ?_
              rotate_left
              ·
               rintro w' ⟨s0, s1, s2, s3, s4, s5, s6, s7, s8⟩
               go_simp
               with_reducible rfl
              rotate_left
              ·
               simp only [Act.put, νm, νn, νo, i64_w, i32_w]
               rfl
              refine one_ (i := 3) (N := some 26) ν4 rfl rfl (one_of HT_.out (by kernel_rfl)) (by decide) (fun K hK => ?_)
              refine goes_ Try.func17 (by kernel_rfl) rfl #[.agg #[.int .i64 a0_0, .int .i64 a0_1, .int .i64 a0_2], .int .i64 ((rd_T46 l1 x18_2).f0)] (by rfl) rfl rfl (by (try simp only [List.map_toArray, List.map_cons, List.map_nil]); first | done | rfl | (simp only [List.length_drop, List.length_take]; rfl)) ?_
              with_reducible refine (impl_MayOffer.calls a0_0 a0_1 a0_2 ((rd_T46 l1 x18_2).f0) true _ A19.out).mono ?_
              rintro e w28 ⟨rfl, hb⟩
              refine ⟨_, rfl, ?_⟩
              have n0_ := νp (blk_below (g := gb253) (o := .cells #[.int .i64 a0_0, .int .i64 a0_1, .int .i64 a0_2] 25 (0, 0)) (by (with_reducible repeat (first | refine νa ?_ _ | refine νc ?_ | refine νb ?_ _)); exact BK253.out) hb)
              have n1_ := νp (blk_below (g := gb256) (o := .cells #[.int .i64 ((rd_T46 l1 x18_2).f0), .int .i64 ((rd_T46 l1 x18_2).f1), .bool ((rd_T46 l1 x18_2).f2)] 46 (0, 0)) (by (with_reducible repeat (first | refine νa ?_ _ | refine νc ?_ | refine νb ?_ _)); exact BK256.out) hb)
              have n2_ := νp (below_step (by repeat (first | (with_reducible first | exact HB.out | apply νj | apply νh | apply νi | refine νg ?_ GE253.out | refine νg ?_ GE256.out) | exact HB.out)) hb)
              clear BK253
              clear BK256
              clear HB
              have BK253 := n0_
              have BK256 := n1_
              have HB := n2_
              clear n0_ n1_ n2_
              (try clear hb)
              (try clear hb2)
              (try clear hk)
              (try clear hi)
              refine hK.out _ _ ⟨(νk BK253.out 0).trans rfl, (νk BK253.out 1).trans rfl, (νk BK253.out 2).trans rfl, (νk BK256.out 0).trans rfl, (νk BK256.out 1).trans rfl, (νk BK256.out 2).trans rfl, ((HB.out.cell (World.block_lt_of_cell? w _ hw258_0)).trans hw258_0), ((HB.out.cell (World.block_lt_of_cell? w _ hw258_1)).trans hw258_1), ((HB.out.cell (World.block_lt_of_cell? w _ hw258_2)).trans hw258_2)⟩ (fun hHeld => ?_)
              clear hK K
              refine norm_ (a' := ?_) ?_ ?_
              rotate_left
              ·
               show Act.put _ (some 26) _ = _
               simp only [Act.put, νm, νn, νo, i64_w, i32_w]
               rfl
              refine pure_ (i := 4) (N := some 27) (v := ?_) (a' := ?_) ν5 rfl rfl (any_of HT_.out (by kernel_rfl)) (fun _ _ _ h => h) (Or.inl ⟨by rfl, ?_⟩) ?_ ?_
              rotate_left; · (intro w'; go_simp; with_reducible rfl)
              rotate_left; · (simp only [Act.put, νm, νn, νo, i64_w, i32_w]; rfl)
              refine pure_ (i := 5) (N := some 28) (v := ?_) (a' := ?_) ν6 rfl rfl (any_of HT_.out (by kernel_rfl)) (fun _ _ _ h => h) (Or.inl ⟨by rfl, ?_⟩) ?_ ?_
              rotate_left; · (intro w'; go_simp; with_reducible rfl)
              rotate_left; · (simp only [Act.put, νm, νn, νo, i64_w, i32_w]; rfl)
              refine pure_ (i := 6) (N := some 29) (v := ?_) (a' := ?_) ν7 rfl rfl (any_of HT_.out (by kernel_rfl)) (fun _ _ _ h => h) (Or.inl ⟨by rfl, ?_⟩) ?_ ?_
              rotate_left; · (intro w'; go_simp; with_reducible rfl)
              rotate_left; · (simp only [Act.put, νm, νn, νo, i64_w, i32_w]; rfl)
              refine pure_ (i := 7) (N := some 30) (v := ?_) (a' := ?_) ν8 rfl rfl (any_of HT_.out (by kernel_rfl)) (fun _ _ _ h => h) (Or.inl ⟨by rfl, ?_⟩) ?_ ?_
              rotate_left; · (intro w'; go_simp; with_reducible rfl)
              rotate_left; · (simp only [Act.put, νm, νn, νo, i64_w, i32_w]; rfl)
              refine pure_ (i := 8) (N := some 31) (v := ?_) (a' := ?_) ν9 rfl rfl (any_of HT_.out (by kernel_rfl)) (fun _ _ _ h => h) (Or.inl ⟨by rfl, ?_⟩) ?_ ?_
              rotate_left; · (intro w'; go_simp; with_reducible rfl)
              rotate_left; · (simp only [Act.put, νm, νn, νo, i64_w, i32_w]; rfl)
              refine pure_ (i := 9) (N := some 32) (v := ?_) (a' := ?_) ν10 rfl rfl (any_of HT_.out (by kernel_rfl)) (fun _ _ _ h => h) (Or.inl ⟨by rfl, ?_⟩) ?_ ?_
              rotate_left; · (intro w'; go_simp; with_reducible rfl)
              rotate_left; · (simp only [Act.put, νm, νn, νo, i64_w, i32_w]; rfl)
              refine pure_ (i := 11) (N := some 34) (v := ?_) (a' := ?_) ν11 rfl rfl (any_of HT_.out (by kernel_rfl)) (fun _ _ _ h => h) (Or.inl ⟨by rfl, ?_⟩) ?_ ?_
              rotate_left; · (intro w'; go_simp; with_reducible rfl)
              rotate_left; · (simp only [Act.put, νm, νn, νo, i64_w, i32_w]; rfl)
              refine pure_ (i := 12) (N := some 35) (v := ?_) (a' := ?_) ν12 rfl rfl (any_of HT_.out (by kernel_rfl)) (fun _ _ _ h => h) (Or.inl ⟨by rfl, ?_⟩) ?_ ?_
              rotate_left; · (intro w'; go_simp; with_reducible rfl)
              rotate_left; · (simp only [Act.put, νm, νn, νo, i64_w, i32_w]; rfl)
              refine pure_ (i := 13) (N := some 36) (v := ?_) (a' := ?_) ν13 rfl rfl (any_of HT_.out (by kernel_rfl)) (fun _ _ _ h => h) (Or.inl ⟨by rfl, ?_⟩) ?_ ?_
              rotate_left; · (intro w'; go_simp; with_reducible rfl)
              rotate_left; · (simp only [Act.put, νm, νn, νo, i64_w, i32_w]; rfl)
              refine pure_ (i := 14) (N := some 37) (v := ?_) (a' := ?_) ν14 rfl rfl (any_of HT_.out (by kernel_rfl)) (fun _ _ _ h => h) (Or.inl ⟨by rfl, ?_⟩) ?_ ?_
              rotate_left; · (intro w'; go_simp; with_reducible rfl)
              rotate_left; · (simp only [Act.put, νm, νn, νo, i64_w, i32_w]; rfl)
              refine pure_ (i := 15) (N := some 38) (v := ?_) (a' := ?_) ν15 rfl rfl (any_of HT_.out (by kernel_rfl)) (fun _ _ _ h => h) (Or.inl ⟨by rfl, ?_⟩) ?_ ?_
              rotate_left; · (intro w'; go_simp; with_reducible rfl)
              rotate_left; · (simp only [Act.put, νm, νn, νo, i64_w, i32_w]; rfl)
              refine take_ (i := 10) (N := some 33) (v := ?_) (a' := ?_) ν16 rfl rfl (take_ofW HT_.out HW_.out (by kernel_rfl)) (fun _ _ _ h => h) (Or.inl ⟨by rfl, ?_⟩) hHeld ?_ ?_
              rotate_left
              ·
               rintro w' ⟨s0, s1, s2, s3, s4, s5, s6, s7, s8⟩
               go_simp
               with_reducible rfl
              rotate_left
              ·
               simp only [Act.put, νm, νn, νo, i64_w, i32_w]
               rfl
              refine take_ (i := 16) (N := some 39) (v := ?_) (a' := ?_) ν17 rfl rfl (take_ofW HT_.out HW_.out (by kernel_rfl)) (fun _ _ _ h => h) (Or.inl ⟨by rfl, ?_⟩) hHeld ?_ ?_
              rotate_left
              ·
               rintro w' ⟨s0, s1, s2, s3, s4, s5, s6, s7, s8⟩
               go_simp
               with_reducible rfl
              rotate_left
              ·
               simp only [Act.put, νm, νn, νo, i64_w, i32_w]
               rfl
              refine pure_ (i := 17) (N := some 40) (v := ?_) (a' := ?_) ν18 rfl rfl (any_of HT_.out (by kernel_rfl)) (fun _ _ _ h => h) (Or.inl ⟨by rfl, ?_⟩) ?_ ?_
              rotate_left; · (intro w'; go_simp; with_reducible rfl)
              rotate_left; · (simp only [Act.put, νm, νn, νo, i64_w, i32_w]; rfl)
              refine pure_ (i := 18) (N := some 41) (v := ?_) (a' := ?_) ν19 rfl rfl (any_of HT_.out (by kernel_rfl)) (fun _ _ _ h => h) (Or.inl ⟨by rfl, ?_⟩) ?_ ?_
              rotate_left; · (intro w'; go_simp; with_reducible rfl)
              rotate_left; · (simp only [Act.put, νm, νn, νo, i64_w, i32_w]; rfl)
              refine pure_ (i := 19) (N := some 42) (v := ?_) (a' := ?_) ν20 rfl rfl (any_of HT_.out (by kernel_rfl)) (fun _ _ _ h => h) (Or.inl ⟨by rfl, ?_⟩) ?_ ?_
              rotate_left; · (intro w'; go_simp; with_reducible rfl)
              rotate_left; · (simp only [Act.put, νm, νn, νo, i64_w, i32_w]; rfl)
              refine pure_ (i := 20) (N := some 43) (v := ?_) (a' := ?_) ν21 rfl rfl (any_of HT_.out (by kernel_rfl)) (fun _ _ _ h => h) (Or.inl ⟨by rfl, ?_⟩) ?_ ?_
              rotate_left; · (intro w'; go_simp; with_reducible rfl)
              rotate_left; · (simp only [Act.put, νm, νn, νo, i64_w, i32_w]; rfl)
              refine pure_ (i := 21) (N := some 44) (v := undef) (a' := ?_) ν22 rfl rfl (any_of HT_.out (by kernel_rfl)) (fun _ _ _ h => h) (Or.inr ⟨by rfl, rfl⟩) ?_ ?_
              rotate_left
              ·
               simp only [Act.put, νm, νn, νo, i64_w, i32_w]
               rfl
              refine pure_ (i := 22) (N := some 45) (v := undef) (a' := ?_) ν23 rfl rfl (any_of HT_.out (by kernel_rfl)) (fun _ _ _ h => h) (Or.inr ⟨by rfl, rfl⟩) ?_ ?_
              rotate_left
              ·
               simp only [Act.put, νm, νn, νo, i64_w, i32_w]
               rfl
              refine pure_ (i := 23) (N := some 46) (v := undef) (a' := ?_) ν24 rfl rfl (any_of HT_.out (by kernel_rfl)) (fun _ _ _ h => h) (Or.inr ⟨by rfl, rfl⟩) ?_ ?_
              rotate_left
              ·
               simp only [Act.put, νm, νn, νo, i64_w, i32_w]
               rfl
              refine pure_ (i := 24) (N := some 47) (v := undef) (a' := ?_) ν25 rfl rfl (any_of HT_.out (by kernel_rfl)) (fun _ _ _ h => h) (Or.inr ⟨by rfl, rfl⟩) ?_ ?_
              rotate_left
              ·
               simp only [Act.put, νm, νn, νo, i64_w, i32_w]
               rfl
              refine pure_ (i := 25) (N := some 48) (v := ?_) (a' := ?_) ν26 rfl rfl (any_of HT_.out (by kernel_rfl)) (fun _ _ _ h => h) (Or.inl ⟨by rfl, ?_⟩) ?_ ?_
              rotate_left; · (intro w'; go_simp; with_reducible rfl)
              rotate_left; · (simp only [Act.put, νm, νn, νo, i64_w, i32_w]; rfl)
              refine pure_ (i := 26) (N := some 49) (v := ?_) (a' := ?_) ν27 rfl rfl (any_of HT_.out (by kernel_rfl)) (fun _ _ _ h => h) (Or.inl ⟨by rfl, ?_⟩) ?_ ?_
              rotate_left; · (intro w'; go_simp; with_reducible rfl)
              rotate_left; · (simp only [Act.put, νm, νn, νo, i64_w, i32_w]; rfl)
              refine pure_ (i := 27) (N := some 50) (v := undef) (a' := ?_) ν28 rfl rfl (any_of HT_.out (by kernel_rfl)) (fun _ _ _ h => h) (Or.inr ⟨by rfl, rfl⟩) ?_ ?_
              rotate_left
              ·
               simp only [Act.put, νm, νn, νo, i64_w, i32_w]
               rfl
              refine pure_ (i := 28) (N := some 51) (v := undef) (a' := ?_) ν29 rfl rfl (any_of HT_.out (by kernel_rfl)) (fun _ _ _ h => h) (Or.inr ⟨by rfl, rfl⟩) ?_ ?_
              rotate_left
              ·
               simp only [Act.put, νm, νn, νo, i64_w, i32_w]
               rfl
              refine pure_ (i := 29) (N := some 52) (v := undef) (a' := ?_) ν30 rfl rfl (any_of HT_.out (by kernel_rfl)) (fun _ _ _ h => h) (Or.inr ⟨by rfl, rfl⟩) ?_ ?_
              rotate_left
              ·
               simp only [Act.put, νm, νn, νo, i64_w, i32_w]
               rfl
              refine pure_ (i := 30) (N := some 53) (v := undef) (a' := ?_) ν31 rfl rfl (any_of HT_.out (by kernel_rfl)) (fun _ _ _ h => h) (Or.inr ⟨by rfl, rfl⟩) ?_ ?_
              rotate_left
              ·
               simp only [Act.put, νm, νn, νo, i64_w, i32_w]
               rfl
              refine pure_ (i := 31) (N := some 54) (v := undef) (a' := ?_) ν32 rfl rfl (any_of HT_.out (by kernel_rfl)) (fun _ _ _ h => h) (Or.inr ⟨by rfl, rfl⟩) ?_ ?_
              rotate_left
              ·
               simp only [Act.put, νm, νn, νo, i64_w, i32_w]
               rfl
              refine pure_ (i := 32) (N := some 55) (v := ?_) (a' := ?_) ν33 rfl rfl (any_of HT_.out (by kernel_rfl)) (fun _ _ _ h => h) (Or.inl ⟨by rfl, ?_⟩) ?_ ?_
              rotate_left; · (intro w'; go_simp; with_reducible rfl)
              rotate_left; · (simp only [Act.put, νm, νn, νo, i64_w, i32_w]; rfl)
              refine done_ (done_of HT_.out (by kernel_rfl)) ?_
              try go_wp2
              go_meet
              case rel => exact ⟨_, (true), (by first | rfl | (simp; done) | (simp [*]; done)), H', ⟨by have := HJ2.out; have := HK2.out; first | omega | exact Nat.le_refl _⟩, ⟨by (with_reducible repeat (first | refine νa ?_ _ | refine νc ?_ | refine νb ?_ _)); exact BK253.out⟩, ⟨by (with_reducible repeat (first | refine νa ?_ _ | refine νc ?_ | refine νb ?_ _)); exact BK256.out⟩, ⟨by repeat (first | (with_reducible first | exact HB.out | apply νj | apply νh | apply νi | refine νg ?_ GE253.out | refine νg ?_ GE256.out) | exact HB.out)⟩⟩
             rw [if_neg c25] at H
             have c25b0 : decide (((rd_T46 l1 x18_2).f0) ≤ ((rd_T46 l1 (ji22)).f0)) = false := decide_eq_false c25
             clear c25
             replace H := Option.bind_eq_some_iff.mp H
             obtain ⟨t259, A290, H⟩ := H
             try dsimp only at H
             have A29 := νp A290
             clear A290
             by_cases c30 : t259 = true
             ·
              subst c30
              rw [if_pos rfl] at H
              have H' := νp H
              clear H
              try go_wp2
              have n0_ : Aside0 ((((w16.setCell ⟨gb256, 0, none⟩ (.int .i64 ((rd_T46 l1 x18_2).f0))).setCell ⟨gb256, 1, none⟩ (.int .i64 ((rd_T46 l1 x18_2).f1))).setCell ⟨gb256, 2, none⟩ (.bool ((rd_T46 l1 x18_2).f2))).heap[gb253]? = some (.cells #[.int .i64 a0_0, .int .i64 a0_1, .int .i64 a0_2] 25 (0, 0))) := ⟨by (with_reducible repeat (first | refine νa ?_ _ | refine νc ?_ | refine νb ?_ _)); refine blk_far ?_ NB253_256.out _; (with_reducible repeat (first | refine νa ?_ _ | refine νc ?_ | refine νb ?_ _)); refine blk_far ?_ NB253_256.out _; (with_reducible repeat (first | refine νa ?_ _ | refine νc ?_ | refine νb ?_ _)); refine blk_far ?_ NB253_256.out _; (with_reducible repeat (first | refine νa ?_ _ | refine νc ?_ | refine νb ?_ _)); exact BK253.out⟩
              have n1_ : Aside0 ((((w16.setCell ⟨gb256, 0, none⟩ (.int .i64 ((rd_T46 l1 x18_2).f0))).setCell ⟨gb256, 1, none⟩ (.int .i64 ((rd_T46 l1 x18_2).f1))).setCell ⟨gb256, 2, none⟩ (.bool ((rd_T46 l1 x18_2).f2))).heap[gb256]? = some (.cells #[.int .i64 ((rd_T46 l1 x18_2).f0), .int .i64 ((rd_T46 l1 x18_2).f1), .bool ((rd_T46 l1 x18_2).f2)] 46 (0, 0))) := ⟨by (with_reducible repeat (first | refine νa ?_ _ | refine νc ?_ | refine νb ?_ _)); refine blk_put (cs := #[.int .i64 ((rd_T46 l1 x18_2).f0), .int .i64 ((rd_T46 l1 x18_2).f1), .bool false]) ?_ 2 _ rfl; (with_reducible repeat (first | refine νa ?_ _ | refine νc ?_ | refine νb ?_ _)); refine blk_put (cs := #[.int .i64 ((rd_T46 l1 x18_2).f0), .int .i64 0, .bool false]) ?_ 1 _ rfl; (with_reducible repeat (first | refine νa ?_ _ | refine νc ?_ | refine νb ?_ _)); refine blk_put (cs := #[.int .i64 0, .int .i64 0, .bool false]) ?_ 0 _ rfl; (with_reducible repeat (first | refine νa ?_ _ | refine νc ?_ | refine νb ?_ _)); exact BK256.out⟩
              have n2_ : Aside0 (Below w.heap.size w (((w16.setCell ⟨gb256, 0, none⟩ (.int .i64 ((rd_T46 l1 x18_2).f0))).setCell ⟨gb256, 1, none⟩ (.int .i64 ((rd_T46 l1 x18_2).f1))).setCell ⟨gb256, 2, none⟩ (.bool ((rd_T46 l1 x18_2).f2)))) := ⟨by repeat (first | (with_reducible first | exact HB.out | apply νj | apply νh | apply νi | refine νg ?_ GE253.out | refine νg ?_ GE256.out) | exact HB.out)⟩
              (try clear BK253)
              (try clear BK256)
              (try clear HB)
              generalize (((w16.setCell ⟨gb256, 0, none⟩ (.int .i64 ((rd_T46 l1 x18_2).f0))).setCell ⟨gb256, 1, none⟩ (.int .i64 ((rd_T46 l1 x18_2).f1))).setCell ⟨gb256, 2, none⟩ (.bool ((rd_T46 l1 x18_2).f2))) = w31 at n0_ n1_ n2_ ⊢
              have BK253 := n0_
              have BK256 := n1_
              have HB := n2_
              clear n0_ n1_ n2_
              have n0_ := νp (νc BK253.out)
              have n1_ := νp (νc BK256.out)
              have n2_ := νp (νi HB.out)
              clear BK253
              clear BK256
              clear HB
              have BK253 := n0_
              have BK256 := n1_
              have HB := n2_
              clear n0_ n1_ n2_
              have p258 : 0 ≤ ((ji22) : Int) := of_decide_eq_true (by first | (with_reducible assumption) | assumption)
              have q258 : (ji22) < (l1.length : Int) := of_decide_eq_true (by first | (with_reducible assumption) | assumption)
              obtain ⟨ad258, e258, hx258_0, hx258_1, hx258_2⟩ := at_T46 HR1.out (ji22) p258 q258
              have hw258_2 := hx258_2
              have hw258_1 := hx258_1
              have hw258_0 := hx258_0
              obtain rfl : ad255 = ad258 := (by injection e258)
              replace hx258_0 := (HB.out.cell (World.block_lt_of_cell? w _ hx258_0)).trans hx258_0
              replace hx258_1 := (HB.out.cell (World.block_lt_of_cell? w _ hx258_1)).trans hx258_1
              replace hx258_2 := (HB.out.cell (World.block_lt_of_cell? w _ hx258_2)).trans hx258_2
              replace p258 := eq_true p258
              replace q258 := eq_true q258
              refine start_ (n := 33) (S := fun w' => w'.cell? ⟨gb253, 0, none⟩ = some (.int .i64 a0_0) ∧ w'.cell? ⟨gb253, 1, none⟩ = some (.int .i64 a0_1) ∧ w'.cell? ⟨gb253, 2, none⟩ = some (.int .i64 a0_2) ∧ w'.cell? ⟨gb256, 0, none⟩ = some (.int .i64 ((rd_T46 l1 x18_2).f0)) ∧ w'.cell? ⟨gb256, 1, none⟩ = some (.int .i64 ((rd_T46 l1 x18_2).f1)) ∧ w'.cell? ⟨gb256, 2, none⟩ = some (.bool ((rd_T46 l1 x18_2).f2)) ∧ w'.cell? (ad255.add (((ji22)).toNat * 3)) = some (.int .i64 ((rd_T46 l1 (ji22)).f0)) ∧ w'.cell? ⟨(ad255.add (((ji22)).toNat * 3)).block, (ad255.add (((ji22)).toNat * 3)).off + 1, none⟩ = some (.int .i64 ((rd_T46 l1 (ji22)).f1)) ∧ w'.cell? ⟨(ad255.add (((ji22)).toNat * 3)).block, (ad255.add (((ji22)).toNat * 3)).off + 2, none⟩ = some (.bool ((rd_T46 l1 (ji22)).f2))) (ds := []) ν0 (by kernel_rfl) rfl rfl ⟨(νk BK253.out 0).trans rfl, (νk BK253.out 1).trans rfl, (νk BK253.out 2).trans rfl, (νk BK256.out 0).trans rfl, (νk BK256.out 1).trans rfl, (νk BK256.out 2).trans rfl, ((HB.out.cell (World.block_lt_of_cell? w _ hw258_0)).trans hw258_0), ((HB.out.cell (World.block_lt_of_cell? w _ hw258_1)).trans hw258_1), ((HB.out.cell (World.block_lt_of_cell? w _ hw258_2)).trans hw258_2)⟩ (fun hHeld => ?_); refine with_tabW impl_AreOffers.tab7 impl_AreOffers.bits7 (fun HT_ HW_ => ?_)
              generalize w31.drew = w32 at BK253 BK256 HB hx258_0 hx258_1 hx258_2 hHeld ⊢
              refine pure_ (i := 1) (N := some 24) (v := ?_) (a' := ?_) ν1 rfl rfl (any_of HT_.out (by kernel_rfl)) (fun _ _ _ h => h) (Or.inl ⟨by rfl, ?_⟩) ?_ ?_
              rotate_left; · (intro w'; go_simp; with_reducible rfl)
              rotate_left; · (simp only [Act.put, νm, νn, νo, i64_w, i32_w]; rfl)
              refine take_ (i := 0) (N := some 23) (v := ?_) (a' := ?_) ν2 rfl rfl (take_ofW HT_.out HW_.out (by kernel_rfl)) (fun _ _ _ h => h) (Or.inl ⟨by rfl, ?_⟩) hHeld ?_ ?_
              rotate_left
              ·
               rintro w' ⟨s0, s1, s2, s3, s4, s5, s6, s7, s8⟩
               go_simp
               with_reducible rfl
              rotate_left
              ·
               simp only [Act.put, νm, νn, νo, i64_w, i32_w]
               rfl
              refine take_ (i := 2) (N := some 25) (v := ?_) (a' := ?_) ν3 rfl rfl (take_ofW HT_.out HW_.out (by kernel_rfl)) (fun _ _ _ h => h) (Or.inl ⟨by rfl, ?_⟩) hHeld ?_ ?_
              rotate_left
              ·
               rintro w' ⟨s0, s1, s2, s3, s4, s5, s6, s7, s8⟩
               go_simp
               with_reducible rfl
              rotate_left
              ·
               simp only [Act.put, νm, νn, νo, i64_w, i32_w]
               rfl
              refine one_ (i := 3) (N := some 26) ν4 rfl rfl (one_of HT_.out (by kernel_rfl)) (by decide) (fun K hK => ?_)
              refine goes_ Try.func17 (by kernel_rfl) rfl #[.agg #[.int .i64 a0_0, .int .i64 a0_1, .int .i64 a0_2], .int .i64 ((rd_T46 l1 x18_2).f0)] (by rfl) rfl rfl (by (try simp only [List.map_toArray, List.map_cons, List.map_nil]); first | done | rfl | (simp only [List.length_drop, List.length_take]; rfl)) ?_
              with_reducible refine (impl_MayOffer.calls a0_0 a0_1 a0_2 ((rd_T46 l1 x18_2).f0) true _ A19.out).mono ?_
              rintro e w33 ⟨rfl, hb⟩
              refine ⟨_, rfl, ?_⟩
              have n0_ := νp (blk_below (g := gb253) (o := .cells #[.int .i64 a0_0, .int .i64 a0_1, .int .i64 a0_2] 25 (0, 0)) (by (with_reducible repeat (first | refine νa ?_ _ | refine νc ?_ | refine νb ?_ _)); exact BK253.out) hb)
              have n1_ := νp (blk_below (g := gb256) (o := .cells #[.int .i64 ((rd_T46 l1 x18_2).f0), .int .i64 ((rd_T46 l1 x18_2).f1), .bool ((rd_T46 l1 x18_2).f2)] 46 (0, 0)) (by (with_reducible repeat (first | refine νa ?_ _ | refine νc ?_ | refine νb ?_ _)); exact BK256.out) hb)
              have n2_ := νp (below_step (by repeat (first | (with_reducible first | exact HB.out | apply νj | apply νh | apply νi | refine νg ?_ GE253.out | refine νg ?_ GE256.out) | exact HB.out)) hb)
              clear BK253
              clear BK256
              clear HB
              have BK253 := n0_
              have BK256 := n1_
              have HB := n2_
              clear n0_ n1_ n2_
              (try clear hb)
              (try clear hb2)
              (try clear hk)
              (try clear hi)
              refine hK.out _ _ ⟨(νk BK253.out 0).trans rfl, (νk BK253.out 1).trans rfl, (νk BK253.out 2).trans rfl, (νk BK256.out 0).trans rfl, (νk BK256.out 1).trans rfl, (νk BK256.out 2).trans rfl, ((HB.out.cell (World.block_lt_of_cell? w _ hw258_0)).trans hw258_0), ((HB.out.cell (World.block_lt_of_cell? w _ hw258_1)).trans hw258_1), ((HB.out.cell (World.block_lt_of_cell? w _ hw258_2)).trans hw258_2)⟩ (fun hHeld => ?_)
              clear hK K
              refine norm_ (a' := ?_) ?_ ?_
              rotate_left
              ·
               show Act.put _ (some 26) _ = _
               simp only [Act.put, νm, νn, νo, i64_w, i32_w]
               rfl
              refine pure_ (i := 4) (N := some 27) (v := ?_) (a' := ?_) ν5 rfl rfl (any_of HT_.out (by kernel_rfl)) (fun _ _ _ h => h) (Or.inl ⟨by rfl, ?_⟩) ?_ ?_
              rotate_left; · (intro w'; go_simp; with_reducible rfl)
              rotate_left; · (simp only [Act.put, νm, νn, νo, i64_w, i32_w]; rfl)
              refine pure_ (i := 5) (N := some 28) (v := ?_) (a' := ?_) ν6 rfl rfl (any_of HT_.out (by kernel_rfl)) (fun _ _ _ h => h) (Or.inl ⟨by rfl, ?_⟩) ?_ ?_
              rotate_left; · (intro w'; go_simp; with_reducible rfl)
              rotate_left; · (simp only [Act.put, νm, νn, νo, i64_w, i32_w]; rfl)
              refine pure_ (i := 6) (N := some 29) (v := ?_) (a' := ?_) ν7 rfl rfl (any_of HT_.out (by kernel_rfl)) (fun _ _ _ h => h) (Or.inl ⟨by rfl, ?_⟩) ?_ ?_
              rotate_left; · (intro w'; go_simp; with_reducible rfl)
              rotate_left; · (simp only [Act.put, νm, νn, νo, i64_w, i32_w]; rfl)
              refine pure_ (i := 7) (N := some 30) (v := ?_) (a' := ?_) ν8 rfl rfl (any_of HT_.out (by kernel_rfl)) (fun _ _ _ h => h) (Or.inl ⟨by rfl, ?_⟩) ?_ ?_
              rotate_left; · (intro w'; go_simp; with_reducible rfl)
              rotate_left; · (simp only [Act.put, νm, νn, νo, i64_w, i32_w]; rfl)
              refine pure_ (i := 8) (N := some 31) (v := ?_) (a' := ?_) ν9 rfl rfl (any_of HT_.out (by kernel_rfl)) (fun _ _ _ h => h) (Or.inl ⟨by rfl, ?_⟩) ?_ ?_
              rotate_left; · (intro w'; go_simp; with_reducible rfl)
              rotate_left; · (simp only [Act.put, νm, νn, νo, i64_w, i32_w]; rfl)
              refine pure_ (i := 9) (N := some 32) (v := ?_) (a' := ?_) ν10 rfl rfl (any_of HT_.out (by kernel_rfl)) (fun _ _ _ h => h) (Or.inl ⟨by rfl, ?_⟩) ?_ ?_
              rotate_left; · (intro w'; go_simp; with_reducible rfl)
              rotate_left; · (simp only [Act.put, νm, νn, νo, i64_w, i32_w]; rfl)
              refine pure_ (i := 11) (N := some 34) (v := ?_) (a' := ?_) ν11 rfl rfl (any_of HT_.out (by kernel_rfl)) (fun _ _ _ h => h) (Or.inl ⟨by rfl, ?_⟩) ?_ ?_
              rotate_left; · (intro w'; go_simp; with_reducible rfl)
              rotate_left; · (simp only [Act.put, νm, νn, νo, i64_w, i32_w]; rfl)
              refine pure_ (i := 12) (N := some 35) (v := ?_) (a' := ?_) ν12 rfl rfl (any_of HT_.out (by kernel_rfl)) (fun _ _ _ h => h) (Or.inl ⟨by rfl, ?_⟩) ?_ ?_
              rotate_left; · (intro w'; go_simp; with_reducible rfl)
              rotate_left; · (simp only [Act.put, νm, νn, νo, i64_w, i32_w]; rfl)
              refine pure_ (i := 13) (N := some 36) (v := ?_) (a' := ?_) ν13 rfl rfl (any_of HT_.out (by kernel_rfl)) (fun _ _ _ h => h) (Or.inl ⟨by rfl, ?_⟩) ?_ ?_
              rotate_left; · (intro w'; go_simp; with_reducible rfl)
              rotate_left; · (simp only [Act.put, νm, νn, νo, i64_w, i32_w]; rfl)
              refine pure_ (i := 14) (N := some 37) (v := ?_) (a' := ?_) ν14 rfl rfl (any_of HT_.out (by kernel_rfl)) (fun _ _ _ h => h) (Or.inl ⟨by rfl, ?_⟩) ?_ ?_
              rotate_left; · (intro w'; go_simp; with_reducible rfl)
              rotate_left; · (simp only [Act.put, νm, νn, νo, i64_w, i32_w]; rfl)
              refine pure_ (i := 15) (N := some 38) (v := ?_) (a' := ?_) ν15 rfl rfl (any_of HT_.out (by kernel_rfl)) (fun _ _ _ h => h) (Or.inl ⟨by rfl, ?_⟩) ?_ ?_
              rotate_left; · (intro w'; go_simp; with_reducible rfl)
              rotate_left; · (simp only [Act.put, νm, νn, νo, i64_w, i32_w]; rfl)
              refine take_ (i := 10) (N := some 33) (v := ?_) (a' := ?_) ν16 rfl rfl (take_ofW HT_.out HW_.out (by kernel_rfl)) (fun _ _ _ h => h) (Or.inl ⟨by rfl, ?_⟩) hHeld ?_ ?_
              rotate_left
              ·
               rintro w' ⟨s0, s1, s2, s3, s4, s5, s6, s7, s8⟩
               go_simp
               with_reducible rfl
              rotate_left
              ·
               simp only [Act.put, νm, νn, νo, i64_w, i32_w]
               rfl
              refine take_ (i := 16) (N := some 39) (v := ?_) (a' := ?_) ν17 rfl rfl (take_ofW HT_.out HW_.out (by kernel_rfl)) (fun _ _ _ h => h) (Or.inl ⟨by rfl, ?_⟩) hHeld ?_ ?_
              rotate_left
              ·
               rintro w' ⟨s0, s1, s2, s3, s4, s5, s6, s7, s8⟩
               go_simp
               with_reducible rfl
              rotate_left
              ·
               simp only [Act.put, νm, νn, νo, i64_w, i32_w]
               rfl
              refine pure_ (i := 17) (N := some 40) (v := ?_) (a' := ?_) ν18 rfl rfl (any_of HT_.out (by kernel_rfl)) (fun _ _ _ h => h) (Or.inl ⟨by rfl, ?_⟩) ?_ ?_
              rotate_left; · (intro w'; go_simp; with_reducible rfl)
              rotate_left; · (simp only [Act.put, νm, νn, νo, i64_w, i32_w]; rfl)
              refine pure_ (i := 18) (N := some 41) (v := ?_) (a' := ?_) ν19 rfl rfl (any_of HT_.out (by kernel_rfl)) (fun _ _ _ h => h) (Or.inl ⟨by rfl, ?_⟩) ?_ ?_
              rotate_left; · (intro w'; go_simp; with_reducible rfl)
              rotate_left; · (simp only [Act.put, νm, νn, νo, i64_w, i32_w]; rfl)
              refine pure_ (i := 19) (N := some 42) (v := ?_) (a' := ?_) ν20 rfl rfl (any_of HT_.out (by kernel_rfl)) (fun _ _ _ h => h) (Or.inl ⟨by rfl, ?_⟩) ?_ ?_
              rotate_left; · (intro w'; go_simp; with_reducible rfl)
              rotate_left; · (simp only [Act.put, νm, νn, νo, i64_w, i32_w]; rfl)
              refine pure_ (i := 20) (N := some 43) (v := ?_) (a' := ?_) ν21 rfl rfl (any_of HT_.out (by kernel_rfl)) (fun _ _ _ h => h) (Or.inl ⟨by rfl, ?_⟩) ?_ ?_
              rotate_left; · (intro w'; go_simp; with_reducible rfl)
              rotate_left; · (simp only [Act.put, νm, νn, νo, i64_w, i32_w]; rfl)
              refine pure_ (i := 21) (N := some 44) (v := ?_) (a' := ?_) ν22 rfl rfl (any_of HT_.out (by kernel_rfl)) (fun _ _ _ h => h) (Or.inl ⟨by rfl, ?_⟩) ?_ ?_
              rotate_left; · (intro w'; go_simp; with_reducible rfl)
              rotate_left; · (simp only [Act.put, νm, νn, νo, i64_w, i32_w]; rfl)
              refine take_ (i := 22) (N := some 45) (v := ?_) (a' := ?_) ν23 rfl rfl (take_ofW HT_.out HW_.out (by kernel_rfl)) (fun _ _ _ h => h) (Or.inl ⟨by rfl, ?_⟩) hHeld ?_ ?_
              rotate_left
              ·
               rintro w' ⟨s0, s1, s2, s3, s4, s5, s6, s7, s8⟩
               go_simp
               with_reducible rfl
              rotate_left
              ·
               simp only [Act.put, νm, νn, νo, i64_w, i32_w]
               rfl
              refine one_ (i := 23) (N := some 46) ν24 rfl rfl (one_of HT_.out (by kernel_rfl)) (by decide) (fun K hK => ?_)
              refine goes_ Try.func55 (by kernel_rfl) rfl #[.int .i64 ((rd_T46 l1 x18_2).f1), .int .i64 1, .int .i64 99] (by rfl) rfl rfl (by (try simp only [List.map_toArray, List.map_cons, List.map_nil]); first | done | rfl | (simp only [List.length_drop, List.length_take]; rfl)) ?_
              with_reducible refine (impl_InRange.calls ((rd_T46 l1 x18_2).f1) 1 99 true _ A29.out).mono ?_
              rintro e w' ⟨rfl, ⟨nd, rfl⟩⟩
              refine ⟨_, rfl, ?_⟩
              refine hK.out _ _ ⟨(νk BK253.out 0).trans rfl, (νk BK253.out 1).trans rfl, (νk BK253.out 2).trans rfl, (νk BK256.out 0).trans rfl, (νk BK256.out 1).trans rfl, (νk BK256.out 2).trans rfl, ((HB.out.cell (World.block_lt_of_cell? w _ hw258_0)).trans hw258_0), ((HB.out.cell (World.block_lt_of_cell? w _ hw258_1)).trans hw258_1), ((HB.out.cell (World.block_lt_of_cell? w _ hw258_2)).trans hw258_2)⟩ (fun hHeld => ?_)
              clear hK K
              refine norm_ (a' := ?_) ?_ ?_
              rotate_left
              ·
               show Act.put _ (some 46) _ = _
               simp only [Act.put, νm, νn, νo, i64_w, i32_w]
               rfl
              refine pure_ (i := 24) (N := some 47) (v := ?_) (a' := ?_) ν25 rfl rfl (any_of HT_.out (by kernel_rfl)) (fun _ _ _ h => h) (Or.inl ⟨by rfl, ?_⟩) ?_ ?_
              rotate_left; · (intro w'; go_simp; with_reducible rfl)
              rotate_left; · (simp only [Act.put, νm, νn, νo, i64_w, i32_w]; rfl)
              refine pure_ (i := 25) (N := some 48) (v := ?_) (a' := ?_) ν26 rfl rfl (any_of HT_.out (by kernel_rfl)) (fun _ _ _ h => h) (Or.inl ⟨by rfl, ?_⟩) ?_ ?_
              rotate_left; · (intro w'; go_simp; with_reducible rfl)
              rotate_left; · (simp only [Act.put, νm, νn, νo, i64_w, i32_w]; rfl)
              refine pure_ (i := 26) (N := some 49) (v := ?_) (a' := ?_) ν27 rfl rfl (any_of HT_.out (by kernel_rfl)) (fun _ _ _ h => h) (Or.inl ⟨by rfl, ?_⟩) ?_ ?_
              rotate_left; · (intro w'; go_simp; with_reducible rfl)
              rotate_left; · (simp only [Act.put, νm, νn, νo, i64_w, i32_w]; rfl)
              refine pure_ (i := 27) (N := some 50) (v := ?_) (a' := ?_) ν28 rfl rfl (any_of HT_.out (by kernel_rfl)) (fun _ _ _ h => h) (Or.inl ⟨by rfl, ?_⟩) ?_ ?_
              rotate_left; · (intro w'; go_simp; with_reducible rfl)
              rotate_left; · (simp only [Act.put, νm, νn, νo, i64_w, i32_w]; rfl)
              refine pure_ (i := 29) (N := some 52) (v := ?_) (a' := ?_) ν34 rfl rfl (any_of HT_.out (by kernel_rfl)) (fun _ _ _ h => h) (Or.inl ⟨by rfl, ?_⟩) ?_ ?_
              rotate_left; · (intro w'; go_simp; with_reducible rfl)
              rotate_left; · (simp only [Act.put, νm, νn, νo, i64_w, i32_w]; rfl)
              refine take_ (i := 28) (N := some 51) (v := ?_) (a' := ?_) ν30 rfl rfl (take_ofW HT_.out HW_.out (by kernel_rfl)) (fun _ _ _ h => h) (Or.inl ⟨by rfl, ?_⟩) hHeld ?_ ?_
              rotate_left
              ·
               rintro w' ⟨s0, s1, s2, s3, s4, s5, s6, s7, s8⟩
               go_simp
               with_reducible rfl
              rotate_left
              ·
               simp only [Act.put, νm, νn, νo, i64_w, i32_w]
               rfl
              refine take_ (i := 30) (N := some 53) (v := ?_) (a' := ?_) ν31 rfl rfl (take_ofW HT_.out HW_.out (by kernel_rfl)) (fun _ _ _ h => h) (Or.inl ⟨by rfl, ?_⟩) hHeld ?_ ?_
              rotate_left
              ·
               rintro w' ⟨s0, s1, s2, s3, s4, s5, s6, s7, s8⟩
               go_simp
               with_reducible rfl
              rotate_left
              ·
               simp only [Act.put, νm, νn, νo, i64_w, i32_w]
               rfl
              refine pure_ (i := 31) (N := some 54) (v := ?_) (a' := ?_) ν32 rfl rfl (any_of HT_.out (by kernel_rfl)) (fun _ _ _ h => h) (Or.inl ⟨by rfl, ?_⟩) ?_ ?_
              rotate_left; · (intro w'; go_simp; with_reducible rfl)
              rotate_left; · (simp only [Act.put, νm, νn, νo, i64_w, i32_w]; rfl)
              refine pure_ (i := 32) (N := some 55) (v := ?_) (a' := ?_) ν33 rfl rfl (any_of HT_.out (by kernel_rfl)) (fun _ _ _ h => h) (Or.inl ⟨by rfl, ?_⟩) ?_ ?_
              rotate_left; · (intro w'; go_simp; with_reducible rfl)
              rotate_left; · (simp only [Act.put, νm, νn, νo, i64_w, i32_w]; rfl)
              refine done_ (done_of HT_.out (by kernel_rfl)) ?_
              try go_wp2
              go_meet
              case rel => exact ⟨_, ((((rd_T46 l1 x18_2).f1) == a0_0)), (by first | rfl | (simp; done) | (simp [*]; done)), H', ⟨by have := HJ2.out; have := HK2.out; first | omega | exact Nat.le_refl _⟩, ⟨by (with_reducible repeat (first | refine νa ?_ _ | refine νc ?_ | refine νb ?_ _)); exact BK253.out⟩, ⟨by (with_reducible repeat (first | refine νa ?_ _ | refine νc ?_ | refine νb ?_ _)); exact BK256.out⟩, ⟨by repeat (first | (with_reducible first | exact HB.out | apply νj | apply νh | apply νi | refine νg ?_ GE253.out | refine νg ?_ GE256.out) | exact HB.out)⟩⟩
             replace c30 := Bool.eq_false_iff.mpr c30
             subst c30
             have H1 : (impl_AreOffers.j2 k2 l1 x5_2 l1 (l1.length : Int) x18_2 true a0_0 a0_1 a0_2 ((rd_T46 l1 x18_2).f0) ((rd_T46 l1 x18_2).f1) ((rd_T46 l1 x18_2).f2)) = some r := by rw [if_neg (show ¬ (false = true) by decide)] at H; exact H
             clear H
             have H := H1
             clear H1
             have H' := νp H
             clear H
             try go_wp2
             have n0_ : Aside0 ((((w16.setCell ⟨gb256, 0, none⟩ (.int .i64 ((rd_T46 l1 x18_2).f0))).setCell ⟨gb256, 1, none⟩ (.int .i64 ((rd_T46 l1 x18_2).f1))).setCell ⟨gb256, 2, none⟩ (.bool ((rd_T46 l1 x18_2).f2))).heap[gb253]? = some (.cells #[.int .i64 a0_0, .int .i64 a0_1, .int .i64 a0_2] 25 (0, 0))) := ⟨by (with_reducible repeat (first | refine νa ?_ _ | refine νc ?_ | refine νb ?_ _)); refine blk_far ?_ NB253_256.out _; (with_reducible repeat (first | refine νa ?_ _ | refine νc ?_ | refine νb ?_ _)); refine blk_far ?_ NB253_256.out _; (with_reducible repeat (first | refine νa ?_ _ | refine νc ?_ | refine νb ?_ _)); refine blk_far ?_ NB253_256.out _; (with_reducible repeat (first | refine νa ?_ _ | refine νc ?_ | refine νb ?_ _)); exact BK253.out⟩
             have n1_ : Aside0 ((((w16.setCell ⟨gb256, 0, none⟩ (.int .i64 ((rd_T46 l1 x18_2).f0))).setCell ⟨gb256, 1, none⟩ (.int .i64 ((rd_T46 l1 x18_2).f1))).setCell ⟨gb256, 2, none⟩ (.bool ((rd_T46 l1 x18_2).f2))).heap[gb256]? = some (.cells #[.int .i64 ((rd_T46 l1 x18_2).f0), .int .i64 ((rd_T46 l1 x18_2).f1), .bool ((rd_T46 l1 x18_2).f2)] 46 (0, 0))) := ⟨by (with_reducible repeat (first | refine νa ?_ _ | refine νc ?_ | refine νb ?_ _)); refine blk_put (cs := #[.int .i64 ((rd_T46 l1 x18_2).f0), .int .i64 ((rd_T46 l1 x18_2).f1), .bool false]) ?_ 2 _ rfl; (with_reducible repeat (first | refine νa ?_ _ | refine νc ?_ | refine νb ?_ _)); refine blk_put (cs := #[.int .i64 ((rd_T46 l1 x18_2).f0), .int .i64 0, .bool false]) ?_ 1 _ rfl; (with_reducible repeat (first | refine νa ?_ _ | refine νc ?_ | refine νb ?_ _)); refine blk_put (cs := #[.int .i64 0, .int .i64 0, .bool false]) ?_ 0 _ rfl; (with_reducible repeat (first | refine νa ?_ _ | refine νc ?_ | refine νb ?_ _)); exact BK256.out⟩
             have n2_ : Aside0 (Below w.heap.size w (((w16.setCell ⟨gb256, 0, none⟩ (.int .i64 ((rd_T46 l1 x18_2).f0))).setCell ⟨gb256, 1, none⟩ (.int .i64 ((rd_T46 l1 x18_2).f1))).setCell ⟨gb256, 2, none⟩ (.bool ((rd_T46 l1 x18_2).f2)))) := ⟨by repeat (first | (with_reducible first | exact HB.out | apply νj | apply νh | apply νi | refine νg ?_ GE253.out | refine νg ?_ GE256.out) | exact HB.out)⟩
             (try clear BK253)
             (try clear BK256)
             (try clear HB)
             generalize (((w16.setCell ⟨gb256, 0, none⟩ (.int .i64 ((rd_T46 l1 x18_2).f0))).setCell ⟨gb256, 1, none⟩ (.int .i64 ((rd_T46 l1 x18_2).f1))).setCell ⟨gb256, 2, none⟩ (.bool ((rd_T46 l1 x18_2).f2))) = w34 at n0_ n1_ n2_ ⊢
             have BK253 := n0_
             have BK256 := n1_
             have HB := n2_
             clear n0_ n1_ n2_
             have n0_ := νp (νc BK253.out)
             have n1_ := νp (νc BK256.out)
             have n2_ := νp (νi HB.out)
             clear BK253
             clear BK256
             clear HB
             have BK253 := n0_
             have BK256 := n1_
             have HB := n2_
             clear n0_ n1_ n2_
             have p258 : 0 ≤ ((ji22) : Int) := of_decide_eq_true (by first | (with_reducible assumption) | assumption)
             have q258 : (ji22) < (l1.length : Int) := of_decide_eq_true (by first | (with_reducible assumption) | assumption)
             obtain ⟨ad258, e258, hx258_0, hx258_1, hx258_2⟩ := at_T46 HR1.out (ji22) p258 q258
             have hw258_2 := hx258_2
             have hw258_1 := hx258_1
             have hw258_0 := hx258_0
             obtain rfl : ad255 = ad258 := (by injection e258)
             replace hx258_0 := (HB.out.cell (World.block_lt_of_cell? w _ hx258_0)).trans hx258_0
             replace hx258_1 := (HB.out.cell (World.block_lt_of_cell? w _ hx258_1)).trans hx258_1
             replace hx258_2 := (HB.out.cell (World.block_lt_of_cell? w _ hx258_2)).trans hx258_2
             replace p258 := eq_true p258
             replace q258 := eq_true q258
             refine start_ (n := 33) (S := fun w' => w'.cell? ⟨gb253, 0, none⟩ = some (.int .i64 a0_0) ∧ w'.cell? ⟨gb253, 1, none⟩ = some (.int .i64 a0_1) ∧ w'.cell? ⟨gb253, 2, none⟩ = some (.int .i64 a0_2) ∧ w'.cell? ⟨gb256, 0, none⟩ = some (.int .i64 ((rd_T46 l1 x18_2).f0)) ∧ w'.cell? ⟨gb256, 1, none⟩ = some (.int .i64 ((rd_T46 l1 x18_2).f1)) ∧ w'.cell? ⟨gb256, 2, none⟩ = some (.bool ((rd_T46 l1 x18_2).f2)) ∧ w'.cell? (ad255.add (((ji22)).toNat * 3)) = some (.int .i64 ((rd_T46 l1 (ji22)).f0)) ∧ w'.cell? ⟨(ad255.add (((ji22)).toNat * 3)).block, (ad255.add (((ji22)).toNat * 3)).off + 1, none⟩ = some (.int .i64 ((rd_T46 l1 (ji22)).f1)) ∧ w'.cell? ⟨(ad255.add (((ji22)).toNat * 3)).block, (ad255.add (((ji22)).toNat * 3)).off + 2, none⟩ = some (.bool ((rd_T46 l1 (ji22)).f2))) (ds := []) ν0 (by kernel_rfl) rfl rfl ⟨(νk BK253.out 0).trans rfl, (νk BK253.out 1).trans rfl, (νk BK253.out 2).trans rfl, (νk BK256.out 0).trans rfl, (νk BK256.out 1).trans rfl, (νk BK256.out 2).trans rfl, ((HB.out.cell (World.block_lt_of_cell? w _ hw258_0)).trans hw258_0), ((HB.out.cell (World.block_lt_of_cell? w _ hw258_1)).trans hw258_1), ((HB.out.cell (World.block_lt_of_cell? w _ hw258_2)).trans hw258_2)⟩ (fun hHeld => ?_); refine with_tabW impl_AreOffers.tab7 impl_AreOffers.bits7 (fun HT_ HW_ => ?_)
             generalize w34.drew = w35 at BK253 BK256 HB hx258_0 hx258_1 hx258_2 hHeld ⊢
             refine pure_ (i := 1) (N := some 24) (v := ?_) (a' := ?_) ν1 rfl rfl (any_of HT_.out (by kernel_rfl)) (fun _ _ _ h => h) (Or.inl ⟨by rfl, ?_⟩) ?_ ?_
             rotate_left; · (intro w'; go_simp; with_reducible rfl)
             rotate_left; · (simp only [Act.put, νm, νn, νo, i64_w, i32_w]; rfl)
             refine take_ (i := 0) (N := some 23) (v := ?_) (a' := ?_) ν2 rfl rfl (take_ofW HT_.out HW_.out (by kernel_rfl)) (fun _ _ _ h => h) (Or.inl ⟨by rfl, ?_⟩) hHeld ?_ ?_
             rotate_left
             ·
              rintro w' ⟨s0, s1, s2, s3, s4, s5, s6, s7, s8⟩
              go_simp
              with_reducible rfl
             rotate_left
             ·
              simp only [Act.put, νm, νn, νo, i64_w, i32_w]
              rfl
             refine take_ (i := 2) (N := some 25) (v := ?_) (a' := ?_) ν3 rfl rfl (take_ofW HT_.out HW_.out (by kernel_rfl)) (fun _ _ _ h => h) (Or.inl ⟨by rfl, ?_⟩) hHeld ?_ ?_
             rotate_left
             ·
              rintro w' ⟨s0, s1, s2, s3, s4, s5, s6, s7, s8⟩
              go_simp
              with_reducible rfl
             rotate_left
             ·
              simp only [Act.put, νm, νn, νo, i64_w, i32_w]
              rfl
             refine one_ (i := 3) (N := some 26) ν4 rfl rfl (one_of HT_.out (by kernel_rfl)) (by decide) (fun K hK => ?_)
             refine goes_ Try.func17 (by kernel_rfl) rfl #[.agg #[.int .i64 a0_0, .int .i64 a0_1, .int .i64 a0_2], .int .i64 ((rd_T46 l1 x18_2).f0)] (by rfl) rfl rfl (by (try simp only [List.map_toArray, List.map_cons, List.map_nil]); first | done | rfl | (simp only [List.length_drop, List.length_take]; rfl)) ?_
             with_reducible refine (impl_MayOffer.calls a0_0 a0_1 a0_2 ((rd_T46 l1 x18_2).f0) true _ A19.out).mono ?_
             rintro e w36 ⟨rfl, hb⟩
             refine ⟨_, rfl, ?_⟩
             have n0_ := νp (blk_below (g := gb253) (o := .cells #[.int .i64 a0_0, .int .i64 a0_1, .int .i64 a0_2] 25 (0, 0)) (by (with_reducible repeat (first | refine νa ?_ _ | refine νc ?_ | refine νb ?_ _)); exact BK253.out) hb)
             have n1_ := νp (blk_below (g := gb256) (o := .cells #[.int .i64 ((rd_T46 l1 x18_2).f0), .int .i64 ((rd_T46 l1 x18_2).f1), .bool ((rd_T46 l1 x18_2).f2)] 46 (0, 0)) (by (with_reducible repeat (first | refine νa ?_ _ | refine νc ?_ | refine νb ?_ _)); exact BK256.out) hb)
             have n2_ := νp (below_step (by repeat (first | (with_reducible first | exact HB.out | apply νj | apply νh | apply νi | refine νg ?_ GE253.out | refine νg ?_ GE256.out) | exact HB.out)) hb)
             clear BK253
             clear BK256
             clear HB
             have BK253 := n0_
             have BK256 := n1_
             have HB := n2_
             clear n0_ n1_ n2_
             (try clear hb)
             (try clear hb2)
             (try clear hk)
             (try clear hi)
             refine hK.out _ _ ⟨(νk BK253.out 0).trans rfl, (νk BK253.out 1).trans rfl, (νk BK253.out 2).trans rfl, (νk BK256.out 0).trans rfl, (νk BK256.out 1).trans rfl, (νk BK256.out 2).trans rfl, ((HB.out.cell (World.block_lt_of_cell? w _ hw258_0)).trans hw258_0), ((HB.out.cell (World.block_lt_of_cell? w _ hw258_1)).trans hw258_1), ((HB.out.cell (World.block_lt_of_cell? w _ hw258_2)).trans hw258_2)⟩ (fun hHeld => ?_)
             clear hK K
             refine norm_ (a' := ?_) ?_ ?_
             rotate_left
             ·
              show Act.put _ (some 26) _ = _
              simp only [Act.put, νm, νn, νo, i64_w, i32_w]
              rfl
             refine pure_ (i := 4) (N := some 27) (v := ?_) (a' := ?_) ν5 rfl rfl (any_of HT_.out (by kernel_rfl)) (fun _ _ _ h => h) (Or.inl ⟨by rfl, ?_⟩) ?_ ?_
             rotate_left; · (intro w'; go_simp; with_reducible rfl)
             rotate_left; · (simp only [Act.put, νm, νn, νo, i64_w, i32_w]; rfl)
             refine pure_ (i := 5) (N := some 28) (v := ?_) (a' := ?_) ν6 rfl rfl (any_of HT_.out (by kernel_rfl)) (fun _ _ _ h => h) (Or.inl ⟨by rfl, ?_⟩) ?_ ?_
             rotate_left; · (intro w'; go_simp; with_reducible rfl)
             rotate_left; · (simp only [Act.put, νm, νn, νo, i64_w, i32_w]; rfl)
             refine pure_ (i := 6) (N := some 29) (v := ?_) (a' := ?_) ν7 rfl rfl (any_of HT_.out (by kernel_rfl)) (fun _ _ _ h => h) (Or.inl ⟨by rfl, ?_⟩) ?_ ?_
             rotate_left; · (intro w'; go_simp; with_reducible rfl)
             rotate_left; · (simp only [Act.put, νm, νn, νo, i64_w, i32_w]; rfl)
             refine pure_ (i := 7) (N := some 30) (v := ?_) (a' := ?_) ν8 rfl rfl (any_of HT_.out (by kernel_rfl)) (fun _ _ _ h => h) (Or.inl ⟨by rfl, ?_⟩) ?_ ?_
             rotate_left; · (intro w'; go_simp; with_reducible rfl)
             rotate_left; · (simp only [Act.put, νm, νn, νo, i64_w, i32_w]; rfl)
             refine pure_ (i := 8) (N := some 31) (v := ?_) (a' := ?_) ν9 rfl rfl (any_of HT_.out (by kernel_rfl)) (fun _ _ _ h => h) (Or.inl ⟨by rfl, ?_⟩) ?_ ?_
             rotate_left; · (intro w'; go_simp; with_reducible rfl)
             rotate_left; · (simp only [Act.put, νm, νn, νo, i64_w, i32_w]; rfl)
             refine pure_ (i := 9) (N := some 32) (v := ?_) (a' := ?_) ν10 rfl rfl (any_of HT_.out (by kernel_rfl)) (fun _ _ _ h => h) (Or.inl ⟨by rfl, ?_⟩) ?_ ?_
             rotate_left; · (intro w'; go_simp; with_reducible rfl)
             rotate_left; · (simp only [Act.put, νm, νn, νo, i64_w, i32_w]; rfl)
             refine pure_ (i := 11) (N := some 34) (v := ?_) (a' := ?_) ν11 rfl rfl (any_of HT_.out (by kernel_rfl)) (fun _ _ _ h => h) (Or.inl ⟨by rfl, ?_⟩) ?_ ?_
             rotate_left; · (intro w'; go_simp; with_reducible rfl)
             rotate_left; · (simp only [Act.put, νm, νn, νo, i64_w, i32_w]; rfl)
             refine pure_ (i := 12) (N := some 35) (v := ?_) (a' := ?_) ν12 rfl rfl (any_of HT_.out (by kernel_rfl)) (fun _ _ _ h => h) (Or.inl ⟨by rfl, ?_⟩) ?_ ?_
             rotate_left; · (intro w'; go_simp; with_reducible rfl)
             rotate_left; · (simp only [Act.put, νm, νn, νo, i64_w, i32_w]; rfl)
             refine pure_ (i := 13) (N := some 36) (v := ?_) (a' := ?_) ν13 rfl rfl (any_of HT_.out (by kernel_rfl)) (fun _ _ _ h => h) (Or.inl ⟨by rfl, ?_⟩) ?_ ?_
             rotate_left; · (intro w'; go_simp; with_reducible rfl)
             rotate_left; · (simp only [Act.put, νm, νn, νo, i64_w, i32_w]; rfl)
             refine pure_ (i := 14) (N := some 37) (v := ?_) (a' := ?_) ν14 rfl rfl (any_of HT_.out (by kernel_rfl)) (fun _ _ _ h => h) (Or.inl ⟨by rfl, ?_⟩) ?_ ?_
             rotate_left; · (intro w'; go_simp; with_reducible rfl)
             rotate_left; · (simp only [Act.put, νm, νn, νo, i64_w, i32_w]; rfl)
             refine pure_ (i := 15) (N := some 38) (v := ?_) (a' := ?_) ν15 rfl rfl (any_of HT_.out (by kernel_rfl)) (fun _ _ _ h => h) (Or.inl ⟨by rfl, ?_⟩) ?_ ?_
             rotate_left; · (intro w'; go_simp; with_reducible rfl)
             rotate_left; · (simp only [Act.put, νm, νn, νo, i64_w, i32_w]; rfl)
             refine take_ (i := 10) (N := some 33) (v := ?_) (a' := ?_) ν16 rfl rfl (take_ofW HT_.out HW_.out (by kernel_rfl)) (fun _ _ _ h => h) (Or.inl ⟨by rfl, ?_⟩) hHeld ?_ ?_
             rotate_left
             ·
              rintro w' ⟨s0, s1, s2, s3, s4, s5, s6, s7, s8⟩
              go_simp
              with_reducible rfl
             rotate_left
             ·
              simp only [Act.put, νm, νn, νo, i64_w, i32_w]
              rfl
             refine take_ (i := 16) (N := some 39) (v := ?_) (a' := ?_) ν17 rfl rfl (take_ofW HT_.out HW_.out (by kernel_rfl)) (fun _ _ _ h => h) (Or.inl ⟨by rfl, ?_⟩) hHeld ?_ ?_
             rotate_left
             ·
              rintro w' ⟨s0, s1, s2, s3, s4, s5, s6, s7, s8⟩
              go_simp
              with_reducible rfl
             rotate_left
             ·
              simp only [Act.put, νm, νn, νo, i64_w, i32_w]
              rfl
             refine pure_ (i := 17) (N := some 40) (v := ?_) (a' := ?_) ν18 rfl rfl (any_of HT_.out (by kernel_rfl)) (fun _ _ _ h => h) (Or.inl ⟨by rfl, ?_⟩) ?_ ?_
             rotate_left; · (intro w'; go_simp; with_reducible rfl)
             rotate_left; · (simp only [Act.put, νm, νn, νo, i64_w, i32_w]; rfl)
             refine pure_ (i := 18) (N := some 41) (v := ?_) (a' := ?_) ν19 rfl rfl (any_of HT_.out (by kernel_rfl)) (fun _ _ _ h => h) (Or.inl ⟨by rfl, ?_⟩) ?_ ?_
             rotate_left; · (intro w'; go_simp; with_reducible rfl)
             rotate_left; · (simp only [Act.put, νm, νn, νo, i64_w, i32_w]; rfl)
             refine pure_ (i := 19) (N := some 42) (v := ?_) (a' := ?_) ν20 rfl rfl (any_of HT_.out (by kernel_rfl)) (fun _ _ _ h => h) (Or.inl ⟨by rfl, ?_⟩) ?_ ?_
             rotate_left; · (intro w'; go_simp; with_reducible rfl)
             rotate_left; · (simp only [Act.put, νm, νn, νo, i64_w, i32_w]; rfl)
             refine pure_ (i := 20) (N := some 43) (v := ?_) (a' := ?_) ν21 rfl rfl (any_of HT_.out (by kernel_rfl)) (fun _ _ _ h => h) (Or.inl ⟨by rfl, ?_⟩) ?_ ?_
             rotate_left; · (intro w'; go_simp; with_reducible rfl)
             rotate_left; · (simp only [Act.put, νm, νn, νo, i64_w, i32_w]; rfl)
             refine pure_ (i := 21) (N := some 44) (v := ?_) (a' := ?_) ν22 rfl rfl (any_of HT_.out (by kernel_rfl)) (fun _ _ _ h => h) (Or.inl ⟨by rfl, ?_⟩) ?_ ?_
             rotate_left; · (intro w'; go_simp; with_reducible rfl)
             rotate_left; · (simp only [Act.put, νm, νn, νo, i64_w, i32_w]; rfl)
             refine take_ (i := 22) (N := some 45) (v := ?_) (a' := ?_) ν23 rfl rfl (take_ofW HT_.out HW_.out (by kernel_rfl)) (fun _ _ _ h => h) (Or.inl ⟨by rfl, ?_⟩) hHeld ?_ ?_
             rotate_left
             ·
              rintro w' ⟨s0, s1, s2, s3, s4, s5, s6, s7, s8⟩
              go_simp
              with_reducible rfl
             rotate_left
             ·
              simp only [Act.put, νm, νn, νo, i64_w, i32_w]
              rfl
             refine one_ (i := 23) (N := some 46) ν24 rfl rfl (one_of HT_.out (by kernel_rfl)) (by decide) (fun K hK => ?_)
             refine goes_ Try.func55 (by kernel_rfl) rfl #[.int .i64 ((rd_T46 l1 x18_2).f1), .int .i64 1, .int .i64 99] (by rfl) rfl rfl (by (try simp only [List.map_toArray, List.map_cons, List.map_nil]); first | done | rfl | (simp only [List.length_drop, List.length_take]; rfl)) ?_
             with_reducible refine (impl_InRange.calls ((rd_T46 l1 x18_2).f1) 1 99 false _ A29.out).mono ?_
             rintro e w' ⟨rfl, ⟨nd, rfl⟩⟩
             refine ⟨_, rfl, ?_⟩
             refine hK.out _ _ ⟨(νk BK253.out 0).trans rfl, (νk BK253.out 1).trans rfl, (νk BK253.out 2).trans rfl, (νk BK256.out 0).trans rfl, (νk BK256.out 1).trans rfl, (νk BK256.out 2).trans rfl, ((HB.out.cell (World.block_lt_of_cell? w _ hw258_0)).trans hw258_0), ((HB.out.cell (World.block_lt_of_cell? w _ hw258_1)).trans hw258_1), ((HB.out.cell (World.block_lt_of_cell? w _ hw258_2)).trans hw258_2)⟩ (fun hHeld => ?_)
             clear hK K
             refine norm_ (a' := ?_) ?_ ?_
             rotate_left
             ·
              show Act.put _ (some 46) _ = _
              simp only [Act.put, νm, νn, νo, i64_w, i32_w]
              rfl
             refine pure_ (i := 24) (N := some 47) (v := ?_) (a' := ?_) ν25 rfl rfl (any_of HT_.out (by kernel_rfl)) (fun _ _ _ h => h) (Or.inl ⟨by rfl, ?_⟩) ?_ ?_
             rotate_left; · (intro w'; go_simp; with_reducible rfl)
             rotate_left; · (simp only [Act.put, νm, νn, νo, i64_w, i32_w]; rfl)
             refine pure_ (i := 25) (N := some 48) (v := ?_) (a' := ?_) ν26 rfl rfl (any_of HT_.out (by kernel_rfl)) (fun _ _ _ h => h) (Or.inl ⟨by rfl, ?_⟩) ?_ ?_
             rotate_left; · (intro w'; go_simp; with_reducible rfl)
             rotate_left; · (simp only [Act.put, νm, νn, νo, i64_w, i32_w]; rfl)
             refine pure_ (i := 26) (N := some 49) (v := ?_) (a' := ?_) ν27 rfl rfl (any_of HT_.out (by kernel_rfl)) (fun _ _ _ h => h) (Or.inl ⟨by rfl, ?_⟩) ?_ ?_
             rotate_left; · (intro w'; go_simp; with_reducible rfl)
             rotate_left; · (simp only [Act.put, νm, νn, νo, i64_w, i32_w]; rfl)
             refine pure_ (i := 27) (N := some 50) (v := undef) (a' := ?_) ν28 rfl rfl (any_of HT_.out (by kernel_rfl)) (fun _ _ _ h => h) (Or.inr ⟨by rfl, rfl⟩) ?_ ?_
             rotate_left
             ·
              simp only [Act.put, νm, νn, νo, i64_w, i32_w]
              rfl
             refine pure_ (i := 28) (N := some 51) (v := undef) (a' := ?_) ν29 rfl rfl (any_of HT_.out (by kernel_rfl)) (fun _ _ _ h => h) (Or.inr ⟨by rfl, rfl⟩) ?_ ?_
             rotate_left
             ·
              simp only [Act.put, νm, νn, νo, i64_w, i32_w]
              rfl
             refine pure_ (i := 29) (N := some 52) (v := undef) (a' := ?_) ν30 rfl rfl (any_of HT_.out (by kernel_rfl)) (fun _ _ _ h => h) (Or.inr ⟨by rfl, rfl⟩) ?_ ?_
             rotate_left
             ·
              simp only [Act.put, νm, νn, νo, i64_w, i32_w]
              rfl
             refine pure_ (i := 30) (N := some 53) (v := undef) (a' := ?_) ν31 rfl rfl (any_of HT_.out (by kernel_rfl)) (fun _ _ _ h => h) (Or.inr ⟨by rfl, rfl⟩) ?_ ?_
             rotate_left
             ·
              simp only [Act.put, νm, νn, νo, i64_w, i32_w]
              rfl
             refine pure_ (i := 31) (N := some 54) (v := undef) (a' := ?_) ν32 rfl rfl (any_of HT_.out (by kernel_rfl)) (fun _ _ _ h => h) (Or.inr ⟨by rfl, rfl⟩) ?_ ?_
             rotate_left
             ·
              simp only [Act.put, νm, νn, νo, i64_w, i32_w]
              rfl
             refine pure_ (i := 32) (N := some 55) (v := ?_) (a' := ?_) ν33 rfl rfl (any_of HT_.out (by kernel_rfl)) (fun _ _ _ h => h) (Or.inl ⟨by rfl, ?_⟩) ?_ ?_
             rotate_left; · (intro w'; go_simp; with_reducible rfl)
             rotate_left; · (simp only [Act.put, νm, νn, νo, i64_w, i32_w]; rfl)
             refine done_ (done_of HT_.out (by kernel_rfl)) ?_
             try go_wp2
             go_meet
             case rel => exact ⟨_, (true), (by first | rfl | (simp; done) | (simp [*]; done)), H', ⟨by have := HJ2.out; have := HK2.out; first | omega | exact Nat.le_refl _⟩, ⟨by (with_reducible repeat (first | refine νa ?_ _ | refine νc ?_ | refine νb ?_ _)); exact BK253.out⟩, ⟨by (with_reducible repeat (first | refine νa ?_ _ | refine νc ?_ | refine νb ?_ _)); exact BK256.out⟩, ⟨by repeat (first | (with_reducible first | exact HB.out | apply νj | apply νh | apply νi | refine νg ?_ GE253.out | refine νg ?_ GE256.out) | exact HB.out)⟩⟩
            rw [if_neg c24] at H
            exact absurd H (by simp)
           rw [if_neg c23] at H
           exact absurd H (by simp)
          rw [if_neg c21] at H
          have c21b0 : decide (0 < x18_2) = false := decide_eq_false c21
          clear c21
          (first | rw [c21b0] | (simp only [i64_w, i32_w]; rw [c21b0]) | skip)
          replace H := Option.bind_eq_some_iff.mp H
          obtain ⟨t260, A370, H⟩ := H
          try dsimp only at H
          have A37 := νp A370
          clear A370
          by_cases c38 : t260 = true
          ·
           subst c38
           rw [if_pos rfl] at H
           have H' := νp H
           clear H
           try go_wp2
           have n0_ : Aside0 ((((w16.setCell ⟨gb256, 0, none⟩ (.int .i64 ((rd_T46 l1 x18_2).f0))).setCell ⟨gb256, 1, none⟩ (.int .i64 ((rd_T46 l1 x18_2).f1))).setCell ⟨gb256, 2, none⟩ (.bool ((rd_T46 l1 x18_2).f2))).heap[gb253]? = some (.cells #[.int .i64 a0_0, .int .i64 a0_1, .int .i64 a0_2] 25 (0, 0))) := ⟨by (with_reducible repeat (first | refine νa ?_ _ | refine νc ?_ | refine νb ?_ _)); refine blk_far ?_ NB253_256.out _; (with_reducible repeat (first | refine νa ?_ _ | refine νc ?_ | refine νb ?_ _)); refine blk_far ?_ NB253_256.out _; (with_reducible repeat (first | refine νa ?_ _ | refine νc ?_ | refine νb ?_ _)); refine blk_far ?_ NB253_256.out _; (with_reducible repeat (first | refine νa ?_ _ | refine νc ?_ | refine νb ?_ _)); exact BK253.out⟩
           have n1_ : Aside0 ((((w16.setCell ⟨gb256, 0, none⟩ (.int .i64 ((rd_T46 l1 x18_2).f0))).setCell ⟨gb256, 1, none⟩ (.int .i64 ((rd_T46 l1 x18_2).f1))).setCell ⟨gb256, 2, none⟩ (.bool ((rd_T46 l1 x18_2).f2))).heap[gb256]? = some (.cells #[.int .i64 ((rd_T46 l1 x18_2).f0), .int .i64 ((rd_T46 l1 x18_2).f1), .bool ((rd_T46 l1 x18_2).f2)] 46 (0, 0))) := ⟨by (with_reducible repeat (first | refine νa ?_ _ | refine νc ?_ | refine νb ?_ _)); refine blk_put (cs := #[.int .i64 ((rd_T46 l1 x18_2).f0), .int .i64 ((rd_T46 l1 x18_2).f1), .bool false]) ?_ 2 _ rfl; (with_reducible repeat (first | refine νa ?_ _ | refine νc ?_ | refine νb ?_ _)); refine blk_put (cs := #[.int .i64 ((rd_T46 l1 x18_2).f0), .int .i64 0, .bool false]) ?_ 1 _ rfl; (with_reducible repeat (first | refine νa ?_ _ | refine νc ?_ | refine νb ?_ _)); refine blk_put (cs := #[.int .i64 0, .int .i64 0, .bool false]) ?_ 0 _ rfl; (with_reducible repeat (first | refine νa ?_ _ | refine νc ?_ | refine νb ?_ _)); exact BK256.out⟩
           have n2_ : Aside0 (Below w.heap.size w (((w16.setCell ⟨gb256, 0, none⟩ (.int .i64 ((rd_T46 l1 x18_2).f0))).setCell ⟨gb256, 1, none⟩ (.int .i64 ((rd_T46 l1 x18_2).f1))).setCell ⟨gb256, 2, none⟩ (.bool ((rd_T46 l1 x18_2).f2)))) := ⟨by repeat (first | (with_reducible first | exact HB.out | apply νj | apply νh | apply νi | refine νg ?_ GE253.out | refine νg ?_ GE256.out) | exact HB.out)⟩
           (try clear BK253)
           (try clear BK256)
           (try clear HB)
           generalize (((w16.setCell ⟨gb256, 0, none⟩ (.int .i64 ((rd_T46 l1 x18_2).f0))).setCell ⟨gb256, 1, none⟩ (.int .i64 ((rd_T46 l1 x18_2).f1))).setCell ⟨gb256, 2, none⟩ (.bool ((rd_T46 l1 x18_2).f2))) = w39 at n0_ n1_ n2_ ⊢
           have BK253 := n0_
           have BK256 := n1_
           have HB := n2_
           clear n0_ n1_ n2_
           have n0_ := νp (νc BK253.out)
           have n1_ := νp (νc BK256.out)
           have n2_ := νp (νi HB.out)
           clear BK253
           clear BK256
           clear HB
           have BK253 := n0_
           have BK256 := n1_
           have HB := n2_
           clear n0_ n1_ n2_
           refine start_ (n := 33) (S := fun w' => w'.cell? ⟨gb253, 0, none⟩ = some (.int .i64 a0_0) ∧ w'.cell? ⟨gb253, 1, none⟩ = some (.int .i64 a0_1) ∧ w'.cell? ⟨gb253, 2, none⟩ = some (.int .i64 a0_2) ∧ w'.cell? ⟨gb256, 0, none⟩ = some (.int .i64 ((rd_T46 l1 x18_2).f0)) ∧ w'.cell? ⟨gb256, 1, none⟩ = some (.int .i64 ((rd_T46 l1 x18_2).f1)) ∧ w'.cell? ⟨gb256, 2, none⟩ = some (.bool ((rd_T46 l1 x18_2).f2))) (ds := []) ν0 (by kernel_rfl) rfl rfl ⟨(νk BK253.out 0).trans rfl, (νk BK253.out 1).trans rfl, (νk BK253.out 2).trans rfl, (νk BK256.out 0).trans rfl, (νk BK256.out 1).trans rfl, (νk BK256.out 2).trans rfl⟩ (fun hHeld => ?_); refine with_tabW impl_AreOffers.tab7 impl_AreOffers.bits7 (fun HT_ HW_ => ?_)
           generalize w39.drew = w40 at BK253 BK256 HB hHeld ⊢
           refine pure_ (i := 1) (N := some 24) (v := ?_) (a' := ?_) ν1 rfl rfl (any_of HT_.out (by kernel_rfl)) (fun _ _ _ h => h) (Or.inl ⟨by rfl, ?_⟩) ?_ ?_
           rotate_left; · (intro w'; go_simp; with_reducible rfl)
           rotate_left; · (simp only [Act.put, νm, νn, νo, i64_w, i32_w]; rfl)
           refine take_ (i := 0) (N := some 23) (v := ?_) (a' := ?_) ν2 rfl rfl (take_ofW HT_.out HW_.out (by kernel_rfl)) (fun _ _ _ h => h) (Or.inl ⟨by rfl, ?_⟩) hHeld ?_ ?_
           rotate_left
           ·
            rintro w' ⟨s0, s1, s2, s3, s4, s5⟩
            go_simp
            with_reducible rfl
           rotate_left
           ·
            simp only [Act.put, νm, νn, νo, i64_w, i32_w]
            rfl
           refine take_ (i := 2) (N := some 25) (v := ?_) (a' := ?_) ν3 rfl rfl (take_ofW HT_.out HW_.out (by kernel_rfl)) (fun _ _ _ h => h) (Or.inl ⟨by rfl, ?_⟩) hHeld ?_ ?_
           rotate_left
           ·
            rintro w' ⟨s0, s1, s2, s3, s4, s5⟩
            go_simp
            with_reducible rfl
           rotate_left
           ·
            simp only [Act.put, νm, νn, νo, i64_w, i32_w]
            rfl
           refine one_ (i := 3) (N := some 26) ν4 rfl rfl (one_of HT_.out (by kernel_rfl)) (by decide) (fun K hK => ?_)
           refine goes_ Try.func17 (by kernel_rfl) rfl #[.agg #[.int .i64 a0_0, .int .i64 a0_1, .int .i64 a0_2], .int .i64 ((rd_T46 l1 x18_2).f0)] (by rfl) rfl rfl (by (try simp only [List.map_toArray, List.map_cons, List.map_nil]); first | done | rfl | (simp only [List.length_drop, List.length_take]; rfl)) ?_
           with_reducible refine (impl_MayOffer.calls a0_0 a0_1 a0_2 ((rd_T46 l1 x18_2).f0) true _ A19.out).mono ?_
           rintro e w41 ⟨rfl, hb⟩
           refine ⟨_, rfl, ?_⟩
           have n0_ := νp (blk_below (g := gb253) (o := .cells #[.int .i64 a0_0, .int .i64 a0_1, .int .i64 a0_2] 25 (0, 0)) (by (with_reducible repeat (first | refine νa ?_ _ | refine νc ?_ | refine νb ?_ _)); exact BK253.out) hb)
           have n1_ := νp (blk_below (g := gb256) (o := .cells #[.int .i64 ((rd_T46 l1 x18_2).f0), .int .i64 ((rd_T46 l1 x18_2).f1), .bool ((rd_T46 l1 x18_2).f2)] 46 (0, 0)) (by (with_reducible repeat (first | refine νa ?_ _ | refine νc ?_ | refine νb ?_ _)); exact BK256.out) hb)
           have n2_ := νp (below_step (by repeat (first | (with_reducible first | exact HB.out | apply νj | apply νh | apply νi | refine νg ?_ GE253.out | refine νg ?_ GE256.out) | exact HB.out)) hb)
           clear BK253
           clear BK256
           clear HB
           have BK253 := n0_
           have BK256 := n1_
           have HB := n2_
           clear n0_ n1_ n2_
           (try clear hb)
           (try clear hb2)
           (try clear hk)
           (try clear hi)
           refine hK.out _ _ ⟨(νk BK253.out 0).trans rfl, (νk BK253.out 1).trans rfl, (νk BK253.out 2).trans rfl, (νk BK256.out 0).trans rfl, (νk BK256.out 1).trans rfl, (νk BK256.out 2).trans rfl⟩ (fun hHeld => ?_)
           clear hK K
           refine norm_ (a' := ?_) ?_ ?_
           rotate_left
           ·
            show Act.put _ (some 26) _ = _
            simp only [Act.put, νm, νn, νo, i64_w, i32_w]
            rfl
           refine pure_ (i := 4) (N := some 27) (v := ?_) (a' := ?_) ν5 rfl rfl (any_of HT_.out (by kernel_rfl)) (fun _ _ _ h => h) (Or.inl ⟨by rfl, ?_⟩) ?_ ?_
           rotate_left; · (intro w'; go_simp; with_reducible rfl)
           rotate_left; · (simp only [Act.put, νm, νn, νo, i64_w, i32_w]; rfl)
           refine pure_ (i := 5) (N := some 28) (v := ?_) (a' := ?_) ν6 rfl rfl (any_of HT_.out (by kernel_rfl)) (fun _ _ _ h => h) (Or.inl ⟨by rfl, ?_⟩) ?_ ?_
           rotate_left; · (intro w'; go_simp; with_reducible rfl)
           rotate_left; · (simp only [Act.put, νm, νn, νo, i64_w, i32_w]; rfl)
           refine pure_ (i := 6) (N := some 29) (v := ?_) (a' := ?_) ν7 rfl rfl (any_of HT_.out (by kernel_rfl)) (fun _ _ _ h => h) (Or.inl ⟨by rfl, ?_⟩) ?_ ?_
           rotate_left; · (intro w'; go_simp; with_reducible rfl)
           rotate_left; · (simp only [Act.put, νm, νn, νo, i64_w, i32_w]; rfl)
           refine pure_ (i := 7) (N := some 30) (v := ?_) (a' := ?_) ν8 rfl rfl (any_of HT_.out (by kernel_rfl)) (fun _ _ _ h => h) (Or.inl ⟨by rfl, ?_⟩) ?_ ?_
           rotate_left; · (intro w'; go_simp; with_reducible rfl)
           rotate_left; · (simp only [Act.put, νm, νn, νo, i64_w, i32_w]; rfl)
           refine pure_ (i := 8) (N := some 31) (v := ?_) (a' := ?_) ν9 rfl rfl (any_of HT_.out (by kernel_rfl)) (fun _ _ _ h => h) (Or.inl ⟨by rfl, ?_⟩) ?_ ?_
           rotate_left; · (intro w'; go_simp; with_reducible rfl)
           rotate_left; · (simp only [Act.put, νm, νn, νo, i64_w, i32_w]; rfl)
           refine pure_ (i := 9) (N := some 32) (v := undef) (a' := ?_) ν10 rfl rfl (any_of HT_.out (by kernel_rfl)) (fun _ _ _ h => h) (Or.inr ⟨by rfl, rfl⟩) ?_ ?_
           rotate_left
           ·
            simp only [Act.put, νm, νn, νo, i64_w, i32_w]
            rfl
           refine pure_ (i := 10) (N := some 33) (v := undef) (a' := ?_) ν35 rfl rfl (any_of HT_.out (by kernel_rfl)) (fun _ _ _ h => h) (Or.inr ⟨by rfl, rfl⟩) ?_ ?_
           rotate_left
           ·
            simp only [Act.put, νm, νn, νo, i64_w, i32_w]
            rfl
           refine pure_ (i := 11) (N := some 34) (v := undef) (a' := ?_) ν36 rfl rfl (any_of HT_.out (by kernel_rfl)) (fun _ _ _ h => h) (Or.inr ⟨by rfl, rfl⟩) ?_ ?_
           rotate_left
           ·
            simp only [Act.put, νm, νn, νo, i64_w, i32_w]
            rfl
           refine pure_ (i := 12) (N := some 35) (v := undef) (a' := ?_) ν37 rfl rfl (any_of HT_.out (by kernel_rfl)) (fun _ _ _ h => h) (Or.inr ⟨by rfl, rfl⟩) ?_ ?_
           rotate_left
           ·
            simp only [Act.put, νm, νn, νo, i64_w, i32_w]
            rfl
           refine pure_ (i := 13) (N := some 36) (v := undef) (a' := ?_) ν38 rfl rfl (any_of HT_.out (by kernel_rfl)) (fun _ _ _ h => h) (Or.inr ⟨by rfl, rfl⟩) ?_ ?_
           rotate_left
           ·
            simp only [Act.put, νm, νn, νo, i64_w, i32_w]
            rfl
           refine pure_ (i := 14) (N := some 37) (v := undef) (a' := ?_) ν39 rfl rfl (any_of HT_.out (by kernel_rfl)) (fun _ _ _ h => h) (Or.inr ⟨by rfl, rfl⟩) ?_ ?_
           rotate_left
           ·
            simp only [Act.put, νm, νn, νo, i64_w, i32_w]
            rfl
           refine pure_ (i := 15) (N := some 38) (v := undef) (a' := ?_) ν16 rfl rfl (any_of HT_.out (by kernel_rfl)) (fun _ _ _ h => h) (Or.inr ⟨by rfl, rfl⟩) ?_ ?_
           rotate_left
           ·
            simp only [Act.put, νm, νn, νo, i64_w, i32_w]
            rfl
           refine pure_ (i := 16) (N := some 39) (v := undef) (a' := ?_) ν17 rfl rfl (any_of HT_.out (by kernel_rfl)) (fun _ _ _ h => h) (Or.inr ⟨by rfl, rfl⟩) ?_ ?_
           rotate_left
           ·
            simp only [Act.put, νm, νn, νo, i64_w, i32_w]
            rfl
           refine pure_ (i := 17) (N := some 40) (v := undef) (a' := ?_) ν18 rfl rfl (any_of HT_.out (by kernel_rfl)) (fun _ _ _ h => h) (Or.inr ⟨by rfl, rfl⟩) ?_ ?_
           rotate_left
           ·
            simp only [Act.put, νm, νn, νo, i64_w, i32_w]
            rfl
           refine pure_ (i := 18) (N := some 41) (v := ?_) (a' := ?_) ν19 rfl rfl (any_of HT_.out (by kernel_rfl)) (fun _ _ _ h => h) (Or.inl ⟨by rfl, ?_⟩) ?_ ?_
           rotate_left; · (intro w'; go_simp; with_reducible rfl)
           rotate_left; · (simp only [Act.put, νm, νn, νo, i64_w, i32_w]; rfl)
           refine pure_ (i := 19) (N := some 42) (v := ?_) (a' := ?_) ν20 rfl rfl (any_of HT_.out (by kernel_rfl)) (fun _ _ _ h => h) (Or.inl ⟨by rfl, ?_⟩) ?_ ?_
           rotate_left; · (intro w'; go_simp; with_reducible rfl)
           rotate_left; · (simp only [Act.put, νm, νn, νo, i64_w, i32_w]; rfl)
           refine pure_ (i := 20) (N := some 43) (v := ?_) (a' := ?_) ν21 rfl rfl (any_of HT_.out (by kernel_rfl)) (fun _ _ _ h => h) (Or.inl ⟨by rfl, ?_⟩) ?_ ?_
           rotate_left; · (intro w'; go_simp; with_reducible rfl)
           rotate_left; · (simp only [Act.put, νm, νn, νo, i64_w, i32_w]; rfl)
           refine pure_ (i := 21) (N := some 44) (v := ?_) (a' := ?_) ν22 rfl rfl (any_of HT_.out (by kernel_rfl)) (fun _ _ _ h => h) (Or.inl ⟨by rfl, ?_⟩) ?_ ?_
           rotate_left; · (intro w'; go_simp; with_reducible rfl)
           rotate_left; · (simp only [Act.put, νm, νn, νo, i64_w, i32_w]; rfl)
           refine take_ (i := 22) (N := some 45) (v := ?_) (a' := ?_) ν23 rfl rfl (take_ofW HT_.out HW_.out (by kernel_rfl)) (fun _ _ _ h => h) (Or.inl ⟨by rfl, ?_⟩) hHeld ?_ ?_
           rotate_left
           ·
            rintro w' ⟨s0, s1, s2, s3, s4, s5⟩
            go_simp
            with_reducible rfl
           rotate_left
           ·
            simp only [Act.put, νm, νn, νo, i64_w, i32_w]
            rfl
           refine one_ (i := 23) (N := some 46) ν24 rfl rfl (one_of HT_.out (by kernel_rfl)) (by decide) (fun K hK => ?_)
           refine goes_ Try.func55 (by kernel_rfl) rfl #[.int .i64 ((rd_T46 l1 x18_2).f1), .int .i64 1, .int .i64 99] (by rfl) rfl rfl (by (try simp only [List.map_toArray, List.map_cons, List.map_nil]); first | done | rfl | (simp only [List.length_drop, List.length_take]; rfl)) ?_
           with_reducible refine (impl_InRange.calls ((rd_T46 l1 x18_2).f1) 1 99 true _ A37.out).mono ?_
           rintro e w' ⟨rfl, ⟨nd, rfl⟩⟩
           refine ⟨_, rfl, ?_⟩
           refine hK.out _ _ ⟨(νk BK253.out 0).trans rfl, (νk BK253.out 1).trans rfl, (νk BK253.out 2).trans rfl, (νk BK256.out 0).trans rfl, (νk BK256.out 1).trans rfl, (νk BK256.out 2).trans rfl⟩ (fun hHeld => ?_)
           clear hK K
           refine norm_ (a' := ?_) ?_ ?_
           rotate_left
           ·
            show Act.put _ (some 46) _ = _
            simp only [Act.put, νm, νn, νo, i64_w, i32_w]
            rfl
           refine pure_ (i := 24) (N := some 47) (v := ?_) (a' := ?_) ν25 rfl rfl (any_of HT_.out (by kernel_rfl)) (fun _ _ _ h => h) (Or.inl ⟨by rfl, ?_⟩) ?_ ?_
           rotate_left; · (intro w'; go_simp; with_reducible rfl)
           rotate_left; · (simp only [Act.put, νm, νn, νo, i64_w, i32_w]; rfl)
           refine pure_ (i := 25) (N := some 48) (v := ?_) (a' := ?_) ν26 rfl rfl (any_of HT_.out (by kernel_rfl)) (fun _ _ _ h => h) (Or.inl ⟨by rfl, ?_⟩) ?_ ?_
           rotate_left; · (intro w'; go_simp; with_reducible rfl)
           rotate_left; · (simp only [Act.put, νm, νn, νo, i64_w, i32_w]; rfl)
           refine pure_ (i := 26) (N := some 49) (v := ?_) (a' := ?_) ν27 rfl rfl (any_of HT_.out (by kernel_rfl)) (fun _ _ _ h => h) (Or.inl ⟨by rfl, ?_⟩) ?_ ?_
           rotate_left; · (intro w'; go_simp; with_reducible rfl)
           rotate_left; · (simp only [Act.put, νm, νn, νo, i64_w, i32_w]; rfl)
           refine pure_ (i := 27) (N := some 50) (v := ?_) (a' := ?_) ν28 rfl rfl (any_of HT_.out (by kernel_rfl)) (fun _ _ _ h => h) (Or.inl ⟨by rfl, ?_⟩) ?_ ?_
           rotate_left; · (intro w'; go_simp; with_reducible rfl)
           rotate_left; · (simp only [Act.put, νm, νn, νo, i64_w, i32_w]; rfl)
           refine pure_ (i := 29) (N := some 52) (v := ?_) (a' := ?_) ν34 rfl rfl (any_of HT_.out (by kernel_rfl)) (fun _ _ _ h => h) (Or.inl ⟨by rfl, ?_⟩) ?_ ?_
           rotate_left; · (intro w'; go_simp; with_reducible rfl)
           rotate_left; · (simp only [Act.put, νm, νn, νo, i64_w, i32_w]; rfl)
           refine take_ (i := 28) (N := some 51) (v := ?_) (a' := ?_) ν30 rfl rfl (take_ofW HT_.out HW_.out (by kernel_rfl)) (fun _ _ _ h => h) (Or.inl ⟨by rfl, ?_⟩) hHeld ?_ ?_
           rotate_left
           ·
            rintro w' ⟨s0, s1, s2, s3, s4, s5⟩
            go_simp
            with_reducible rfl
           rotate_left
           ·
            simp only [Act.put, νm, νn, νo, i64_w, i32_w]
            rfl
           refine take_ (i := 30) (N := some 53) (v := ?_) (a' := ?_) ν31 rfl rfl (take_ofW HT_.out HW_.out (by kernel_rfl)) (fun _ _ _ h => h) (Or.inl ⟨by rfl, ?_⟩) hHeld ?_ ?_
           rotate_left
           ·
            rintro w' ⟨s0, s1, s2, s3, s4, s5⟩
            go_simp
            with_reducible rfl
           rotate_left
           ·
            simp only [Act.put, νm, νn, νo, i64_w, i32_w]
            rfl
           refine pure_ (i := 31) (N := some 54) (v := ?_) (a' := ?_) ν32 rfl rfl (any_of HT_.out (by kernel_rfl)) (fun _ _ _ h => h) (Or.inl ⟨by rfl, ?_⟩) ?_ ?_
           rotate_left; · (intro w'; go_simp; with_reducible rfl)
           rotate_left; · (simp only [Act.put, νm, νn, νo, i64_w, i32_w]; rfl)
           refine pure_ (i := 32) (N := some 55) (v := ?_) (a' := ?_) ν33 rfl rfl (any_of HT_.out (by kernel_rfl)) (fun _ _ _ h => h) (Or.inl ⟨by rfl, ?_⟩) ?_ ?_
           rotate_left; · (intro w'; go_simp; with_reducible rfl)
           rotate_left; · (simp only [Act.put, νm, νn, νo, i64_w, i32_w]; rfl)
           refine done_ (done_of HT_.out (by kernel_rfl)) ?_
           try go_wp2
           go_meet
           case rel => exact ⟨_, ((((rd_T46 l1 x18_2).f1) == a0_0)), (by first | rfl | (simp; done) | (simp [*]; done)), H', ⟨by have := HJ2.out; have := HK2.out; first | omega | exact Nat.le_refl _⟩, ⟨by (with_reducible repeat (first | refine νa ?_ _ | refine νc ?_ | refine νb ?_ _)); exact BK253.out⟩, ⟨by (with_reducible repeat (first | refine νa ?_ _ | refine νc ?_ | refine νb ?_ _)); exact BK256.out⟩, ⟨by repeat (first | (with_reducible first | exact HB.out | apply νj | apply νh | apply νi | refine νg ?_ GE253.out | refine νg ?_ GE256.out) | exact HB.out)⟩⟩
          replace c38 := Bool.eq_false_iff.mpr c38
          subst c38
          have H1 : (impl_AreOffers.j2 k2 l1 x5_2 l1 (l1.length : Int) x18_2 true a0_0 a0_1 a0_2 ((rd_T46 l1 x18_2).f0) ((rd_T46 l1 x18_2).f1) ((rd_T46 l1 x18_2).f2)) = some r := by rw [if_neg (show ¬ (false = true) by decide)] at H; exact H
          clear H
          have H := H1
          clear H1
          have H' := νp H
          clear H
          try go_wp2
          have n0_ : Aside0 ((((w16.setCell ⟨gb256, 0, none⟩ (.int .i64 ((rd_T46 l1 x18_2).f0))).setCell ⟨gb256, 1, none⟩ (.int .i64 ((rd_T46 l1 x18_2).f1))).setCell ⟨gb256, 2, none⟩ (.bool ((rd_T46 l1 x18_2).f2))).heap[gb253]? = some (.cells #[.int .i64 a0_0, .int .i64 a0_1, .int .i64 a0_2] 25 (0, 0))) := ⟨by (with_reducible repeat (first | refine νa ?_ _ | refine νc ?_ | refine νb ?_ _)); refine blk_far ?_ NB253_256.out _; (with_reducible repeat (first | refine νa ?_ _ | refine νc ?_ | refine νb ?_ _)); refine blk_far ?_ NB253_256.out _; (with_reducible repeat (first | refine νa ?_ _ | refine νc ?_ | refine νb ?_ _)); refine blk_far ?_ NB253_256.out _; (with_reducible repeat (first | refine νa ?_ _ | refine νc ?_ | refine νb ?_ _)); exact BK253.out⟩
          have n1_ : Aside0 ((((w16.setCell ⟨gb256, 0, none⟩ (.int .i64 ((rd_T46 l1 x18_2).f0))).setCell ⟨gb256, 1, none⟩ (.int .i64 ((rd_T46 l1 x18_2).f1))).setCell ⟨gb256, 2, none⟩ (.bool ((rd_T46 l1 x18_2).f2))).heap[gb256]? = some (.cells #[.int .i64 ((rd_T46 l1 x18_2).f0), .int .i64 ((rd_T46 l1 x18_2).f1), .bool ((rd_T46 l1 x18_2).f2)] 46 (0, 0))) := ⟨by (with_reducible repeat (first | refine νa ?_ _ | refine νc ?_ | refine νb ?_ _)); refine blk_put (cs := #[.int .i64 ((rd_T46 l1 x18_2).f0), .int .i64 ((rd_T46 l1 x18_2).f1), .bool false]) ?_ 2 _ rfl; (with_reducible repeat (first | refine νa ?_ _ | refine νc ?_ | refine νb ?_ _)); refine blk_put (cs := #[.int .i64 ((rd_T46 l1 x18_2).f0), .int .i64 0, .bool false]) ?_ 1 _ rfl; (with_reducible repeat (first | refine νa ?_ _ | refine νc ?_ | refine νb ?_ _)); refine blk_put (cs := #[.int .i64 0, .int .i64 0, .bool false]) ?_ 0 _ rfl; (with_reducible repeat (first | refine νa ?_ _ | refine νc ?_ | refine νb ?_ _)); exact BK256.out⟩
          have n2_ : Aside0 (Below w.heap.size w (((w16.setCell ⟨gb256, 0, none⟩ (.int .i64 ((rd_T46 l1 x18_2).f0))).setCell ⟨gb256, 1, none⟩ (.int .i64 ((rd_T46 l1 x18_2).f1))).setCell ⟨gb256, 2, none⟩ (.bool ((rd_T46 l1 x18_2).f2)))) := ⟨by repeat (first | (with_reducible first | exact HB.out | apply νj | apply νh | apply νi | refine νg ?_ GE253.out | refine νg ?_ GE256.out) | exact HB.out)⟩
          (try clear BK253)
          (try clear BK256)
          (try clear HB)
          generalize (((w16.setCell ⟨gb256, 0, none⟩ (.int .i64 ((rd_T46 l1 x18_2).f0))).setCell ⟨gb256, 1, none⟩ (.int .i64 ((rd_T46 l1 x18_2).f1))).setCell ⟨gb256, 2, none⟩ (.bool ((rd_T46 l1 x18_2).f2))) = w42 at n0_ n1_ n2_ ⊢
          have BK253 := n0_
          have BK256 := n1_
          have HB := n2_
          clear n0_ n1_ n2_
          have n0_ := νp (νc BK253.out)
          have n1_ := νp (νc BK256.out)
          have n2_ := νp (νi HB.out)
          clear BK253
          clear BK256
          clear HB
          have BK253 := n0_
          have BK256 := n1_
          have HB := n2_
          clear n0_ n1_ n2_
          refine start_ (n := 33) (S := fun w' => w'.cell? ⟨gb253, 0, none⟩ = some (.int .i64 a0_0) ∧ w'.cell? ⟨gb253, 1, none⟩ = some (.int .i64 a0_1) ∧ w'.cell? ⟨gb253, 2, none⟩ = some (.int .i64 a0_2) ∧ w'.cell? ⟨gb256, 0, none⟩ = some (.int .i64 ((rd_T46 l1 x18_2).f0)) ∧ w'.cell? ⟨gb256, 1, none⟩ = some (.int .i64 ((rd_T46 l1 x18_2).f1)) ∧ w'.cell? ⟨gb256, 2, none⟩ = some (.bool ((rd_T46 l1 x18_2).f2))) (ds := []) ν0 (by kernel_rfl) rfl rfl ⟨(νk BK253.out 0).trans rfl, (νk BK253.out 1).trans rfl, (νk BK253.out 2).trans rfl, (νk BK256.out 0).trans rfl, (νk BK256.out 1).trans rfl, (νk BK256.out 2).trans rfl⟩ (fun hHeld => ?_); refine with_tabW impl_AreOffers.tab7 impl_AreOffers.bits7 (fun HT_ HW_ => ?_)
          generalize w42.drew = w43 at BK253 BK256 HB hHeld ⊢
          refine pure_ (i := 1) (N := some 24) (v := ?_) (a' := ?_) ν1 rfl rfl (any_of HT_.out (by kernel_rfl)) (fun _ _ _ h => h) (Or.inl ⟨by rfl, ?_⟩) ?_ ?_
          rotate_left; · (intro w'; go_simp; with_reducible rfl)
          rotate_left; · (simp only [Act.put, νm, νn, νo, i64_w, i32_w]; rfl)
          refine take_ (i := 0) (N := some 23) (v := ?_) (a' := ?_) ν2 rfl rfl (take_ofW HT_.out HW_.out (by kernel_rfl)) (fun _ _ _ h => h) (Or.inl ⟨by rfl, ?_⟩) hHeld ?_ ?_
          rotate_left
          ·
           rintro w' ⟨s0, s1, s2, s3, s4, s5⟩
           go_simp
           with_reducible rfl
          rotate_left
          ·
           simp only [Act.put, νm, νn, νo, i64_w, i32_w]
           rfl
          refine take_ (i := 2) (N := some 25) (v := ?_) (a' := ?_) ν3 rfl rfl (take_ofW HT_.out HW_.out (by kernel_rfl)) (fun _ _ _ h => h) (Or.inl ⟨by rfl, ?_⟩) hHeld ?_ ?_
          rotate_left
          ·
           rintro w' ⟨s0, s1, s2, s3, s4, s5⟩
           go_simp
           with_reducible rfl
          rotate_left
          ·
           simp only [Act.put, νm, νn, νo, i64_w, i32_w]
           rfl
          refine one_ (i := 3) (N := some 26) ν4 rfl rfl (one_of HT_.out (by kernel_rfl)) (by decide) (fun K hK => ?_)
          refine goes_ Try.func17 (by kernel_rfl) rfl #[.agg #[.int .i64 a0_0, .int .i64 a0_1, .int .i64 a0_2], .int .i64 ((rd_T46 l1 x18_2).f0)] (by rfl) rfl rfl (by (try simp only [List.map_toArray, List.map_cons, List.map_nil]); first | done | rfl | (simp only [List.length_drop, List.length_take]; rfl)) ?_
          with_reducible refine (impl_MayOffer.calls a0_0 a0_1 a0_2 ((rd_T46 l1 x18_2).f0) true _ A19.out).mono ?_
          rintro e w44 ⟨rfl, hb⟩
          refine ⟨_, rfl, ?_⟩
          have n0_ := νp (blk_below (g := gb253) (o := .cells #[.int .i64 a0_0, .int .i64 a0_1, .int .i64 a0_2] 25 (0, 0)) (by (with_reducible repeat (first | refine νa ?_ _ | refine νc ?_ | refine νb ?_ _)); exact BK253.out) hb)
          have n1_ := νp (blk_below (g := gb256) (o := .cells #[.int .i64 ((rd_T46 l1 x18_2).f0), .int .i64 ((rd_T46 l1 x18_2).f1), .bool ((rd_T46 l1 x18_2).f2)] 46 (0, 0)) (by (with_reducible repeat (first | refine νa ?_ _ | refine νc ?_ | refine νb ?_ _)); exact BK256.out) hb)
          have n2_ := νp (below_step (by repeat (first | (with_reducible first | exact HB.out | apply νj | apply νh | apply νi | refine νg ?_ GE253.out | refine νg ?_ GE256.out) | exact HB.out)) hb)
          clear BK253
          clear BK256
          clear HB
          have BK253 := n0_
          have BK256 := n1_
          have HB := n2_
          clear n0_ n1_ n2_
          (try clear hb)
          (try clear hb2)
          (try clear hk)
          (try clear hi)
          refine hK.out _ _ ⟨(νk BK253.out 0).trans rfl, (νk BK253.out 1).trans rfl, (νk BK253.out 2).trans rfl, (νk BK256.out 0).trans rfl, (νk BK256.out 1).trans rfl, (νk BK256.out 2).trans rfl⟩ (fun hHeld => ?_)
          clear hK K
          refine norm_ (a' := ?_) ?_ ?_
          rotate_left
          ·
           show Act.put _ (some 26) _ = _
           simp only [Act.put, νm, νn, νo, i64_w, i32_w]
           rfl
          refine pure_ (i := 4) (N := some 27) (v := ?_) (a' := ?_) ν5 rfl rfl (any_of HT_.out (by kernel_rfl)) (fun _ _ _ h => h) (Or.inl ⟨by rfl, ?_⟩) ?_ ?_
          rotate_left; · (intro w'; go_simp; with_reducible rfl)
          rotate_left; · (simp only [Act.put, νm, νn, νo, i64_w, i32_w]; rfl)
          refine pure_ (i := 5) (N := some 28) (v := ?_) (a' := ?_) ν6 rfl rfl (any_of HT_.out (by kernel_rfl)) (fun _ _ _ h => h) (Or.inl ⟨by rfl, ?_⟩) ?_ ?_
          rotate_left; · (intro w'; go_simp; with_reducible rfl)
          rotate_left; · (simp only [Act.put, νm, νn, νo, i64_w, i32_w]; rfl)
          refine pure_ (i := 6) (N := some 29) (v := ?_) (a' := ?_) ν7 rfl rfl (any_of HT_.out (by kernel_rfl)) (fun _ _ _ h => h) (Or.inl ⟨by rfl, ?_⟩) ?_ ?_
          rotate_left; · (intro w'; go_simp; with_reducible rfl)
          rotate_left; · (simp only [Act.put, νm, νn, νo, i64_w, i32_w]; rfl)
          refine pure_ (i := 7) (N := some 30) (v := ?_) (a' := ?_) ν8 rfl rfl (any_of HT_.out (by kernel_rfl)) (fun _ _ _ h => h) (Or.inl ⟨by rfl, ?_⟩) ?_ ?_
          rotate_left; · (intro w'; go_simp; with_reducible rfl)
          rotate_left; · (simp only [Act.put, νm, νn, νo, i64_w, i32_w]; rfl)
          refine pure_ (i := 8) (N := some 31) (v := ?_) (a' := ?_) ν9 rfl rfl (any_of HT_.out (by kernel_rfl)) (fun _ _ _ h => h) (Or.inl ⟨by rfl, ?_⟩) ?_ ?_
          rotate_left; · (intro w'; go_simp; with_reducible rfl)
          rotate_left; · (simp only [Act.put, νm, νn, νo, i64_w, i32_w]; rfl)
          refine pure_ (i := 9) (N := some 32) (v := undef) (a' := ?_) ν10 rfl rfl (any_of HT_.out (by kernel_rfl)) (fun _ _ _ h => h) (Or.inr ⟨by rfl, rfl⟩) ?_ ?_
          rotate_left
          ·
           simp only [Act.put, νm, νn, νo, i64_w, i32_w]
           rfl
          refine pure_ (i := 10) (N := some 33) (v := undef) (a' := ?_) ν35 rfl rfl (any_of HT_.out (by kernel_rfl)) (fun _ _ _ h => h) (Or.inr ⟨by rfl, rfl⟩) ?_ ?_
          rotate_left
          ·
           simp only [Act.put, νm, νn, νo, i64_w, i32_w]
           rfl
          refine pure_ (i := 11) (N := some 34) (v := undef) (a' := ?_) ν36 rfl rfl (any_of HT_.out (by kernel_rfl)) (fun _ _ _ h => h) (Or.inr ⟨by rfl, rfl⟩) ?_ ?_
          rotate_left
          ·
           simp only [Act.put, νm, νn, νo, i64_w, i32_w]
           rfl
          refine pure_ (i := 12) (N := some 35) (v := undef) (a' := ?_) ν37 rfl rfl (any_of HT_.out (by kernel_rfl)) (fun _ _ _ h => h) (Or.inr ⟨by rfl, rfl⟩) ?_ ?_
          rotate_left
          ·
           simp only [Act.put, νm, νn, νo, i64_w, i32_w]
           rfl
          refine pure_ (i := 13) (N := some 36) (v := undef) (a' := ?_) ν38 rfl rfl (any_of HT_.out (by kernel_rfl)) (fun _ _ _ h => h) (Or.inr ⟨by rfl, rfl⟩) ?_ ?_
          rotate_left
          ·
           simp only [Act.put, νm, νn, νo, i64_w, i32_w]
           rfl
          refine pure_ (i := 14) (N := some 37) (v := undef) (a' := ?_) ν39 rfl rfl (any_of HT_.out (by kernel_rfl)) (fun _ _ _ h => h) (Or.inr ⟨by rfl, rfl⟩) ?_ ?_
          rotate_left
          ·
           simp only [Act.put, νm, νn, νo, i64_w, i32_w]
           rfl
          refine pure_ (i := 15) (N := some 38) (v := undef) (a' := ?_) ν16 rfl rfl (any_of HT_.out (by kernel_rfl)) (fun _ _ _ h => h) (Or.inr ⟨by rfl, rfl⟩) ?_ ?_
          rotate_left
          ·
           simp only [Act.put, νm, νn, νo, i64_w, i32_w]
           rfl
          refine pure_ (i := 16) (N := some 39) (v := undef) (a' := ?_) ν17 rfl rfl (any_of HT_.out (by kernel_rfl)) (fun _ _ _ h => h) (Or.inr ⟨by rfl, rfl⟩) ?_ ?_
          rotate_left
          ·
           simp only [Act.put, νm, νn, νo, i64_w, i32_w]
           rfl
          refine pure_ (i := 17) (N := some 40) (v := undef) (a' := ?_) ν18 rfl rfl (any_of HT_.out (by kernel_rfl)) (fun _ _ _ h => h) (Or.inr ⟨by rfl, rfl⟩) ?_ ?_
          rotate_left
          ·
           simp only [Act.put, νm, νn, νo, i64_w, i32_w]
           rfl
          refine pure_ (i := 18) (N := some 41) (v := ?_) (a' := ?_) ν19 rfl rfl (any_of HT_.out (by kernel_rfl)) (fun _ _ _ h => h) (Or.inl ⟨by rfl, ?_⟩) ?_ ?_
          rotate_left; · (intro w'; go_simp; with_reducible rfl)
          rotate_left; · (simp only [Act.put, νm, νn, νo, i64_w, i32_w]; rfl)
          refine pure_ (i := 19) (N := some 42) (v := ?_) (a' := ?_) ν20 rfl rfl (any_of HT_.out (by kernel_rfl)) (fun _ _ _ h => h) (Or.inl ⟨by rfl, ?_⟩) ?_ ?_
          rotate_left; · (intro w'; go_simp; with_reducible rfl)
          rotate_left; · (simp only [Act.put, νm, νn, νo, i64_w, i32_w]; rfl)
          refine pure_ (i := 20) (N := some 43) (v := ?_) (a' := ?_) ν21 rfl rfl (any_of HT_.out (by kernel_rfl)) (fun _ _ _ h => h) (Or.inl ⟨by rfl, ?_⟩) ?_ ?_
          rotate_left; · (intro w'; go_simp; with_reducible rfl)
          rotate_left; · (simp only [Act.put, νm, νn, νo, i64_w, i32_w]; rfl)
          refine pure_ (i := 21) (N := some 44) (v := ?_) (a' := ?_) ν22 rfl rfl (any_of HT_.out (by kernel_rfl)) (fun _ _ _ h => h) (Or.inl ⟨by rfl, ?_⟩) ?_ ?_
          rotate_left; · (intro w'; go_simp; with_reducible rfl)
          rotate_left; · (simp only [Act.put, νm, νn, νo, i64_w, i32_w]; rfl)
          refine take_ (i := 22) (N := some 45) (v := ?_) (a' := ?_) ν23 rfl rfl (take_ofW HT_.out HW_.out (by kernel_rfl)) (fun _ _ _ h => h) (Or.inl ⟨by rfl, ?_⟩) hHeld ?_ ?_
          rotate_left
          ·
           rintro w' ⟨s0, s1, s2, s3, s4, s5⟩
           go_simp
           with_reducible rfl
          rotate_left
          ·
           simp only [Act.put, νm, νn, νo, i64_w, i32_w]
           rfl
          refine one_ (i := 23) (N := some 46) ν24 rfl rfl (one_of HT_.out (by kernel_rfl)) (by decide) (fun K hK => ?_)
          refine goes_ Try.func55 (by kernel_rfl) rfl #[.int .i64 ((rd_T46 l1 x18_2).f1), .int .i64 1, .int .i64 99] (by rfl) rfl rfl (by (try simp only [List.map_toArray, List.map_cons, List.map_nil]); first | done | rfl | (simp only [List.length_drop, List.length_take]; rfl)) ?_
          with_reducible refine (impl_InRange.calls ((rd_T46 l1 x18_2).f1) 1 99 false _ A37.out).mono ?_
          rintro e w' ⟨rfl, ⟨nd, rfl⟩⟩
          refine ⟨_, rfl, ?_⟩
          refine hK.out _ _ ⟨(νk BK253.out 0).trans rfl, (νk BK253.out 1).trans rfl, (νk BK253.out 2).trans rfl, (νk BK256.out 0).trans rfl, (νk BK256.out 1).trans rfl, (νk BK256.out 2).trans rfl⟩ (fun hHeld => ?_)
          clear hK K
          refine norm_ (a' := ?_) ?_ ?_
          rotate_left
          ·
           show Act.put _ (some 46) _ = _
           simp only [Act.put, νm, νn, νo, i64_w, i32_w]
           rfl
          refine pure_ (i := 24) (N := some 47) (v := ?_) (a' := ?_) ν25 rfl rfl (any_of HT_.out (by kernel_rfl)) (fun _ _ _ h => h) (Or.inl ⟨by rfl, ?_⟩) ?_ ?_
          rotate_left; · (intro w'; go_simp; with_reducible rfl)
          rotate_left; · (simp only [Act.put, νm, νn, νo, i64_w, i32_w]; rfl)
          refine pure_ (i := 25) (N := some 48) (v := ?_) (a' := ?_) ν26 rfl rfl (any_of HT_.out (by kernel_rfl)) (fun _ _ _ h => h) (Or.inl ⟨by rfl, ?_⟩) ?_ ?_
          rotate_left; · (intro w'; go_simp; with_reducible rfl)
          rotate_left; · (simp only [Act.put, νm, νn, νo, i64_w, i32_w]; rfl)
          refine pure_ (i := 26) (N := some 49) (v := ?_) (a' := ?_) ν27 rfl rfl (any_of HT_.out (by kernel_rfl)) (fun _ _ _ h => h) (Or.inl ⟨by rfl, ?_⟩) ?_ ?_
          rotate_left; · (intro w'; go_simp; with_reducible rfl)
          rotate_left; · (simp only [Act.put, νm, νn, νo, i64_w, i32_w]; rfl)
          refine pure_ (i := 27) (N := some 50) (v := undef) (a' := ?_) ν28 rfl rfl (any_of HT_.out (by kernel_rfl)) (fun _ _ _ h => h) (Or.inr ⟨by rfl, rfl⟩) ?_ ?_
          rotate_left
          ·
           simp only [Act.put, νm, νn, νo, i64_w, i32_w]
           rfl
          refine pure_ (i := 28) (N := some 51) (v := undef) (a' := ?_) ν29 rfl rfl (any_of HT_.out (by kernel_rfl)) (fun _ _ _ h => h) (Or.inr ⟨by rfl, rfl⟩) ?_ ?_
          rotate_left
          ·
           simp only [Act.put, νm, νn, νo, i64_w, i32_w]
           rfl
          refine pure_ (i := 29) (N := some 52) (v := undef) (a' := ?_) ν30 rfl rfl (any_of HT_.out (by kernel_rfl)) (fun _ _ _ h => h) (Or.inr ⟨by rfl, rfl⟩) ?_ ?_
          rotate_left
          ·
           simp only [Act.put, νm, νn, νo, i64_w, i32_w]
           rfl
          refine pure_ (i := 30) (N := some 53) (v := undef) (a' := ?_) ν31 rfl rfl (any_of HT_.out (by kernel_rfl)) (fun _ _ _ h => h) (Or.inr ⟨by rfl, rfl⟩) ?_ ?_
          rotate_left
          ·
           simp only [Act.put, νm, νn, νo, i64_w, i32_w]
           rfl
          refine pure_ (i := 31) (N := some 54) (v := undef) (a' := ?_) ν32 rfl rfl (any_of HT_.out (by kernel_rfl)) (fun _ _ _ h => h) (Or.inr ⟨by rfl, rfl⟩) ?_ ?_
          rotate_left
          ·
           simp only [Act.put, νm, νn, νo, i64_w, i32_w]
           rfl
          refine pure_ (i := 32) (N := some 55) (v := ?_) (a' := ?_) ν33 rfl rfl (any_of HT_.out (by kernel_rfl)) (fun _ _ _ h => h) (Or.inl ⟨by rfl, ?_⟩) ?_ ?_
          rotate_left; · (intro w'; go_simp; with_reducible rfl)
          rotate_left; · (simp only [Act.put, νm, νn, νo, i64_w, i32_w]; rfl)
          refine done_ (done_of HT_.out (by kernel_rfl)) ?_
          try go_wp2
          go_meet
          case rel => exact ⟨_, (true), (by first | rfl | (simp; done) | (simp [*]; done)), H', ⟨by have := HJ2.out; have := HK2.out; first | omega | exact Nat.le_refl _⟩, ⟨by (with_reducible repeat (first | refine νa ?_ _ | refine νc ?_ | refine νb ?_ _)); exact BK253.out⟩, ⟨by (with_reducible repeat (first | refine νa ?_ _ | refine νc ?_ | refine νb ?_ _)); exact BK256.out⟩, ⟨by repeat (first | (with_reducible first | exact HB.out | apply νj | apply νh | apply νi | refine νg ?_ GE253.out | refine νg ?_ GE256.out) | exact HB.out)⟩⟩
         replace c20 := Bool.eq_false_iff.mpr c20
         subst c20
         have H1 : (impl_AreOffers.j2 k2 l1 x5_2 l1 (l1.length : Int) x18_2 true a0_0 a0_1 a0_2 ((rd_T46 l1 x18_2).f0) ((rd_T46 l1 x18_2).f1) ((rd_T46 l1 x18_2).f2)) = some r := by rw [if_neg (show ¬ (false = true) by decide)] at H; exact H
         clear H
         have H := H1
         clear H1
         have H' := νp H
         clear H
         try go_wp2
         have n0_ : Aside0 ((((w16.setCell ⟨gb256, 0, none⟩ (.int .i64 ((rd_T46 l1 x18_2).f0))).setCell ⟨gb256, 1, none⟩ (.int .i64 ((rd_T46 l1 x18_2).f1))).setCell ⟨gb256, 2, none⟩ (.bool ((rd_T46 l1 x18_2).f2))).heap[gb253]? = some (.cells #[.int .i64 a0_0, .int .i64 a0_1, .int .i64 a0_2] 25 (0, 0))) := ⟨by (with_reducible repeat (first | refine νa ?_ _ | refine νc ?_ | refine νb ?_ _)); refine blk_far ?_ NB253_256.out _; (with_reducible repeat (first | refine νa ?_ _ | refine νc ?_ | refine νb ?_ _)); refine blk_far ?_ NB253_256.out _; (with_reducible repeat (first | refine νa ?_ _ | refine νc ?_ | refine νb ?_ _)); refine blk_far ?_ NB253_256.out _; (with_reducible repeat (first | refine νa ?_ _ | refine νc ?_ | refine νb ?_ _)); exact BK253.out⟩
         have n1_ : Aside0 ((((w16.setCell ⟨gb256, 0, none⟩ (.int .i64 ((rd_T46 l1 x18_2).f0))).setCell ⟨gb256, 1, none⟩ (.int .i64 ((rd_T46 l1 x18_2).f1))).setCell ⟨gb256, 2, none⟩ (.bool ((rd_T46 l1 x18_2).f2))).heap[gb256]? = some (.cells #[.int .i64 ((rd_T46 l1 x18_2).f0), .int .i64 ((rd_T46 l1 x18_2).f1), .bool ((rd_T46 l1 x18_2).f2)] 46 (0, 0))) := ⟨by (with_reducible repeat (first | refine νa ?_ _ | refine νc ?_ | refine νb ?_ _)); refine blk_put (cs := #[.int .i64 ((rd_T46 l1 x18_2).f0), .int .i64 ((rd_T46 l1 x18_2).f1), .bool false]) ?_ 2 _ rfl; (with_reducible repeat (first | refine νa ?_ _ | refine νc ?_ | refine νb ?_ _)); refine blk_put (cs := #[.int .i64 ((rd_T46 l1 x18_2).f0), .int .i64 0, .bool false]) ?_ 1 _ rfl; (with_reducible repeat (first | refine νa ?_ _ | refine νc ?_ | refine νb ?_ _)); refine blk_put (cs := #[.int .i64 0, .int .i64 0, .bool false]) ?_ 0 _ rfl; (with_reducible repeat (first | refine νa ?_ _ | refine νc ?_ | refine νb ?_ _)); exact BK256.out⟩
         have n2_ : Aside0 (Below w.heap.size w (((w16.setCell ⟨gb256, 0, none⟩ (.int .i64 ((rd_T46 l1 x18_2).f0))).setCell ⟨gb256, 1, none⟩ (.int .i64 ((rd_T46 l1 x18_2).f1))).setCell ⟨gb256, 2, none⟩ (.bool ((rd_T46 l1 x18_2).f2)))) := ⟨by repeat (first | (with_reducible first | exact HB.out | apply νj | apply νh | apply νi | refine νg ?_ GE253.out | refine νg ?_ GE256.out) | exact HB.out)⟩
         (try clear BK253)
         (try clear BK256)
         (try clear HB)
         generalize (((w16.setCell ⟨gb256, 0, none⟩ (.int .i64 ((rd_T46 l1 x18_2).f0))).setCell ⟨gb256, 1, none⟩ (.int .i64 ((rd_T46 l1 x18_2).f1))).setCell ⟨gb256, 2, none⟩ (.bool ((rd_T46 l1 x18_2).f2))) = w45 at n0_ n1_ n2_ ⊢
         have BK253 := n0_
         have BK256 := n1_
         have HB := n2_
         clear n0_ n1_ n2_
         have n0_ := νp (νc BK253.out)
         have n1_ := νp (νc BK256.out)
         have n2_ := νp (νi HB.out)
         clear BK253
         clear BK256
         clear HB
         have BK253 := n0_
         have BK256 := n1_
         have HB := n2_
         clear n0_ n1_ n2_
         refine start_ (n := 33) (S := fun w' => w'.cell? ⟨gb253, 0, none⟩ = some (.int .i64 a0_0) ∧ w'.cell? ⟨gb253, 1, none⟩ = some (.int .i64 a0_1) ∧ w'.cell? ⟨gb253, 2, none⟩ = some (.int .i64 a0_2) ∧ w'.cell? ⟨gb256, 0, none⟩ = some (.int .i64 ((rd_T46 l1 x18_2).f0)) ∧ w'.cell? ⟨gb256, 1, none⟩ = some (.int .i64 ((rd_T46 l1 x18_2).f1)) ∧ w'.cell? ⟨gb256, 2, none⟩ = some (.bool ((rd_T46 l1 x18_2).f2))) (ds := []) ν0 (by kernel_rfl) rfl rfl ⟨(νk BK253.out 0).trans rfl, (νk BK253.out 1).trans rfl, (νk BK253.out 2).trans rfl, (νk BK256.out 0).trans rfl, (νk BK256.out 1).trans rfl, (νk BK256.out 2).trans rfl⟩ (fun hHeld => ?_); refine with_tabW impl_AreOffers.tab7 impl_AreOffers.bits7 (fun HT_ HW_ => ?_)
         generalize w45.drew = w46 at BK253 BK256 HB hHeld ⊢
         refine pure_ (i := 1) (N := some 24) (v := ?_) (a' := ?_) ν1 rfl rfl (any_of HT_.out (by kernel_rfl)) (fun _ _ _ h => h) (Or.inl ⟨by rfl, ?_⟩) ?_ ?_
         rotate_left; · (intro w'; go_simp; with_reducible rfl)
         rotate_left; · (simp only [Act.put, νm, νn, νo, i64_w, i32_w]; rfl)
         refine take_ (i := 0) (N := some 23) (v := ?_) (a' := ?_) ν2 rfl rfl (take_ofW HT_.out HW_.out (by kernel_rfl)) (fun _ _ _ h => h) (Or.inl ⟨by rfl, ?_⟩) hHeld ?_ ?_
         rotate_left
         ·
          rintro w' ⟨s0, s1, s2, s3, s4, s5⟩
          go_simp
          with_reducible rfl
         rotate_left
         ·
          simp only [Act.put, νm, νn, νo, i64_w, i32_w]
          rfl
         refine take_ (i := 2) (N := some 25) (v := ?_) (a' := ?_) ν3 rfl rfl (take_ofW HT_.out HW_.out (by kernel_rfl)) (fun _ _ _ h => h) (Or.inl ⟨by rfl, ?_⟩) hHeld ?_ ?_
         rotate_left
         ·
          rintro w' ⟨s0, s1, s2, s3, s4, s5⟩
          go_simp
          with_reducible rfl
         rotate_left
         ·
          simp only [Act.put, νm, νn, νo, i64_w, i32_w]
          rfl
         refine one_ (i := 3) (N := some 26) ν4 rfl rfl (one_of HT_.out (by kernel_rfl)) (by decide) (fun K hK => ?_)
         refine goes_ Try.func17 (by kernel_rfl) rfl #[.agg #[.int .i64 a0_0, .int .i64 a0_1, .int .i64 a0_2], .int .i64 ((rd_T46 l1 x18_2).f0)] (by rfl) rfl rfl (by (try simp only [List.map_toArray, List.map_cons, List.map_nil]); first | done | rfl | (simp only [List.length_drop, List.length_take]; rfl)) ?_
         with_reducible refine (impl_MayOffer.calls a0_0 a0_1 a0_2 ((rd_T46 l1 x18_2).f0) false _ A19.out).mono ?_
         rintro e w47 ⟨rfl, hb⟩
         refine ⟨_, rfl, ?_⟩
         have n0_ := νp (blk_below (g := gb253) (o := .cells #[.int .i64 a0_0, .int .i64 a0_1, .int .i64 a0_2] 25 (0, 0)) (by (with_reducible repeat (first | refine νa ?_ _ | refine νc ?_ | refine νb ?_ _)); exact BK253.out) hb)
         have n1_ := νp (blk_below (g := gb256) (o := .cells #[.int .i64 ((rd_T46 l1 x18_2).f0), .int .i64 ((rd_T46 l1 x18_2).f1), .bool ((rd_T46 l1 x18_2).f2)] 46 (0, 0)) (by (with_reducible repeat (first | refine νa ?_ _ | refine νc ?_ | refine νb ?_ _)); exact BK256.out) hb)
         have n2_ := νp (below_step (by repeat (first | (with_reducible first | exact HB.out | apply νj | apply νh | apply νi | refine νg ?_ GE253.out | refine νg ?_ GE256.out) | exact HB.out)) hb)
         clear BK253
         clear BK256
         clear HB
         have BK253 := n0_
         have BK256 := n1_
         have HB := n2_
         clear n0_ n1_ n2_
         (try clear hb)
         (try clear hb2)
         (try clear hk)
         (try clear hi)
         refine hK.out _ _ ⟨(νk BK253.out 0).trans rfl, (νk BK253.out 1).trans rfl, (νk BK253.out 2).trans rfl, (νk BK256.out 0).trans rfl, (νk BK256.out 1).trans rfl, (νk BK256.out 2).trans rfl⟩ (fun hHeld => ?_)
         clear hK K
         refine norm_ (a' := ?_) ?_ ?_
         rotate_left
         ·
          show Act.put _ (some 26) _ = _
          simp only [Act.put, νm, νn, νo, i64_w, i32_w]
          rfl
         refine pure_ (i := 4) (N := some 27) (v := ?_) (a' := ?_) ν5 rfl rfl (any_of HT_.out (by kernel_rfl)) (fun _ _ _ h => h) (Or.inl ⟨by rfl, ?_⟩) ?_ ?_
         rotate_left; · (intro w'; go_simp; with_reducible rfl)
         rotate_left; · (simp only [Act.put, νm, νn, νo, i64_w, i32_w]; rfl)
         refine pure_ (i := 5) (N := some 28) (v := ?_) (a' := ?_) ν6 rfl rfl (any_of HT_.out (by kernel_rfl)) (fun _ _ _ h => h) (Or.inl ⟨by rfl, ?_⟩) ?_ ?_
         rotate_left; · (intro w'; go_simp; with_reducible rfl)
         rotate_left; · (simp only [Act.put, νm, νn, νo, i64_w, i32_w]; rfl)
         refine pure_ (i := 6) (N := some 29) (v := undef) (a' := ?_) ν7 rfl rfl (any_of HT_.out (by kernel_rfl)) (fun _ _ _ h => h) (Or.inr ⟨by rfl, rfl⟩) ?_ ?_
         rotate_left
         ·
          simp only [Act.put, νm, νn, νo, i64_w, i32_w]
          rfl
         refine pure_ (i := 7) (N := some 30) (v := undef) (a' := ?_) ν8 rfl rfl (any_of HT_.out (by kernel_rfl)) (fun _ _ _ h => h) (Or.inr ⟨by rfl, rfl⟩) ?_ ?_
         rotate_left
         ·
          simp only [Act.put, νm, νn, νo, i64_w, i32_w]
          rfl
         refine pure_ (i := 8) (N := some 31) (v := undef) (a' := ?_) ν9 rfl rfl (any_of HT_.out (by kernel_rfl)) (fun _ _ _ h => h) (Or.inr ⟨by rfl, rfl⟩) ?_ ?_
         rotate_left
         ·
          simp only [Act.put, νm, νn, νo, i64_w, i32_w]
          rfl
         refine pure_ (i := 9) (N := some 32) (v := undef) (a' := ?_) ν10 rfl rfl (any_of HT_.out (by kernel_rfl)) (fun _ _ _ h => h) (Or.inr ⟨by rfl, rfl⟩) ?_ ?_
         rotate_left
         ·
          simp only [Act.put, νm, νn, νo, i64_w, i32_w]
          rfl
         refine pure_ (i := 10) (N := some 33) (v := undef) (a' := ?_) ν35 rfl rfl (any_of HT_.out (by kernel_rfl)) (fun _ _ _ h => h) (Or.inr ⟨by rfl, rfl⟩) ?_ ?_
         rotate_left
         ·
          simp only [Act.put, νm, νn, νo, i64_w, i32_w]
          rfl
         refine pure_ (i := 11) (N := some 34) (v := undef) (a' := ?_) ν36 rfl rfl (any_of HT_.out (by kernel_rfl)) (fun _ _ _ h => h) (Or.inr ⟨by rfl, rfl⟩) ?_ ?_
         rotate_left
         ·
          simp only [Act.put, νm, νn, νo, i64_w, i32_w]
          rfl
         refine pure_ (i := 12) (N := some 35) (v := undef) (a' := ?_) ν37 rfl rfl (any_of HT_.out (by kernel_rfl)) (fun _ _ _ h => h) (Or.inr ⟨by rfl, rfl⟩) ?_ ?_
         rotate_left
         ·
          simp only [Act.put, νm, νn, νo, i64_w, i32_w]
          rfl
         refine pure_ (i := 13) (N := some 36) (v := undef) (a' := ?_) ν38 rfl rfl (any_of HT_.out (by kernel_rfl)) (fun _ _ _ h => h) (Or.inr ⟨by rfl, rfl⟩) ?_ ?_
         rotate_left
         ·
          simp only [Act.put, νm, νn, νo, i64_w, i32_w]
          rfl
         refine pure_ (i := 14) (N := some 37) (v := undef) (a' := ?_) ν39 rfl rfl (any_of HT_.out (by kernel_rfl)) (fun _ _ _ h => h) (Or.inr ⟨by rfl, rfl⟩) ?_ ?_
         rotate_left
         ·
          simp only [Act.put, νm, νn, νo, i64_w, i32_w]
          rfl
         refine pure_ (i := 15) (N := some 38) (v := undef) (a' := ?_) ν16 rfl rfl (any_of HT_.out (by kernel_rfl)) (fun _ _ _ h => h) (Or.inr ⟨by rfl, rfl⟩) ?_ ?_
         rotate_left
         ·
          simp only [Act.put, νm, νn, νo, i64_w, i32_w]
          rfl
         refine pure_ (i := 16) (N := some 39) (v := undef) (a' := ?_) ν17 rfl rfl (any_of HT_.out (by kernel_rfl)) (fun _ _ _ h => h) (Or.inr ⟨by rfl, rfl⟩) ?_ ?_
         rotate_left
         ·
          simp only [Act.put, νm, νn, νo, i64_w, i32_w]
          rfl
         refine pure_ (i := 17) (N := some 40) (v := undef) (a' := ?_) ν18 rfl rfl (any_of HT_.out (by kernel_rfl)) (fun _ _ _ h => h) (Or.inr ⟨by rfl, rfl⟩) ?_ ?_
         rotate_left
         ·
          simp only [Act.put, νm, νn, νo, i64_w, i32_w]
          rfl
         refine pure_ (i := 18) (N := some 41) (v := undef) (a' := ?_) ν19 rfl rfl (any_of HT_.out (by kernel_rfl)) (fun _ _ _ h => h) (Or.inr ⟨by rfl, rfl⟩) ?_ ?_
         rotate_left
         ·
          simp only [Act.put, νm, νn, νo, i64_w, i32_w]
          rfl
         refine pure_ (i := 19) (N := some 42) (v := ?_) (a' := ?_) ν20 rfl rfl (any_of HT_.out (by kernel_rfl)) (fun _ _ _ h => h) (Or.inl ⟨by rfl, ?_⟩) ?_ ?_
         rotate_left; · (intro w'; go_simp; with_reducible rfl)
         rotate_left; · (simp only [Act.put, νm, νn, νo, i64_w, i32_w]; rfl)
         refine pure_ (i := 20) (N := some 43) (v := ?_) (a' := ?_) ν21 rfl rfl (any_of HT_.out (by kernel_rfl)) (fun _ _ _ h => h) (Or.inl ⟨by rfl, ?_⟩) ?_ ?_
         rotate_left; · (intro w'; go_simp; with_reducible rfl)
         rotate_left; · (simp only [Act.put, νm, νn, νo, i64_w, i32_w]; rfl)
         refine pure_ (i := 21) (N := some 44) (v := undef) (a' := ?_) ν22 rfl rfl (any_of HT_.out (by kernel_rfl)) (fun _ _ _ h => h) (Or.inr ⟨by rfl, rfl⟩) ?_ ?_
         rotate_left
         ·
          simp only [Act.put, νm, νn, νo, i64_w, i32_w]
          rfl
         refine pure_ (i := 22) (N := some 45) (v := undef) (a' := ?_) ν23 rfl rfl (any_of HT_.out (by kernel_rfl)) (fun _ _ _ h => h) (Or.inr ⟨by rfl, rfl⟩) ?_ ?_
         rotate_left
         ·
          simp only [Act.put, νm, νn, νo, i64_w, i32_w]
          rfl
         refine pure_ (i := 23) (N := some 46) (v := undef) (a' := ?_) ν24 rfl rfl (any_of HT_.out (by kernel_rfl)) (fun _ _ _ h => h) (Or.inr ⟨by rfl, rfl⟩) ?_ ?_
         rotate_left
         ·
          simp only [Act.put, νm, νn, νo, i64_w, i32_w]
          rfl
         refine pure_ (i := 24) (N := some 47) (v := undef) (a' := ?_) ν25 rfl rfl (any_of HT_.out (by kernel_rfl)) (fun _ _ _ h => h) (Or.inr ⟨by rfl, rfl⟩) ?_ ?_
         rotate_left
         ·
          simp only [Act.put, νm, νn, νo, i64_w, i32_w]
          rfl
         refine pure_ (i := 25) (N := some 48) (v := ?_) (a' := ?_) ν26 rfl rfl (any_of HT_.out (by kernel_rfl)) (fun _ _ _ h => h) (Or.inl ⟨by rfl, ?_⟩) ?_ ?_
         rotate_left; · (intro w'; go_simp; with_reducible rfl)
         rotate_left; · (simp only [Act.put, νm, νn, νo, i64_w, i32_w]; rfl)
         refine pure_ (i := 26) (N := some 49) (v := ?_) (a' := ?_) ν27 rfl rfl (any_of HT_.out (by kernel_rfl)) (fun _ _ _ h => h) (Or.inl ⟨by rfl, ?_⟩) ?_ ?_
         rotate_left; · (intro w'; go_simp; with_reducible rfl)
         rotate_left; · (simp only [Act.put, νm, νn, νo, i64_w, i32_w]; rfl)
         refine pure_ (i := 27) (N := some 50) (v := undef) (a' := ?_) ν28 rfl rfl (any_of HT_.out (by kernel_rfl)) (fun _ _ _ h => h) (Or.inr ⟨by rfl, rfl⟩) ?_ ?_
         rotate_left
         ·
          simp only [Act.put, νm, νn, νo, i64_w, i32_w]
          rfl
         refine pure_ (i := 28) (N := some 51) (v := undef) (a' := ?_) ν29 rfl rfl (any_of HT_.out (by kernel_rfl)) (fun _ _ _ h => h) (Or.inr ⟨by rfl, rfl⟩) ?_ ?_
         rotate_left
         ·
          simp only [Act.put, νm, νn, νo, i64_w, i32_w]
          rfl
         refine pure_ (i := 29) (N := some 52) (v := undef) (a' := ?_) ν30 rfl rfl (any_of HT_.out (by kernel_rfl)) (fun _ _ _ h => h) (Or.inr ⟨by rfl, rfl⟩) ?_ ?_
         rotate_left
         ·
          simp only [Act.put, νm, νn, νo, i64_w, i32_w]
          rfl
         refine pure_ (i := 30) (N := some 53) (v := undef) (a' := ?_) ν31 rfl rfl (any_of HT_.out (by kernel_rfl)) (fun _ _ _ h => h) (Or.inr ⟨by rfl, rfl⟩) ?_ ?_
         rotate_left
         ·
          simp only [Act.put, νm, νn, νo, i64_w, i32_w]
          rfl
         refine pure_ (i := 31) (N := some 54) (v := undef) (a' := ?_) ν32 rfl rfl (any_of HT_.out (by kernel_rfl)) (fun _ _ _ h => h) (Or.inr ⟨by rfl, rfl⟩) ?_ ?_
         rotate_left
         ·
          simp only [Act.put, νm, νn, νo, i64_w, i32_w]
          rfl
         refine pure_ (i := 32) (N := some 55) (v := ?_) (a' := ?_) ν33 rfl rfl (any_of HT_.out (by kernel_rfl)) (fun _ _ _ h => h) (Or.inl ⟨by rfl, ?_⟩) ?_ ?_
         rotate_left; · (intro w'; go_simp; with_reducible rfl)
         rotate_left; · (simp only [Act.put, νm, νn, νo, i64_w, i32_w]; rfl)
         refine done_ (done_of HT_.out (by kernel_rfl)) ?_
         try go_wp2
         go_meet
         case rel => exact ⟨_, (true), (by first | rfl | (simp; done) | (simp [*]; done)), H', ⟨by have := HJ2.out; have := HK2.out; first | omega | exact Nat.le_refl _⟩, ⟨by (with_reducible repeat (first | refine νa ?_ _ | refine νc ?_ | refine νb ?_ _)); exact BK253.out⟩, ⟨by (with_reducible repeat (first | refine νa ?_ _ | refine νc ?_ | refine νb ?_ _)); exact BK256.out⟩, ⟨by repeat (first | (with_reducible first | exact HB.out | apply νj | apply νh | apply νi | refine νg ?_ GE253.out | refine νg ?_ GE256.out) | exact HB.out)⟩⟩
        case rest =>
         clear HC15
         try clear c1
         try clear c2
         try clear p2
         try clear c3
         try clear c5
         try clear c17
         try clear c20
         try clear c38
         obtain ⟨kq, x55_14, rfl, HA, HJ14, BK253, BK256, HB⟩ := hcut
         cases kq with
         | zero => exact absurd HA.out (by simp [impl_AreOffers.j2])
         | succ kj14 =>
          have H := HA.out
          clear HA
          simp only [impl_AreOffers.j2] at H
          by_cases c48 : x55_14 = true
          ·
           subst c48
           rw [if_pos rfl] at H
           obtain rfl := Option.some.inj H
           go_wp2
           go_ret
           exact ⟨by first | rfl | (simp [errW_none, errW_some] <;> rfl) | (simp [*, errW_none, errW_some] <;> rfl), by repeat (first | (with_reducible first | exact HB.out | apply νj | apply νh | apply νi | refine νg ?_ GE253.out | refine νg ?_ GE256.out) | exact HB.out)⟩
          replace c48 := Bool.eq_false_iff.mpr c48
          subst c48
          have H1 : (if ((rd_T46 l1 x18_2).f2) = true then (impl_AreOffers.l0 kj14 l1 (wrap64 (x5_2 + 1)) l1 (l1.length : Int) (wrap64 (x18_2 + 1)) a0_0 a0_1 a0_2) else (impl_AreOffers.l0 kj14 l1 x5_2 l1 (l1.length : Int) (wrap64 (x18_2 + 1)) a0_0 a0_1 a0_2)) = some r := by rw [if_neg (show ¬ (false = true) by decide)] at H; exact H
          clear H
          have H := H1
          clear H1
          by_cases c49 : ((rd_T46 l1 x18_2).f2) = true
          ·
           rw [if_pos c49] at H
           have c49b0 : ((rd_T46 l1 x18_2).f2) = true := c49
           clear c49
           have H' := νp H
           clear H
           have hnb50 := NB256_253.out
           have hnc50 := NB253_256.out
           have hcz51_0 : wc.cell? ⟨gb256, 0, none⟩ = some (.int .i64 ((rd_T46 l1 x18_2).f0)) := (νk BK256.out 0).trans rfl
           have hcz51_1 : wc.cell? ⟨gb256, 1, none⟩ = some (.int .i64 ((rd_T46 l1 x18_2).f1)) := (νk BK256.out 1).trans rfl
           have hcz51_2 : wc.cell? ⟨gb256, 2, none⟩ = some (.bool ((rd_T46 l1 x18_2).f2)) := (νk BK256.out 2).trans rfl
           have hfz51_0 := blk_frozen BK256.out 0
           have hfz51_1 := blk_frozen BK256.out 1
           have hfz51_2 := blk_frozen BK256.out 2
           go_wp2
           go_roundg kj14
           case measure => have := HJ2.out; have := HK2.out; have := HJ14.out; omega
           case rel => exact ⟨(wrap64 (x5_2 + 1)), (wrap64 (x18_2 + 1)), (by first | rfl | (simp; done) | (simp [*]; done)), (by first | rfl | (simp; done) | (simp [*]; done)), H', ⟨by have := HJ2.out; have := HK2.out; have := HJ14.out; omega⟩, ⟨by (with_reducible repeat (first | refine νa ?_ _ | refine νc ?_ | refine νb ?_ _)); exact BK253.out⟩, ⟨by repeat (first | (with_reducible first | exact HB.out | apply νj | apply νh | apply νi | refine νg ?_ GE253.out | refine νg ?_ GE256.out) | exact HB.out)⟩⟩
          rw [if_neg c49] at H
          have c49b0 : ((rd_T46 l1 x18_2).f2) = false := by simpa using c49
          clear c49
          have H' := νp H
          clear H
          have hnb52 := NB256_253.out
          have hnc52 := NB253_256.out
          have hcz53_0 : wc.cell? ⟨gb256, 0, none⟩ = some (.int .i64 ((rd_T46 l1 x18_2).f0)) := (νk BK256.out 0).trans rfl
          have hcz53_1 : wc.cell? ⟨gb256, 1, none⟩ = some (.int .i64 ((rd_T46 l1 x18_2).f1)) := (νk BK256.out 1).trans rfl
          have hcz53_2 : wc.cell? ⟨gb256, 2, none⟩ = some (.bool ((rd_T46 l1 x18_2).f2)) := (νk BK256.out 2).trans rfl
          have hfz53_0 := blk_frozen BK256.out 0
          have hfz53_1 := blk_frozen BK256.out 1
          have hfz53_2 := blk_frozen BK256.out 2
          go_wp2
          go_roundg kj14
          case measure => have := HJ2.out; have := HK2.out; have := HJ14.out; omega
          case rel => exact ⟨(x5_2), (wrap64 (x18_2 + 1)), (by first | rfl | (simp; done) | (simp [*]; done)), (by first | rfl | (simp; done) | (simp [*]; done)), H', ⟨by have := HJ2.out; have := HK2.out; have := HJ14.out; omega⟩, ⟨by (with_reducible repeat (first | refine νa ?_ _ | refine νc ?_ | refine νb ?_ _)); exact BK253.out⟩, ⟨by repeat (first | (with_reducible first | exact HB.out | apply νj | apply νh | apply νi | refine νg ?_ GE253.out | refine νg ?_ GE256.out) | exact HB.out)⟩⟩
       rw [if_neg c14] at H
       exact absurd H (by simp)
      rw [if_neg c13] at H
      exact absurd H (by simp)
     rw [if_neg c12] at H
     have c12b0 : decide (x18_2 < (l1.length : Int)) = false := decide_eq_false c12
     clear c12
     obtain rfl := Option.some.inj H
     go_wp2
     go_ret
     exact ⟨by first | rfl | (simp [errW_none, errW_some] <;> rfl) | (simp [*, errW_none, errW_some] <;> rfl), by repeat (first | (with_reducible first | exact HB.out | apply νj | apply νh | apply νi | refine νg ?_ GE253.out) | exact HB.out)⟩

end Go.Proofs.Ytimikonnmcgljaa.QFnOffers
