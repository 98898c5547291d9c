-- Laid by this session's own program (wip/myprint.py), the kit's printer its engine; turned by hand where that fell. Lean checks it.
import Derived.Test.YtimikonnmcgljaaWInvWords
import Derived.Test.YtimikonnmcgljaaWInv
import Derived.Test.YtimikonnmcgljaaQFnOffersx0
import Derived.Test.YtimikonnmcgljaaQFnOffersx11
import Derived.Test.YtimikonnmcgljaaQFnOffersx14
namespace Go.Proofs.Ytimikonnmcgljaa.QFnOffers
open Go.RowKit Go.Proofs.YtimikonnmcgljaaW.PrintWords Go.Proofs.YtimikonnmcgljaaW.PrintLast Go.Proofs.YtimikonnmcgljaaW.PrintMore
attribute [local go_sem] max2_int min2_int max_two min_two max_three min_three max_four min_four   -- for this text's walks alone
set_option linter.unusedVariables false
set_option linter.unusedSimpArgs false

/-! ### spec_DrawMakeOffer: function 36 -/
def spec_DrawMakeOffer.f (k : Nat) (l0 : List Int) : Option (Int × Int × Int × (List (S46)) × Int × Int × Bool) := (spec_l1New.f k l0).bind fun bt380 => ((spec_l28Any.f k bt380.1 bt380.2.1 bt380.2.2).bind fun bt384 => ((spec_l1Below.f bt380.1 bt384.2.2.2.2.1 bt384.2.2.2.2.2 400).bind fun bt393 => ((spec_l1Int.f bt380.1 bt393.2.1 bt393.2.2 (([1, 3, 7, 99, 100] : List Int))).bind fun bt399 => ((spec_l1Once.f bt380.1 bt399.2.1 bt399.2.2 2).bind fun bt402 => (some (bt384.1, bt384.2.1, bt384.2.2.1, bt384.2.2.2.1, wrap64 (60 + bt393.1), bt399.1, bt402.1))))))
theorem spec_DrawMakeOffer.mono : ∀ a0 k, LeO (spec_DrawMakeOffer.f k a0) (spec_DrawMakeOffer.f (k + 1) a0) := by
 intro a0 k
 unfold spec_DrawMakeOffer.f
 repeat' first
   | (with_reducible exact spec_l1New.mono _ _)
   | (with_reducible exact spec_l28Any.mono _ _ _ _)
   | (with_reducible exact LeO.refl _)
   | (with_reducible exact LeO.none _)
   | (with_reducible refine LeO.ite ?_ ?_)
   | (with_reducible refine LeO.bind ?_ (fun _ => ?_))
   | exact spec_l1New.mono _ _
   | exact spec_l28Any.mono _ _ _ _
   | exact LeO.none _
   | refine LeO.ite ?_ ?_
   | refine LeO.bind ?_ (fun _ => ?_)
def spec_DrawMakeOffer.T3 : Bool × List (List Nat × List Nat) := (true, [([], []), ([], []), ([], []), ([2], [2]), ([3], [3]), ([], []), ([], []), ([5, 6, 3], [5, 6]), ([], []), ([8, 7], [8]), ([4, 7, 9], [4, 7, 9]), ([0, 9, 0], [0]), ([1, 11, 0, 1, 11], [1]), ([10, 12, 0, 1, 2, 3, 4, 5, 6, 7, 8, 9, 10, 11, 12], [10])])
def spec_DrawMakeOffer.B3 : List Nat := [0, 0, 0, 4, 12, 0, 0, 108, 0, 492, 1020, 1005, 3055, 8191]
theorem spec_DrawMakeOffer.tab3 : rtab .any (opsOf Try.f36 3) = spec_DrawMakeOffer.T3 := by kernel_rfl
theorem spec_DrawMakeOffer.bits3 : waitsOk spec_DrawMakeOffer.T3.2 spec_DrawMakeOffer.B3 = true := by kernel_rfl
set_option linter.defProp false
def τa := @blk_drewN
def τb := @blk_alloc
def τc := @blk_drew
def τd := @Kd.R_alloc
def τe := @Kd.R_drewN
def τf := @Kd.R_drew
def τg := @below_set
def τh := @pw_below_drewN
def τi := @below_drew1
def τj := @below_alloc
def τp := @Aside0.mk
abbrev τ0 : Array Bool := #[false, false, false, false, false, false, false, false, false, false, false, false, false, false]
abbrev τ1 : Array Bool := #[false, true, false, false, false, false, false, false, false, false, false, false, false, false]
abbrev τ2 : Array Bool := #[false, true, true, false, false, false, false, false, false, false, false, false, false, false]
abbrev τ3 : Array Bool := #[false, true, true, false, false, true, false, false, false, false, false, false, false, false]
abbrev τ4 : Array Bool := #[false, true, true, false, false, true, false, false, true, false, false, false, false, false]
set_option maxHeartbeats 8000000 in
set_option maxRecDepth 100000 in
theorem spec_DrawMakeOffer.calls (k : Nat) (A0 : Option Addr) (c0 : Nat) (l0 : List Int) (r1 : Int) (r2 : Int) (r3 : Int) (r4 : List (S46)) (r5 : Int) (r6 : Int) (r7 : Bool) (w : World) (hr0 : Kd.C (Kd.int .u8) w A0 l0.length l0) (hc0 : l0.length ≤ c0) (h : spec_DrawMakeOffer.f k l0 = some (r1, r2, r3, r4, r5, r6, r7)) :
  Calls Try.prog 36 #[.slice A0 l0.length c0] w fun e w' => ∃ v3_ : Value, e = .returned (.tuple #[.agg #[.int .i64 r1, .int .i64 r2, .int .i64 r3], v3_, .agg #[.int .i64 r5, .int .i64 r6, .bool r7]]) ∧ Kd.R k46 46 w' w.heap.size (fun _ => True) v3_ r4 ∧ Below w.heap.size w w' := by
 have hu25 := Try.underlying25
 have hu46 := Try.underlying46
 have HR0 := τp hr0
 have HC0 := τp hc0
 clear hr0 hc0
 have HB := τp (Below.refl w.heap.size w)
 have H : ((spec_l1New.f k l0).bind fun bt380 => ((spec_l28Any.f k bt380.1 bt380.2.1 bt380.2.2).bind fun bt384 => ((spec_l1Below.f bt380.1 bt384.2.2.2.2.1 bt384.2.2.2.2.2 400).bind fun bt393 => ((spec_l1Int.f bt380.1 bt393.2.1 bt393.2.2 (([1, 3, 7, 99, 100] : List Int))).bind fun bt399 => ((spec_l1Once.f bt380.1 bt399.2.1 bt399.2.2 2).bind fun bt402 => (some (bt384.1, bt384.2.1, bt384.2.2.1, bt384.2.2.2.1, wrap64 (60 + bt393.1), bt399.1, bt402.1))))))) = some (r1, r2, r3, r4, r5, r6, r7) := h
 clear h
 replace H := Option.bind_eq_some_iff.mp H
 obtain ⟨⟨t380, t381, t382⟩, A20, H⟩ := H
 try dsimp only at H
 have A2 := τp A20
 clear A20
 replace H := Option.bind_eq_some_iff.mp H
 obtain ⟨⟨t384, t385, t386, t387, t390, t391⟩, A30, H⟩ := H
 try dsimp only at H
 have A3 := τp A30
 clear A30
 replace H := Option.bind_eq_some_iff.mp H
 obtain ⟨⟨t393, t394, t395⟩, A40, H⟩ := H
 try dsimp only at H
 have A4 := τp A40
 clear A40
 obtain ⟨y396, hy396⟩ : ∃ y_ : List Int, y_ = (([1, 3, 7, 99, 100] : List Int)) := ⟨_, rfl⟩
 replace H : ((spec_l1Int.f t380 t394 t395 y396).bind fun bt399 => ((spec_l1Once.f t380 bt399.2.1 bt399.2.2 2).bind fun bt402 => (some (t384, t385, t386, t387, wrap64 (60 + t393), bt399.1, bt402.1)))) = some (r1, r2, r3, r4, r5, r6, r7) := by first | (rw [hy396]; with_reducible exact H) | (have H2_ := (Option.bind_some _ _).symm.trans H; rw [hy396]; with_reducible exact H2_) | (have H2_ := (Option.bind_some _ _).symm.trans H; with_reducible exact H2_) | with_reducible exact H | (rw [hy396]; exact H) | exact H
 have Ny396 := τp hy396
 clear hy396
 replace H := Option.bind_eq_some_iff.mp H
 obtain ⟨⟨t399, t400, t401⟩, A50, H⟩ := H
 try dsimp only at H
 have A5 := τp A50
 clear A50
 replace H := Option.bind_eq_some_iff.mp H
 obtain ⟨⟨t402, t403, t404⟩, A60, H⟩ := H
 try dsimp only at H
 have A6 := τp A60
 clear A60
 simp only [Option.some.injEq, Prod.mk.injEq] at H
 obtain ⟨rfl, rfl, rfl, rfl, rfl, rfl, rfl⟩ := H
 go_enter Try.func36, Try.ntmps36
 try go_wp2_with (first | ((with_reducible refine gate_dst (N := 2) rfl ?_); refine box_event ?hg (N := 2) ?hd (cs := #[.int .i64 0, .int .i64 0, .int .i64 0]) (t := 25) ?hr ?_; (case hd => rfl); (case hg => rfl); (case hr => first | (go_simp; done) | (go_simp; rfl)); intro gb378 hg w7 hbox hb; have n0_ := τp (below_step (by repeat (first | (with_reducible first | exact HB.out | apply τj | apply τh | apply τi) | exact HB.out)) hb); have n1_ := τp (hbox); have n2_ := τp ((by rw [hg]; exact (below_size (by repeat (first | (with_reducible first | exact HB.out | apply τj | apply τh | apply τi) | exact HB.out))) : w.heap.size ≤ gb378)); have n3_ := τp ((by rw [hg]; exact (below_size (by repeat (first | (with_reducible first | exact HB.out | apply τj | apply τh | apply τi) | exact HB.out))) : w.heap.size ≤ gb378)); clear HB; have HB := n0_; have BK378 := n1_; have GW378 := n2_; have GE378 := n3_; clear n0_ n1_ n2_ n3_; clear hb hbox hg) | ((with_reducible refine gate_dst (N := 4) rfl ?_); refine box_event ?hg (N := 4) ?hd (cs := #[.int .i64 0, .int .i64 0, .bool false]) (t := 46) ?hr ?_; (case hd => rfl); (case hg => rfl); (case hr => first | (go_simp; done) | (go_simp; rfl)); intro gb379 hg w8 hbox hb; have n0_ := τp (blk_below (g := gb378) (o := .cells #[.int .i64 0, .int .i64 0, .int .i64 0] 25 (0, 0)) (by (with_reducible repeat (first | refine τa ?_ _ | refine τc ?_ | refine τb ?_ _)); exact BK378.out) hb); have n1_ := τp (below_step (by repeat (first | (with_reducible first | exact HB.out | apply τj | apply τh | apply τi | refine τg ?_ GE378.out) | exact HB.out)) hb); have n2_ := τp (hbox); have n3_ := τp ((by rw [hg]; exact (below_size (by repeat (first | (with_reducible first | exact HB.out | apply τj | apply τh | apply τi | refine τg ?_ GE378.out) | exact HB.out))) : w.heap.size ≤ gb379)); have n4_ := τp ((by rw [hg]; exact (below_size (by repeat (first | (with_reducible first | exact HB.out | apply τj | apply τh | apply τi | refine τg ?_ GE378.out) | exact HB.out))) : w.heap.size ≤ gb379)); have n5_ := τp ((by rw [hg]; exact Nat.ne_of_lt (blk_lt (g := gb378) (o := .cells #[.int .i64 0, .int .i64 0, .int .i64 0] 25 (0, 0)) (by (with_reducible repeat (first | refine τa ?_ _ | refine τc ?_ | refine τb ?_ _)); exact BK378.out)) : gb378 ≠ gb379)); have n6_ := τp ((by rw [hg]; exact Nat.ne_of_gt (blk_lt (g := gb378) (o := .cells #[.int .i64 0, .int .i64 0, .int .i64 0] 25 (0, 0)) (by (with_reducible repeat (first | refine τa ?_ _ | refine τc ?_ | refine τb ?_ _)); exact BK378.out)) : gb379 ≠ gb378)); clear BK378; clear HB; have BK378 := n0_; have HB := n1_; have BK379 := n2_; have GW379 := n3_; have GE379 := n4_; have NB378_379 := n5_; have NB379_378 := n6_; clear n0_ n1_ n2_ n3_ n4_ n5_ n6_; clear hb hbox hg) | ((with_reducible refine gate_callee (f := 62) rfl ?_); refine goesL_ (some 9) rfl rfl Try.func62 (by kernel_rfl) rfl #[.slice A0 l0.length c0] rfl (by (try simp only [List.map_toArray, List.map_cons, List.map_nil]); first | done | rfl | (simp only [List.length_drop, List.length_take]; rfl)) ?_; (with_reducible refine (spec_l1New.calls k _ _ l0 t380 t381 t382 w _ ?side1 ?side2 ?side3 A2.out).mono ?_); (case side1 => repeat (first | (with_reducible first | exact HB.out | apply τj | apply τh | apply τi | refine τg ?_ GE378.out | refine τg ?_ GE379.out) | exact HB.out)); (case side2 => exact HR0.out); (case side3 => exact HC0.out); rintro e w9 ⟨g383, rfl, hi, hb, hb2⟩; refine ⟨_, rfl, ?_⟩; have n0_ := τp (blk_below (g := gb378) (o := .cells #[.int .i64 0, .int .i64 0, .int .i64 0] 25 (0, 0)) (by (with_reducible repeat (first | refine τa ?_ _ | refine τc ?_ | refine τb ?_ _)); exact BK378.out) hb2); have n1_ := τp (blk_below (g := gb379) (o := .cells #[.int .i64 0, .int .i64 0, .bool false] 46 (0, 0)) (by (with_reducible repeat (first | refine τa ?_ _ | refine τc ?_ | refine τb ?_ _)); exact BK379.out) hb2); have n2_ := τp (hb); have n3_ := τp (hi); have n4_ := τp (IsS86.ne_blk hi (blk_below (g := gb378) (o := .cells #[.int .i64 0, .int .i64 0, .int .i64 0] 25 (0, 0)) (by (with_reducible repeat (first | refine τa ?_ _ | refine τc ?_ | refine τb ?_ _)); exact BK378.out) hb2) (by decide)); have n5_ := τp (Ne.symm (IsS86.ne_blk hi (blk_below (g := gb378) (o := .cells #[.int .i64 0, .int .i64 0, .int .i64 0] 25 (0, 0)) (by (with_reducible repeat (first | refine τa ?_ _ | refine τc ?_ | refine τb ?_ _)); exact BK378.out) hb2) (by decide))); have n6_ := τp (IsS86.ne_blk hi (blk_below (g := gb379) (o := .cells #[.int .i64 0, .int .i64 0, .bool false] 46 (0, 0)) (by (with_reducible repeat (first | refine τa ?_ _ | refine τc ?_ | refine τb ?_ _)); exact BK379.out) hb2) (by decide)); have n7_ := τp (Ne.symm (IsS86.ne_blk hi (blk_below (g := gb379) (o := .cells #[.int .i64 0, .int .i64 0, .bool false] 46 (0, 0)) (by (with_reducible repeat (first | refine τa ?_ _ | refine τc ?_ | refine τb ?_ _)); exact BK379.out) hb2) (by decide))); clear BK378; clear BK379; clear HB; have BK378 := n0_; have BK379 := n1_; have HB := n2_; have HI383 := n3_; have NB383_378 := n4_; have NB378_383 := n5_; have NB383_379 := n6_; have NB379_383 := n7_; clear n0_ n1_ n2_ n3_ n4_ n5_ n6_ n7_; (try clear hb); (try clear hb2); (try clear hk); (try clear hi)) | ((with_reducible refine gate_callee (f := 63) rfl ?_); refine goesL_ (some 12) rfl rfl Try.func63 (by kernel_rfl) rfl #[.pointer (some ⟨g383, 0, none⟩)] rfl (by (try simp only [List.map_toArray, List.map_cons, List.map_nil]); first | done | rfl | (simp only [List.length_drop, List.length_take]; rfl)) ?_; (with_reducible refine (spec_l28Any.calls k g383 t380 t381 t382 t384 t385 t386 t387 t390 t391 w _ ?side1 ?side2 A3.out).mono ?_); (case side1 => repeat (first | (with_reducible first | exact HI383.out | apply IsS86.alloc | apply IsS86.drewN | apply IsS86.drew | apply IsS86.set_1 | apply IsS86.set_2 | refine IsS86.far ?_ NB383_378.out _ | refine IsS86.far ?_ NB383_379.out _) | exact HI383.out)); (case side2 => repeat (first | (with_reducible first | exact HB.out | apply τj | apply τh | apply τi | refine τg ?_ (IsS86.ge HI383.out) | refine τg ?_ GE378.out | refine τg ?_ GE379.out) | exact HB.out)); rintro e w10 ⟨v388, rfl, ho0, hi, hb, hk⟩; refine ⟨_, rfl, ?_⟩; have n0_ := τp (KeepBut.blk hk (g' := gb378) (o := .cells #[.int .i64 0, .int .i64 0, .int .i64 0] 25 (0, 0)) (by (with_reducible repeat (first | refine τa ?_ _ | refine τc ?_ | refine τb ?_ _)); exact BK378.out) NB378_383.out (by simp)); have n1_ := τp (KeepBut.blk hk (g' := gb379) (o := .cells #[.int .i64 0, .int .i64 0, .bool false] 46 (0, 0)) (by (with_reducible repeat (first | refine τa ?_ _ | refine τc ?_ | refine τb ?_ _)); exact BK379.out) NB379_383.out (by simp)); have n2_ := τp (Kd.R_lower (Kd.R_newB ho0 (g := gb379) (o := .cells #[.int .i64 0, .int .i64 0, .bool false] 46 (0, 0)) (by (with_reducible repeat (first | refine τa ?_ _ | refine τc ?_ | refine τb ?_ _)); exact BK379.out)) (below_size (by repeat (first | (with_reducible first | exact HB.out | apply τj | apply τh | apply τi | refine τg ?_ (IsS86.ge HI383.out) | refine τg ?_ GE378.out | refine τg ?_ GE379.out) | exact HB.out)))); have n3_ := τp (hb); have n4_ := τp (hi); clear BK378; clear BK379; clear HB; clear HI383; have BK378 := n0_; have BK379 := n1_; have HO389 := n2_; have HB := n3_; have HI383 := n4_; clear n0_ n1_ n2_ n3_ n4_; (try clear hb); (try clear hb2); (try clear hk); (try clear hi); (try clear ho0)) | ((with_reducible refine gate_dst (N := 6) rfl ?_); refine box_event ?hg (N := 6) ?hd (cs := #[.int .i64 0, .int .i64 0, .int .i64 0]) (t := 25) ?hr ?_; (case hd => rfl); (case hg => rfl); (case hr => first | (go_simp; done) | (go_simp; rfl)); intro gb392 hg w11 hbox hb; have n0_ := τp (Kd.R_below (by (with_reducible repeat (first | apply τd | apply τe | apply τf)); exact HO389.out) hb); have n1_ := τp (blk_below (g := gb378) (o := .cells #[.int .i64 0, .int .i64 0, .int .i64 0] 25 (0, 0)) (by (with_reducible repeat (first | refine τa ?_ _ | refine τc ?_ | refine τb ?_ _)); exact BK378.out) hb); have n2_ := τp (blk_below (g := gb379) (o := .cells #[.int .i64 0, .int .i64 0, .bool false] 46 (0, 0)) (by (with_reducible repeat (first | refine τa ?_ _ | refine τc ?_ | refine τb ?_ _)); exact BK379.out) hb); have n3_ := τp (IsS86.below (by repeat (first | (with_reducible first | exact HI383.out | apply IsS86.alloc | apply IsS86.drewN | apply IsS86.drew | apply IsS86.set_1 | apply IsS86.set_2 | refine IsS86.far ?_ NB383_378.out _ | refine IsS86.far ?_ NB383_379.out _) | exact HI383.out)) hb); have n4_ := τp (below_step (by repeat (first | (with_reducible first | exact HB.out | apply τj | apply τh | apply τi | refine τg ?_ (IsS86.ge HI383.out) | refine τg ?_ GE378.out | refine τg ?_ GE379.out) | exact HB.out)) hb); have n5_ := τp (hbox); have n6_ := τp ((by rw [hg]; exact (below_size (by repeat (first | (with_reducible first | exact HB.out | apply τj | apply τh | apply τi | refine τg ?_ (IsS86.ge HI383.out) | refine τg ?_ GE378.out | refine τg ?_ GE379.out) | exact HB.out))) : w.heap.size ≤ gb392)); have n7_ := τp ((by rw [hg]; exact (below_size (by repeat (first | (with_reducible first | exact HB.out | apply τj | apply τh | apply τi | refine τg ?_ (IsS86.ge HI383.out) | refine τg ?_ GE378.out | refine τg ?_ GE379.out) | exact HB.out))) : w.heap.size ≤ gb392)); have n8_ := τp ((by rw [hg]; exact Nat.ne_of_lt (blk_lt (g := gb378) (o := .cells #[.int .i64 0, .int .i64 0, .int .i64 0] 25 (0, 0)) (by (with_reducible repeat (first | refine τa ?_ _ | refine τc ?_ | refine τb ?_ _)); exact BK378.out)) : gb378 ≠ gb392)); have n9_ := τp ((by rw [hg]; exact Nat.ne_of_gt (blk_lt (g := gb378) (o := .cells #[.int .i64 0, .int .i64 0, .int .i64 0] 25 (0, 0)) (by (with_reducible repeat (first | refine τa ?_ _ | refine τc ?_ | refine τb ?_ _)); exact BK378.out)) : gb392 ≠ gb378)); have n10_ := τp ((by rw [hg]; exact Nat.ne_of_lt (blk_lt (g := gb379) (o := .cells #[.int .i64 0, .int .i64 0, .bool false] 46 (0, 0)) (by (with_reducible repeat (first | refine τa ?_ _ | refine τc ?_ | refine τb ?_ _)); exact BK379.out)) : gb379 ≠ gb392)); have n11_ := τp ((by rw [hg]; exact Nat.ne_of_gt (blk_lt (g := gb379) (o := .cells #[.int .i64 0, .int .i64 0, .bool false] 46 (0, 0)) (by (with_reducible repeat (first | refine τa ?_ _ | refine τc ?_ | refine τb ?_ _)); exact BK379.out)) : gb392 ≠ gb379)); have n12_ := τp ((by rw [hg]; exact Nat.ne_of_lt (IsS86.lt (show IsS86 w _ g383 t380 t390 t391 from by repeat (first | (with_reducible first | exact HI383.out | apply IsS86.alloc | apply IsS86.drewN | apply IsS86.drew | apply IsS86.set_1 | apply IsS86.set_2 | refine IsS86.far ?_ NB383_378.out _ | refine IsS86.far ?_ NB383_379.out _) | exact HI383.out))) : g383 ≠ gb392)); have n13_ := τp ((by rw [hg]; exact Nat.ne_of_gt (IsS86.lt (show IsS86 w _ g383 t380 t390 t391 from by repeat (first | (with_reducible first | exact HI383.out | apply IsS86.alloc | apply IsS86.drewN | apply IsS86.drew | apply IsS86.set_1 | apply IsS86.set_2 | refine IsS86.far ?_ NB383_378.out _ | refine IsS86.far ?_ NB383_379.out _) | exact HI383.out))) : gb392 ≠ g383)); clear HO389; clear BK378; clear BK379; clear HI383; clear HB; have HO389 := n0_; have BK378 := n1_; have BK379 := n2_; have HI383 := n3_; have HB := n4_; have BK392 := n5_; have GW392 := n6_; have GE392 := n7_; have NB378_392 := n8_; have NB392_378 := n9_; have NB379_392 := n10_; have NB392_379 := n11_; have NB383_392 := n12_; have NB392_383 := n13_; clear n0_ n1_ n2_ n3_ n4_ n5_ n6_ n7_ n8_ n9_ n10_ n11_ n12_ n13_; clear hb hbox hg; have hnb12 := NB392_378.out; have hnc12 := NB378_392.out; have hnb13 := NB392_379.out; have hnc13 := NB379_392.out; have hnb14 := NB392_383.out; have hnc14 := NB383_392.out; have hcz15_0 : w11.cell? ⟨gb392, 0, none⟩ = some (.int .i64 0) := (blk_cell BK392.out 0).trans rfl; have hcz15_1 : w11.cell? ⟨gb392, 1, none⟩ = some (.int .i64 0) := (blk_cell BK392.out 1).trans rfl; have hcz15_2 : w11.cell? ⟨gb392, 2, none⟩ = some (.int .i64 0) := (blk_cell BK392.out 2).trans rfl; have hfz15_0 := blk_frozen BK392.out 0; have hfz15_1 := blk_frozen BK392.out 1; have hfz15_2 := blk_frozen BK392.out 2))
 have n0_ : Aside0 (Kd.R k46 46 (((w11.setCell ⟨gb392, 0, none⟩ (.int .i64 t384)).setCell ⟨gb392, 1, none⟩ (.int .i64 t385)).setCell ⟨gb392, 2, none⟩ (.int .i64 t386)) w.heap.size (fun k_ => k_ ≠ gb379) v388 t387) := ⟨by (with_reducible repeat (first | apply τd | apply τe | apply τf)); exact Kd.R_mono (Kd.R_far (p := ⟨gb392, 2, none⟩) (Kd.R_far (p := ⟨gb392, 1, none⟩) (Kd.R_far (p := ⟨gb392, 0, none⟩) (Kd.R_types HO389.out BK392.out (by decide)) (fun _ hk => hk.2) (.int .i64 t384)) (fun _ hk => hk.2) (.int .i64 t385)) (fun _ hk => hk.2) (.int .i64 t386)) (fun _ hk => hk.1.2)⟩
 have n1_ : Aside0 ((((w11.setCell ⟨gb392, 0, none⟩ (.int .i64 t384)).setCell ⟨gb392, 1, none⟩ (.int .i64 t385)).setCell ⟨gb392, 2, none⟩ (.int .i64 t386)).heap[gb378]? = some (.cells #[.int .i64 0, .int .i64 0, .int .i64 0] 25 (0, 0))) := ⟨by (with_reducible repeat (first | refine τa ?_ _ | refine τc ?_ | refine τb ?_ _)); refine blk_far ?_ NB378_392.out _; (with_reducible repeat (first | refine τa ?_ _ | refine τc ?_ | refine τb ?_ _)); refine blk_far ?_ NB378_392.out _; (with_reducible repeat (first | refine τa ?_ _ | refine τc ?_ | refine τb ?_ _)); refine blk_far ?_ NB378_392.out _; (with_reducible repeat (first | refine τa ?_ _ | refine τc ?_ | refine τb ?_ _)); exact BK378.out⟩
 have n2_ : Aside0 ((((w11.setCell ⟨gb392, 0, none⟩ (.int .i64 t384)).setCell ⟨gb392, 1, none⟩ (.int .i64 t385)).setCell ⟨gb392, 2, none⟩ (.int .i64 t386)).heap[gb379]? = some (.cells #[.int .i64 0, .int .i64 0, .bool false] 46 (0, 0))) := ⟨by (with_reducible repeat (first | refine τa ?_ _ | refine τc ?_ | refine τb ?_ _)); refine blk_far ?_ NB379_392.out _; (with_reducible repeat (first | refine τa ?_ _ | refine τc ?_ | refine τb ?_ _)); refine blk_far ?_ NB379_392.out _; (with_reducible repeat (first | refine τa ?_ _ | refine τc ?_ | refine τb ?_ _)); refine blk_far ?_ NB379_392.out _; (with_reducible repeat (first | refine τa ?_ _ | refine τc ?_ | refine τb ?_ _)); exact BK379.out⟩
 have n3_ : Aside0 ((((w11.setCell ⟨gb392, 0, none⟩ (.int .i64 t384)).setCell ⟨gb392, 1, none⟩ (.int .i64 t385)).setCell ⟨gb392, 2, none⟩ (.int .i64 t386)).heap[gb392]? = some (.cells #[.int .i64 t384, .int .i64 t385, .int .i64 t386] 25 (0, 0))) := ⟨by (with_reducible repeat (first | refine τa ?_ _ | refine τc ?_ | refine τb ?_ _)); refine blk_put (cs := #[.int .i64 t384, .int .i64 t385, .int .i64 0]) ?_ 2 _ rfl; (with_reducible repeat (first | refine τa ?_ _ | refine τc ?_ | refine τb ?_ _)); refine blk_put (cs := #[.int .i64 t384, .int .i64 0, .int .i64 0]) ?_ 1 _ rfl; (with_reducible repeat (first | refine τa ?_ _ | refine τc ?_ | refine τb ?_ _)); refine blk_put (cs := #[.int .i64 0, .int .i64 0, .int .i64 0]) ?_ 0 _ rfl; (with_reducible repeat (first | refine τa ?_ _ | refine τc ?_ | refine τb ?_ _)); exact BK392.out⟩
 have n4_ : Aside0 (IsS86 w (((w11.setCell ⟨gb392, 0, none⟩ (.int .i64 t384)).setCell ⟨gb392, 1, none⟩ (.int .i64 t385)).setCell ⟨gb392, 2, none⟩ (.int .i64 t386)) g383 t380 t390 t391) := ⟨by repeat (first | (with_reducible first | exact HI383.out | apply IsS86.alloc | apply IsS86.drewN | apply IsS86.drew | apply IsS86.set_1 | apply IsS86.set_2 | refine IsS86.far ?_ NB383_378.out _ | refine IsS86.far ?_ NB383_379.out _ | refine IsS86.far ?_ NB383_392.out _) | exact HI383.out)⟩
 have n5_ : Aside0 (Below w.heap.size w (((w11.setCell ⟨gb392, 0, none⟩ (.int .i64 t384)).setCell ⟨gb392, 1, none⟩ (.int .i64 t385)).setCell ⟨gb392, 2, none⟩ (.int .i64 t386))) := ⟨by repeat (first | (with_reducible first | exact HB.out | apply τj | apply τh | apply τi | refine τg ?_ (IsS86.ge HI383.out) | refine τg ?_ GE378.out | refine τg ?_ GE379.out | refine τg ?_ GE392.out) | exact HB.out)⟩
 (try clear HO389)
 (try clear BK378)
 (try clear BK379)
 (try clear BK392)
 (try clear HI383)
 (try clear HB)
 generalize (((w11.setCell ⟨gb392, 0, none⟩ (.int .i64 t384)).setCell ⟨gb392, 1, none⟩ (.int .i64 t385)).setCell ⟨gb392, 2, none⟩ (.int .i64 t386)) = w16 at n0_ n1_ n2_ n3_ n4_ n5_ ⊢
 have HO389 := n0_
 have BK378 := n1_
 have BK379 := n2_
 have BK392 := n3_
 have HI383 := n4_
 have HB := n5_
 clear n0_ n1_ n2_ n3_ n4_ n5_
 have n0_ := τp (τf HO389.out)
 have n1_ := τp (τc BK378.out)
 have n2_ := τp (τc BK379.out)
 have n3_ := τp (τc BK392.out)
 have n4_ := τp (IsS86.drew HI383.out)
 have n5_ := τp (τi HB.out)
 clear HO389
 clear BK378
 clear BK379
 clear BK392
 clear HI383
 clear HB
 have HO389 := n0_
 have BK378 := n1_
 have BK379 := n2_
 have BK392 := n3_
 have HI383 := n4_
 have HB := n5_
 clear n0_ n1_ n2_ n3_ n4_ n5_
 refine start_ (n := 14) (S := fun w' => True) (ds := []) τ0 (by kernel_rfl) rfl rfl trivial (fun hHeld => ?_); refine with_tabW spec_DrawMakeOffer.tab3 spec_DrawMakeOffer.bits3 (fun HT_ HW_ => ?_)
 generalize w16.drew = w17 at HO389 BK378 BK379 BK392 HI383 HB hHeld ⊢
 refine pure_ (i := 1) (N := some 16) (v := ?_) (a' := ?_) τ1 rfl rfl (any_of HT_.out (by kernel_rfl)) (fun _ _ _ h => h) (Or.inl ⟨by rfl, ?_⟩) ?_ ?_
 rotate_left; · (intro w'; go_simp; with_reducible rfl)
 rotate_left; · (simp only [Act.put, List.setIfInBounds_toArray, List.set_cons_zero, List.set_cons_succ, i64_w, i32_w]; rfl)
 refine pure_ (i := 2) (N := some 17) (v := ?_) (a' := ?_) τ2 rfl rfl (any_of HT_.out (by kernel_rfl)) (fun _ _ _ h => h) (Or.inl ⟨by rfl, ?_⟩) ?_ ?_
 rotate_left; · (intro w'; go_simp; with_reducible rfl)
 rotate_left; · (simp only [Act.put, List.setIfInBounds_toArray, List.set_cons_zero, List.set_cons_succ, i64_w, i32_w]; rfl)
 refine pure_ (i := 5) (N := some 20) (v := ?_) (a' := ?_) τ3 rfl rfl (any_of HT_.out (by kernel_rfl)) (fun _ _ _ h => h) (Or.inl ⟨by rfl, ?_⟩) ?_ ?_
 rotate_left; · (intro w'; go_simp; with_reducible rfl)
 rotate_left; · (simp only [Act.put, List.setIfInBounds_toArray, List.set_cons_zero, List.set_cons_succ, i64_w, i32_w]; rfl)
 refine pure_ (i := 8) (N := some 23) (v := ?_) (a' := ?_) τ4 rfl rfl (any_of HT_.out (by kernel_rfl)) (fun _ _ _ h => h) (Or.inl ⟨by rfl, ?_⟩) ?_ ?_
 rotate_left; · (intro w'; go_simp; with_reducible rfl)
 rotate_left; · (simp only [Act.put, List.setIfInBounds_toArray, List.set_cons_zero, List.set_cons_succ, i64_w, i32_w]; rfl)
 refine inv_at [0, 3, 4, 6, 7, 9, 10, 11, 12, 13] (fun a0_ b a w' => ∃ (v397 : Value), a = putSel a0_ b [(0, 15, .agg #[.int .i64 t384, .int .i64 t385, .int .i64 t386]), (3, 18, .int .i64 t393), (4, 19, .int .i64 (wrap64 (60 + t393))), (6, 21, v397), (7, 22, .int .i64 t399), (9, 24, .bool t402), (10, 25, .agg #[.int .i64 (wrap64 (60 + t393)), .int .i64 t399, .bool t402]), (12, 3, v388)] ∧ (Kd.R k46 46 w' w.heap.size (fun k_ => k_ ≠ gb379) v388 t387) ∧ (b 11 = false → w'.heap[gb378]? = some (.cells #[.int .i64 0, .int .i64 0, .int .i64 0] 25 (0, 0))) ∧ (b 13 = false → w'.heap[gb379]? = some (.cells #[.int .i64 0, .int .i64 0, .bool false] 46 (0, 0))) ∧ (w'.heap[gb392]? = some (.cells #[.int .i64 t384, .int .i64 t385, .int .i64 t386] 25 (0, 0))) ∧ (b 3 = false → IsS86 w w' g383 t380 t390 t391) ∧ (Below w.heap.size w w') ∧ (b 3 = true → b 7 = false → IsS86 w w' g383 t380 t394 t395) ∧ (b 6 = true → Kd.R (Kd.int .i64) 3 w' w.heap.size (fun _ => True) v397 y396) ∧ (b 7 = true → b 9 = false → IsS86 w w' g383 t380 t400 t401) ∧ (b 9 = true → IsS86 w w' g383 t380 t403 t404) ∧ (b 11 = true → w'.heap[gb378]? = some (.cells #[.int .i64 t384, .int .i64 t385, .int .i64 t386] 25 (0, 0))) ∧ (b 13 = true → w'.heap[gb379]? = some (.cells #[.int .i64 (wrap64 (60 + t393)), .int .i64 t399, .bool t402] 46 (0, 0)))) HT_.out HW_.out (by kernel_rfl) (by kernel_rfl) ?_ ?_ ?_
 ·
  exact ⟨.bool false, by simp only [putSel, Bool.false_eq_true, if_false], HO389.out, fun _ => BK378.out, fun _ => BK379.out, BK392.out, fun _ => HI383.out, HB.out, fun h_ => absurd h_ (by decide), fun h_ => absurd h_ (by decide), fun h_ => absurd h_ (by decide), fun h_ => absurd h_ (by decide), fun h_ => absurd h_ (by decide), fun h_ => absurd h_ (by decide)⟩
 ·
  skip
  clear BK378 BK379 BK392 HB HI383 HO389
  refine steps_cons ?_ ?_
  ·
   rintro b a w' ⟨v397, ha, Q_HO389, Q_BK378, Q_BK379, Q_BK392, Q_HI383, Q_HB, Q_HI383_e3, Q_HO398, Q_HI383_e7, Q_HI383_e9, Q_BK378_e11, Q_BK379_e13⟩ hb_ hon hoff
   refine ⟨_, rfl, fun K hK => ?_⟩
   have e6 : a.tmps[6]? = some (.pointer (some ⟨gb392, 0, none⟩)) := by rw [ha]; exact (putSel_off rfl).trans rfl
   replace ha := τp ha
   have HO389 := τp Q_HO389
   have BK378 := τp (Q_BK378 (hoff 11 (by kernel_rfl)))
   have BK379 := τp (Q_BK379 (hoff 13 (by kernel_rfl)))
   have BK392 := τp Q_BK392
   have HB := τp Q_HB
   have hc0_ : w'.cell? ⟨gb392, 0, none⟩ = some (.int .i64 t384) := (blk_cell BK392.out 0).trans rfl
   have hc1_ : w'.cell? ⟨gb392, 1, none⟩ = some (.int .i64 t385) := (blk_cell BK392.out 1).trans rfl
   have hc2_ : w'.cell? ⟨gb392, 2, none⟩ = some (.int .i64 t386) := (blk_cell BK392.out 2).trans rfl
   refine value_ (w1 := w') (v := .agg #[.int .i64 t384, .int .i64 t385, .int .i64 t386]) (by rfl) rfl ?_ ?_
   ·
    go_simp
    (try simp only [i64_w])
    try rfl
   refine hK.out _ _ ⟨v397, (by rw [ha.out]; exact putSel_upk 0 hb_ rfl rfl rfl), Q_HO389, Q_BK378, Q_BK379, Q_BK392, Q_HI383, Q_HB, Q_HI383_e3, Q_HO398, Q_HI383_e7, Q_HI383_e9, fun h0_ => absurd ((hoff 11 (by kernel_rfl)).symm.trans h0_) (by decide), fun h0_ => absurd ((hoff 13 (by kernel_rfl)).symm.trans h0_) (by decide)⟩
  refine steps_cons ?_ ?_
  ·
   rintro b a w' ⟨v397, ha, Q_HO389, Q_BK378, Q_BK379, Q_BK392, Q_HI383, Q_HB, Q_HI383_e3, Q_HO398, Q_HI383_e7, Q_HI383_e9, Q_BK378_e11, Q_BK379_e13⟩ hb_ hon hoff
   refine ⟨_, rfl, fun K hK => ?_⟩
   have e17 : a.tmps[17]? = some (.pointer (some ⟨g383, 0, none⟩)) := by rw [ha]; exact (putSel_off rfl).trans rfl
   replace ha := τp ha
   have HO389 := τp Q_HO389
   have BK378 := τp (Q_BK378 (hoff 11 (by kernel_rfl)))
   have BK379 := τp (Q_BK379 (hoff 13 (by kernel_rfl)))
   have BK392 := τp Q_BK392
   have HI383 := τp (Q_HI383 hb_)
   have HB := τp Q_HB
   refine goes_ Try.func64 (by kernel_rfl) rfl #[.pointer (some ⟨g383, 0, none⟩), .int .i64 400] (by rfl) rfl rfl (by first | (simp only [List.map_toArray, List.map_cons, List.map_nil, Act.eval, Array.getD_eq_getD_getElem?, Option.getD_some, e17]; done) | (simp only [List.map_toArray, List.map_cons, List.map_nil, Act.eval, Array.getD_eq_getD_getElem?, Option.getD_some, e17]; rfl)) ?_
   with_reducible refine (spec_l1Below.calls g383 t380 t390 t391 400 t393 t394 t395 w _ ?side1 ?side2 A4.out).mono ?_
   (case side1 => repeat (first | (with_reducible first | exact HI383.out | apply IsS86.alloc | apply IsS86.drewN | apply IsS86.drew | apply IsS86.set_1 | apply IsS86.set_2 | refine IsS86.far ?_ NB383_378.out _ | refine IsS86.far ?_ NB383_379.out _ | refine IsS86.far ?_ NB383_392.out _) | exact HI383.out))
   (case side2 => repeat (first | (with_reducible first | exact HB.out | apply τj | apply τh | apply τi | refine τg ?_ (IsS86.ge HI383.out) | refine τg ?_ GE378.out | refine τg ?_ GE379.out | refine τg ?_ GE392.out) | exact HB.out))
   rintro e w18 ⟨rfl, hi, hb, hk⟩
   refine ⟨_, rfl, ?_⟩
   have n0_ := τp (KeepBut.blk hk (g' := gb378) (o := .cells #[.int .i64 0, .int .i64 0, .int .i64 0] 25 (0, 0)) (by (with_reducible repeat (first | refine τa ?_ _ | refine τc ?_ | refine τb ?_ _)); exact BK378.out) NB378_383.out (by simp))
   have n1_ := τp (KeepBut.blk hk (g' := gb379) (o := .cells #[.int .i64 0, .int .i64 0, .bool false] 46 (0, 0)) (by (with_reducible repeat (first | refine τa ?_ _ | refine τc ?_ | refine τb ?_ _)); exact BK379.out) NB379_383.out (by simp))
   have n2_ := τp (Kd.R_mono (Kd.R_keep (IsS86.apart (show IsS86 w _ g383 t380 t390 t391 from by repeat (first | (with_reducible first | exact HI383.out | apply IsS86.alloc | apply IsS86.drewN | apply IsS86.drew | apply IsS86.set_1 | apply IsS86.set_2 | refine IsS86.far ?_ NB383_378.out _ | refine IsS86.far ?_ NB383_379.out _ | refine IsS86.far ?_ NB383_392.out _) | exact HI383.out)) (by (with_reducible repeat (first | apply τd | apply τe | apply τf)); exact HO389.out) (by decide)) hk (fun _ h => h.2)) (fun _ h => h.1))
   have n3_ := τp (KeepBut.blk hk (g' := gb392) (o := .cells #[.int .i64 t384, .int .i64 t385, .int .i64 t386] 25 (0, 0)) (by (with_reducible repeat (first | refine τa ?_ _ | refine τc ?_ | refine τb ?_ _)); exact BK392.out) NB392_383.out (by simp))
   have n4_ := τp (hb)
   have n5_ := τp (hi)
   have z_HO398 := fun (h0_ : b 6 = true) => (show Kd.R (Kd.int .i64) 3 w18 w.heap.size (fun _ => True) v397 y396 from by first | exact (Kd.R_mono (Kd.R_keep (IsS86.apart (show IsS86 w _ g383 t380 t390 t391 from by repeat (first | (with_reducible first | exact HI383.out | apply IsS86.alloc | apply IsS86.drewN | apply IsS86.drew | apply IsS86.set_1 | apply IsS86.set_2 | refine IsS86.far ?_ NB383_378.out _ | refine IsS86.far ?_ NB383_379.out _ | refine IsS86.far ?_ NB383_392.out _) | exact HI383.out)) (by (with_reducible repeat (first | apply τd | apply τe | apply τf)); exact (Q_HO398 h0_)) (by decide)) hk (fun _ h => h.2)) (fun _ h => h.1)) | exact Kd.R_mono (Kd.R_mono (Kd.R_keep (IsS86.apart (show IsS86 w _ g383 t380 t390 t391 from by repeat (first | (with_reducible first | exact HI383.out | apply IsS86.alloc | apply IsS86.drewN | apply IsS86.drew | apply IsS86.set_1 | apply IsS86.set_2 | refine IsS86.far ?_ NB383_378.out _ | refine IsS86.far ?_ NB383_379.out _ | refine IsS86.far ?_ NB383_392.out _) | exact HI383.out)) (by (with_reducible repeat (first | apply τd | apply τe | apply τf)); exact (Q_HO398 h0_)) (by decide)) hk (fun _ h => h.2)) (fun _ h => h.1)) (fun _ h_ => by first | trivial | exact h_ | exact h_.1))
   clear BK378
   clear BK379
   clear HO389
   clear BK392
   clear HB
   clear HI383
   have BK378 := n0_
   have BK379 := n1_
   have HO389 := n2_
   have BK392 := n3_
   have HB := n4_
   have HI383 := n5_
   clear n0_ n1_ n2_ n3_ n4_ n5_
   (try clear hb)
   (try clear hb2)
   (try clear hk)
   (try clear hi)
   refine hK.out _ _ ⟨v397, (by rw [ha.out]; exact putSel_upk 1 hb_ rfl rfl rfl), (by (with_reducible repeat (first | apply τd | apply τe | apply τf)); exact HO389.out), fun _ => (by (with_reducible repeat (first | refine τa ?_ _ | refine τc ?_ | refine τb ?_ _)); exact BK378.out), fun _ => (by (with_reducible repeat (first | refine τa ?_ _ | refine τc ?_ | refine τb ?_ _)); exact BK379.out), (by (with_reducible repeat (first | refine τa ?_ _ | refine τc ?_ | refine τb ?_ _)); exact BK392.out), fun h0_ => absurd ((up_self b 3).symm.trans h0_) (by decide), (by repeat (first | (with_reducible first | exact HB.out | apply τj | apply τh | apply τi | refine τg ?_ (IsS86.ge HI383.out) | refine τg ?_ GE378.out | refine τg ?_ GE379.out | refine τg ?_ GE392.out) | exact HB.out)), fun _ _ => (by repeat (first | (with_reducible first | exact HI383.out | apply IsS86.alloc | apply IsS86.drewN | apply IsS86.drew | apply IsS86.set_1 | apply IsS86.set_2 | refine IsS86.far ?_ NB383_378.out _ | refine IsS86.far ?_ NB383_379.out _ | refine IsS86.far ?_ NB383_392.out _) | exact HI383.out)), z_HO398, fun h0_ _ => absurd ((hoff 7 (by kernel_rfl)).symm.trans h0_) (by decide), fun h0_ => absurd ((hoff 9 (by kernel_rfl)).symm.trans h0_) (by decide), fun h0_ => absurd ((hoff 11 (by kernel_rfl)).symm.trans h0_) (by decide), fun h0_ => absurd ((hoff 13 (by kernel_rfl)).symm.trans h0_) (by decide)⟩
  refine steps_cons ?_ ?_
  ·
   rintro b a w' ⟨v397, ha, Q_HO389, Q_BK378, Q_BK379, Q_BK392, Q_HI383, Q_HB, Q_HI383_e3, Q_HO398, Q_HI383_e7, Q_HI383_e9, Q_BK378_e11, Q_BK379_e13⟩ hb_ hon hoff
   refine ⟨_, rfl, fun K hK => ?_⟩
   have e18 : a.tmps[18]? = some (.int .i64 t393) := by rw [ha]; exact putSel_on (e := (3, 18, .int .i64 t393)) 1 rfl rfl (hon 3 (by kernel_rfl)) rfl
   replace ha := τp ha
   have HO389 := τp Q_HO389
   have BK379 := τp (Q_BK379 (hoff 13 (by kernel_rfl)))
   have BK392 := τp Q_BK392
   have HB := τp Q_HB
   refine value_ (w1 := w') (v := .int .i64 (wrap64 (60 + t393))) (by rfl) rfl ?_ ?_
   ·
    go_simp
    (try simp only [i64_w])
    try rfl
   refine hK.out _ _ ⟨v397, (by rw [ha.out]; exact putSel_upk 2 hb_ rfl rfl rfl), Q_HO389, Q_BK378, Q_BK379, Q_BK392, fun h0_ => absurd ((hon 3 (by kernel_rfl)).symm.trans h0_) (by decide), Q_HB, Q_HI383_e3, Q_HO398, Q_HI383_e7, Q_HI383_e9, Q_BK378_e11, fun h0_ => absurd ((hoff 13 (by kernel_rfl)).symm.trans h0_) (by decide)⟩
  refine steps_cons ?_ ?_
  ·
   rintro b a w' ⟨v397, ha, Q_HO389, Q_BK378, Q_BK379, Q_BK392, Q_HI383, Q_HB, Q_HI383_e3, Q_HO398, Q_HI383_e7, Q_HI383_e9, Q_BK378_e11, Q_BK379_e13⟩ hb_ hon hoff
   refine ⟨_, rfl, fun K hK => ?_⟩
   replace ha := τp ha
   have HO389 := τp Q_HO389
   have BK378 := τp (Q_BK378 (hoff 11 (by kernel_rfl)))
   have BK379 := τp (Q_BK379 (hoff 13 (by kernel_rfl)))
   have BK392 := τp Q_BK392
   have HB := τp Q_HB
   refine Kd.R_lit_step (Kd.int .i64) _ 3 ?hg (N := 21) ?hd (xs := ([1, 3, 7, 99, 100] : List Int)) (inner := [.int .i64 1, .int .i64 3, .int .i64 7, .int .i64 99, .int .i64 100]) (ok := fun _ => True) (okp := fun _ => True) ?hr ?hp (fun _ hk => hk) trivial (Below.refl _ _) (Nat.le_refl _) (by simp) ?_; (case hd => rfl); (case hg => rfl); (case hr => first | (go_simp; done) | (go_simp; rfl)); (case hp => exact (Reps.one (show Kd.M (Kd.int .i64) _ _ _ 1 [.int .i64 1] from rfl) (Reps.one (show Kd.M (Kd.int .i64) _ _ _ 3 [.int .i64 3] from rfl) (Reps.one (show Kd.M (Kd.int .i64) _ _ _ 7 [.int .i64 7] from rfl) (Reps.one (show Kd.M (Kd.int .i64) _ _ _ 99 [.int .i64 99] from rfl) (Reps.one (show Kd.M (Kd.int .i64) _ _ _ 100 [.int .i64 100] from rfl) (Reps.none _ _)))))))
   intro v397 w18 ho19 hb hg_ hnew_
   clear hg_ hnew_
   (first | rw [← Ny396.out] at ho19 | (simp only [Int.reduceToNat] at ho19; rw [← Ny396.out] at ho19))
   have n0_ := τp (Kd.R_below (by (with_reducible repeat (first | apply τd | apply τe | apply τf)); exact HO389.out) hb)
   have n1_ := τp (Kd.R_lower ho19 (below_size (by repeat (first | (with_reducible first | exact HB.out | apply τj | apply τh | apply τi | refine τg ?_ GE378.out | refine τg ?_ GE379.out | refine τg ?_ GE392.out) | exact HB.out))))
   have n2_ := τp (blk_below (g := gb378) (o := .cells #[.int .i64 0, .int .i64 0, .int .i64 0] 25 (0, 0)) (by (with_reducible repeat (first | refine τa ?_ _ | refine τc ?_ | refine τb ?_ _)); exact BK378.out) hb)
   have n3_ := τp (blk_below (g := gb379) (o := .cells #[.int .i64 0, .int .i64 0, .bool false] 46 (0, 0)) (by (with_reducible repeat (first | refine τa ?_ _ | refine τc ?_ | refine τb ?_ _)); exact BK379.out) hb)
   have n5_ := τp (blk_below (g := gb392) (o := .cells #[.int .i64 t384, .int .i64 t385, .int .i64 t386] 25 (0, 0)) (by (with_reducible repeat (first | refine τa ?_ _ | refine τc ?_ | refine τb ?_ _)); exact BK392.out) hb)
   have n6_ := τp (below_step (by repeat (first | (with_reducible first | exact HB.out | apply τj | apply τh | apply τi | refine τg ?_ GE378.out | refine τg ?_ GE379.out | refine τg ?_ GE392.out) | exact HB.out)) hb)
   have z_HI383 := fun (h0_ : b 3 = false) => (show IsS86 w w18 g383 t380 t390 t391 from by first | exact (IsS86.below (by repeat (first | (with_reducible first | exact (Q_HI383 h0_) | apply IsS86.alloc | apply IsS86.drewN | apply IsS86.drew | apply IsS86.set_1 | apply IsS86.set_2 | refine IsS86.far ?_ NB383_378.out _ | refine IsS86.far ?_ NB383_379.out _ | refine IsS86.far ?_ NB383_392.out _) | exact (Q_HI383 h0_))) hb))
   have z_HI383_e3 := fun (h0_ : b 3 = true) (h1_ : b 7 = false) => (show IsS86 w w18 g383 t380 t394 t395 from by first | exact (IsS86.below (by repeat (first | (with_reducible first | exact (Q_HI383_e3 h0_ h1_) | apply IsS86.alloc | apply IsS86.drewN | apply IsS86.drew | apply IsS86.set_1 | apply IsS86.set_2 | refine IsS86.far ?_ NB383_378.out _ | refine IsS86.far ?_ NB383_379.out _ | refine IsS86.far ?_ NB383_392.out _) | exact (Q_HI383_e3 h0_ h1_))) hb))
   clear HO389
   clear BK378
   clear BK379
   clear BK392
   clear HB
   have HO389 := n0_
   have HO398 := n1_
   have BK378 := n2_
   have BK379 := n3_
   have BK392 := n5_
   have HB := n6_
   clear n0_ n1_ n2_ n3_ n5_ n6_
   clear hb ho19
   refine hK.out _ _ ⟨v397, (by rw [ha.out]; exact putSel_upk 3 hb_ rfl rfl rfl), (by (with_reducible repeat (first | apply τd | apply τe | apply τf)); exact HO389.out), fun _ => (by (with_reducible repeat (first | refine τa ?_ _ | refine τc ?_ | refine τb ?_ _)); exact BK378.out), fun _ => (by (with_reducible repeat (first | refine τa ?_ _ | refine τc ?_ | refine τb ?_ _)); exact BK379.out), (by (with_reducible repeat (first | refine τa ?_ _ | refine τc ?_ | refine τb ?_ _)); exact BK392.out), z_HI383, (by repeat (first | (with_reducible first | exact HB.out | apply τj | apply τh | apply τi | refine τg ?_ GE378.out | refine τg ?_ GE379.out | refine τg ?_ GE392.out) | exact HB.out)), z_HI383_e3, fun _ => (by (with_reducible repeat (first | apply τd | apply τe | apply τf)); exact HO398.out), fun h0_ _ => absurd ((hoff 7 (by kernel_rfl)).symm.trans h0_) (by decide), fun h0_ => absurd ((hoff 9 (by kernel_rfl)).symm.trans h0_) (by decide), fun h0_ => absurd ((hoff 11 (by kernel_rfl)).symm.trans h0_) (by decide), fun h0_ => absurd ((hoff 13 (by kernel_rfl)).symm.trans h0_) (by decide)⟩
  refine steps_cons ?_ ?_
  ·
   rintro b a w' ⟨v397, ha, Q_HO389, Q_BK378, Q_BK379, Q_BK392, Q_HI383, Q_HB, Q_HI383_e3, Q_HO398, Q_HI383_e7, Q_HI383_e9, Q_BK378_e11, Q_BK379_e13⟩ hb_ hon hoff
   refine ⟨_, rfl, fun K hK => ?_⟩
   have e20 : a.tmps[20]? = some (.pointer (some ⟨g383, 0, none⟩)) := by rw [ha]; exact (putSel_off rfl).trans rfl
   have e21 : a.tmps[21]? = some (v397) := by rw [ha]; exact putSel_on (e := (6, 21, v397)) 3 rfl rfl (hon 6 (by kernel_rfl)) rfl
   replace ha := τp ha
   have HO389 := τp Q_HO389
   have BK378 := τp (Q_BK378 (hoff 11 (by kernel_rfl)))
   have BK379 := τp (Q_BK379 (hoff 13 (by kernel_rfl)))
   have BK392 := τp Q_BK392
   have HB := τp Q_HB
   have HI383 := τp (Q_HI383_e3 (hon 3 (by kernel_rfl)) hb_)
   have HO398 := τp (Q_HO398 (hon 6 (by kernel_rfl)))
   obtain ⟨Ao22, co22, eo22⟩ := Kd.R_slice HO398.out
   (first | subst eo22 | (injection eo22 with f1_ f2_ f3_; have f4_ := f1_.symm; have f5_ := f3_.symm; clear f1_ f2_ f3_; subst f4_; subst f5_))
   refine goes_ Try.func65 (by kernel_rfl) rfl #[.pointer (some ⟨g383, 0, none⟩), .slice Ao22 y396.length co22] (by rfl) rfl rfl (by first | (simp only [List.map_toArray, List.map_cons, List.map_nil, Act.eval, Array.getD_eq_getD_getElem?, Option.getD_some, e20, e21]; done) | (simp only [List.map_toArray, List.map_cons, List.map_nil, Act.eval, Array.getD_eq_getD_getElem?, Option.getD_some, e20, e21]; rfl)) ?_
   with_reducible refine (spec_l1Int.calls g383 t380 t394 t395 _ _ y396 t399 t400 t401 w _ ?side1 ?side2 ?side3 ?side4 ?side5 A5.out).mono ?_
   (case side1 => repeat (first | (with_reducible first | exact HI383.out | apply IsS86.alloc | apply IsS86.drewN | apply IsS86.drew | apply IsS86.set_1 | apply IsS86.set_2 | refine IsS86.far ?_ NB383_378.out _ | refine IsS86.far ?_ NB383_379.out _ | refine IsS86.far ?_ NB383_392.out _) | exact HI383.out))
   (case side2 => repeat (first | (with_reducible first | exact HB.out | apply τj | apply τh | apply τi | refine τg ?_ (IsS86.ge HI383.out) | refine τg ?_ GE378.out | refine τg ?_ GE379.out | refine τg ?_ GE392.out) | exact HB.out))
   (case side3 => repeat (first | exact (Kd.R_reads' HO398.out).2.2 | (with_reducible refine Kd.C_alloc ?_ _) | (with_reducible refine Kd.C_drewN ?_ _) | (with_reducible refine Kd.C_drew ?_)))
   (case side4 => exact (Kd.R_reads' HO398.out).2.1)
   (case side5 => exact far_slice (IsS86.own_ne HI383.out HO398.out (by decide)))
   rintro e w23 ⟨rfl, hi, hb, hk⟩
   refine ⟨_, rfl, ?_⟩
   have n0_ := τp (KeepBut.blk hk (g' := gb378) (o := .cells #[.int .i64 0, .int .i64 0, .int .i64 0] 25 (0, 0)) (by (with_reducible repeat (first | refine τa ?_ _ | refine τc ?_ | refine τb ?_ _)); exact BK378.out) NB378_383.out (by simp))
   have n1_ := τp (KeepBut.blk hk (g' := gb379) (o := .cells #[.int .i64 0, .int .i64 0, .bool false] 46 (0, 0)) (by (with_reducible repeat (first | refine τa ?_ _ | refine τc ?_ | refine τb ?_ _)); exact BK379.out) NB379_383.out (by simp))
   have n2_ := τp (Kd.R_mono (Kd.R_keep (IsS86.apart (show IsS86 w _ g383 t380 t394 t395 from by repeat (first | (with_reducible first | exact HI383.out | apply IsS86.alloc | apply IsS86.drewN | apply IsS86.drew | apply IsS86.set_1 | apply IsS86.set_2 | refine IsS86.far ?_ NB383_378.out _ | refine IsS86.far ?_ NB383_379.out _ | refine IsS86.far ?_ NB383_392.out _) | exact HI383.out)) (by (with_reducible repeat (first | apply τd | apply τe | apply τf)); exact HO389.out) (by decide)) hk (fun _ h => h.2)) (fun _ h => h.1))
   have n3_ := τp (KeepBut.blk hk (g' := gb392) (o := .cells #[.int .i64 t384, .int .i64 t385, .int .i64 t386] 25 (0, 0)) (by (with_reducible repeat (first | refine τa ?_ _ | refine τc ?_ | refine τb ?_ _)); exact BK392.out) NB392_383.out (by simp))
   have n4_ := τp (Kd.R_mono (Kd.R_keep (IsS86.apart (show IsS86 w _ g383 t380 t394 t395 from by repeat (first | (with_reducible first | exact HI383.out | apply IsS86.alloc | apply IsS86.drewN | apply IsS86.drew | apply IsS86.set_1 | apply IsS86.set_2 | refine IsS86.far ?_ NB383_378.out _ | refine IsS86.far ?_ NB383_379.out _ | refine IsS86.far ?_ NB383_392.out _) | exact HI383.out)) (by (with_reducible repeat (first | apply τd | apply τe | apply τf)); exact HO398.out) (by decide)) hk (fun _ h => h.2)) (fun _ h => h.1))
   have n5_ := τp (hb)
   have n6_ := τp (hi)
   clear BK378
   clear BK379
   clear HO389
   clear BK392
   clear HO398
   clear HB
   clear HI383
   have BK378 := n0_
   have BK379 := n1_
   have HO389 := n2_
   have BK392 := n3_
   have HO398 := n4_
   have HB := n5_
   have HI383 := n6_
   clear n0_ n1_ n2_ n3_ n4_ n5_ n6_
   (try clear hb)
   (try clear hb2)
   (try clear hk)
   (try clear hi)
   refine hK.out _ _ ⟨.slice Ao22 y396.length co22, (by rw [ha.out]; exact putSel_upk 4 hb_ rfl rfl rfl), (by (with_reducible repeat (first | apply τd | apply τe | apply τf)); exact HO389.out), fun _ => (by (with_reducible repeat (first | refine τa ?_ _ | refine τc ?_ | refine τb ?_ _)); exact BK378.out), fun _ => (by (with_reducible repeat (first | refine τa ?_ _ | refine τc ?_ | refine τb ?_ _)); exact BK379.out), (by (with_reducible repeat (first | refine τa ?_ _ | refine τc ?_ | refine τb ?_ _)); exact BK392.out), fun h0_ => absurd ((hon 3 (by kernel_rfl)).symm.trans h0_) (by decide), (by repeat (first | (with_reducible first | exact HB.out | apply τj | apply τh | apply τi | refine τg ?_ (IsS86.ge HI383.out) | refine τg ?_ GE378.out | refine τg ?_ GE379.out | refine τg ?_ GE392.out) | exact HB.out)), fun _ h1_ => absurd ((up_self b 7).symm.trans h1_) (by decide), fun _ => (by (with_reducible repeat (first | apply τd | apply τe | apply τf)); exact HO398.out), fun _ _ => (by repeat (first | (with_reducible first | exact HI383.out | apply IsS86.alloc | apply IsS86.drewN | apply IsS86.drew | apply IsS86.set_1 | apply IsS86.set_2 | refine IsS86.far ?_ NB383_378.out _ | refine IsS86.far ?_ NB383_379.out _ | refine IsS86.far ?_ NB383_392.out _) | exact HI383.out)), fun h0_ => absurd ((hoff 9 (by kernel_rfl)).symm.trans h0_) (by decide), fun h0_ => absurd ((hoff 11 (by kernel_rfl)).symm.trans h0_) (by decide), fun h0_ => absurd ((hoff 13 (by kernel_rfl)).symm.trans h0_) (by decide)⟩
  refine steps_cons ?_ ?_
  ·
   rintro b a w' ⟨v397, ha, Q_HO389, Q_BK378, Q_BK379, Q_BK392, Q_HI383, Q_HB, Q_HI383_e3, Q_HO398, Q_HI383_e7, Q_HI383_e9, Q_BK378_e11, Q_BK379_e13⟩ hb_ hon hoff
   refine ⟨_, rfl, fun K hK => ?_⟩
   have e23 : a.tmps[23]? = some (.pointer (some ⟨g383, 0, none⟩)) := by rw [ha]; exact (putSel_off rfl).trans rfl
   replace ha := τp ha
   have HO389 := τp Q_HO389
   have BK378 := τp (Q_BK378 (hoff 11 (by kernel_rfl)))
   have BK379 := τp (Q_BK379 (hoff 13 (by kernel_rfl)))
   have BK392 := τp Q_BK392
   have HB := τp Q_HB
   have HO398 := τp (Q_HO398 (hon 6 (by kernel_rfl)))
   have HI383 := τp (Q_HI383_e7 (hon 7 (by kernel_rfl)) hb_)
   refine goes_ Try.func66 (by kernel_rfl) rfl #[.pointer (some ⟨g383, 0, none⟩), .int .i64 2] (by rfl) rfl rfl (by first | (simp only [List.map_toArray, List.map_cons, List.map_nil, Act.eval, Array.getD_eq_getD_getElem?, Option.getD_some, e23]; done) | (simp only [List.map_toArray, List.map_cons, List.map_nil, Act.eval, Array.getD_eq_getD_getElem?, Option.getD_some, e23]; rfl)) ?_
   with_reducible refine (spec_l1Once.calls g383 t380 t400 t401 2 t402 t403 t404 w _ ?side1 ?side2 A6.out).mono ?_
   (case side1 => repeat (first | (with_reducible first | exact HI383.out | apply IsS86.alloc | apply IsS86.drewN | apply IsS86.drew | apply IsS86.set_1 | apply IsS86.set_2 | refine IsS86.far ?_ NB383_378.out _ | refine IsS86.far ?_ NB383_379.out _ | refine IsS86.far ?_ NB383_392.out _) | exact HI383.out))
   (case side2 => repeat (first | (with_reducible first | exact HB.out | apply τj | apply τh | apply τi | refine τg ?_ (IsS86.ge HI383.out) | refine τg ?_ GE378.out | refine τg ?_ GE379.out | refine τg ?_ GE392.out) | exact HB.out))
   rintro e w24 ⟨rfl, hi, hb, hk⟩
   refine ⟨_, rfl, ?_⟩
   have n0_ := τp (KeepBut.blk hk (g' := gb378) (o := .cells #[.int .i64 0, .int .i64 0, .int .i64 0] 25 (0, 0)) (by (with_reducible repeat (first | refine τa ?_ _ | refine τc ?_ | refine τb ?_ _)); exact BK378.out) NB378_383.out (by simp))
   have n1_ := τp (KeepBut.blk hk (g' := gb379) (o := .cells #[.int .i64 0, .int .i64 0, .bool false] 46 (0, 0)) (by (with_reducible repeat (first | refine τa ?_ _ | refine τc ?_ | refine τb ?_ _)); exact BK379.out) NB379_383.out (by simp))
   have n2_ := τp (Kd.R_mono (Kd.R_keep (IsS86.apart (show IsS86 w _ g383 t380 t400 t401 from by repeat (first | (with_reducible first | exact HI383.out | apply IsS86.alloc | apply IsS86.drewN | apply IsS86.drew | apply IsS86.set_1 | apply IsS86.set_2 | refine IsS86.far ?_ NB383_378.out _ | refine IsS86.far ?_ NB383_379.out _ | refine IsS86.far ?_ NB383_392.out _) | exact HI383.out)) (by (with_reducible repeat (first | apply τd | apply τe | apply τf)); exact HO389.out) (by decide)) hk (fun _ h => h.2)) (fun _ h => h.1))
   have n3_ := τp (KeepBut.blk hk (g' := gb392) (o := .cells #[.int .i64 t384, .int .i64 t385, .int .i64 t386] 25 (0, 0)) (by (with_reducible repeat (first | refine τa ?_ _ | refine τc ?_ | refine τb ?_ _)); exact BK392.out) NB392_383.out (by simp))
   have n4_ := τp (Kd.R_mono (Kd.R_keep (IsS86.apart (show IsS86 w _ g383 t380 t400 t401 from by repeat (first | (with_reducible first | exact HI383.out | apply IsS86.alloc | apply IsS86.drewN | apply IsS86.drew | apply IsS86.set_1 | apply IsS86.set_2 | refine IsS86.far ?_ NB383_378.out _ | refine IsS86.far ?_ NB383_379.out _ | refine IsS86.far ?_ NB383_392.out _) | exact HI383.out)) (by (with_reducible repeat (first | apply τd | apply τe | apply τf)); exact HO398.out) (by decide)) hk (fun _ h => h.2)) (fun _ h => h.1))
   have n5_ := τp (hb)
   have n6_ := τp (hi)
   clear BK378
   clear BK379
   clear HO389
   clear BK392
   clear HO398
   clear HB
   clear HI383
   have BK378 := n0_
   have BK379 := n1_
   have HO389 := n2_
   have BK392 := n3_
   have HO398 := n4_
   have HB := n5_
   have HI383 := n6_
   clear n0_ n1_ n2_ n3_ n4_ n5_ n6_
   (try clear hb)
   (try clear hb2)
   (try clear hk)
   (try clear hi)
   refine hK.out _ _ ⟨v397, (by rw [ha.out]; exact putSel_upk 5 hb_ rfl rfl rfl), (by (with_reducible repeat (first | apply τd | apply τe | apply τf)); exact HO389.out), fun _ => (by (with_reducible repeat (first | refine τa ?_ _ | refine τc ?_ | refine τb ?_ _)); exact BK378.out), fun _ => (by (with_reducible repeat (first | refine τa ?_ _ | refine τc ?_ | refine τb ?_ _)); exact BK379.out), (by (with_reducible repeat (first | refine τa ?_ _ | refine τc ?_ | refine τb ?_ _)); exact BK392.out), fun h0_ => absurd ((hon 3 (by kernel_rfl)).symm.trans h0_) (by decide), (by repeat (first | (with_reducible first | exact HB.out | apply τj | apply τh | apply τi | refine τg ?_ (IsS86.ge HI383.out) | refine τg ?_ GE378.out | refine τg ?_ GE379.out | refine τg ?_ GE392.out) | exact HB.out)), fun _ h1_ => absurd ((hon 7 (by kernel_rfl)).symm.trans h1_) (by decide), fun _ => (by (with_reducible repeat (first | apply τd | apply τe | apply τf)); exact HO398.out), fun _ h1_ => absurd ((up_self b 9).symm.trans h1_) (by decide), fun _ => (by repeat (first | (with_reducible first | exact HI383.out | apply IsS86.alloc | apply IsS86.drewN | apply IsS86.drew | apply IsS86.set_1 | apply IsS86.set_2 | refine IsS86.far ?_ NB383_378.out _ | refine IsS86.far ?_ NB383_379.out _ | refine IsS86.far ?_ NB383_392.out _) | exact HI383.out)), fun h0_ => absurd ((hoff 11 (by kernel_rfl)).symm.trans h0_) (by decide), fun h0_ => absurd ((hoff 13 (by kernel_rfl)).symm.trans h0_) (by decide)⟩
  refine steps_cons ?_ ?_
  ·
   rintro b a w' ⟨v397, ha, Q_HO389, Q_BK378, Q_BK379, Q_BK392, Q_HI383, Q_HB, Q_HI383_e3, Q_HO398, Q_HI383_e7, Q_HI383_e9, Q_BK378_e11, Q_BK379_e13⟩ hb_ hon hoff
   refine ⟨_, rfl, fun K hK => ?_⟩
   have e19 : a.tmps[19]? = some (.int .i64 (wrap64 (60 + t393))) := by rw [ha]; exact putSel_on (e := (4, 19, .int .i64 (wrap64 (60 + t393)))) 2 rfl rfl (hon 4 (by kernel_rfl)) rfl
   have e22 : a.tmps[22]? = some (.int .i64 t399) := by rw [ha]; exact putSel_on (e := (7, 22, .int .i64 t399)) 4 rfl rfl (hon 7 (by kernel_rfl)) rfl
   have e24 : a.tmps[24]? = some (.bool t402) := by rw [ha]; exact putSel_on (e := (9, 24, .bool t402)) 5 rfl rfl (hon 9 (by kernel_rfl)) rfl
   replace ha := τp ha
   have HO389 := τp Q_HO389
   have BK379 := τp (Q_BK379 (hoff 13 (by kernel_rfl)))
   have BK392 := τp Q_BK392
   have HB := τp Q_HB
   have HO398 := τp (Q_HO398 (hon 6 (by kernel_rfl)))
   have HI383 := τp (Q_HI383_e9 (hon 9 (by kernel_rfl)))
   refine value_ (w1 := w') (v := .agg #[.int .i64 (wrap64 (60 + t393)), .int .i64 t399, .bool t402]) (by rfl) rfl ?_ ?_
   ·
    go_simp
    (try simp only [i64_w])
    try rfl
   refine hK.out _ _ ⟨v397, (by rw [ha.out]; exact putSel_upk 6 hb_ rfl rfl rfl), Q_HO389, Q_BK378, Q_BK379, Q_BK392, fun h0_ => absurd ((hon 3 (by kernel_rfl)).symm.trans h0_) (by decide), Q_HB, fun _ h1_ => absurd ((hon 7 (by kernel_rfl)).symm.trans h1_) (by decide), Q_HO398, fun _ h1_ => absurd ((hon 9 (by kernel_rfl)).symm.trans h1_) (by decide), Q_HI383_e9, Q_BK378_e11, fun h0_ => absurd ((hoff 13 (by kernel_rfl)).symm.trans h0_) (by decide)⟩
  refine steps_cons ?_ ?_
  ·
   rintro b a w' ⟨v397, ha, Q_HO389, Q_BK378, Q_BK379, Q_BK392, Q_HI383, Q_HB, Q_HI383_e3, Q_HO398, Q_HI383_e7, Q_HI383_e9, Q_BK378_e11, Q_BK379_e13⟩ hb_ hon hoff
   refine ⟨_, rfl, fun K hK => ?_⟩
   have e2 : a.tmps[2]? = some (.pointer (some ⟨gb378, 0, none⟩)) := by rw [ha]; exact (putSel_off rfl).trans rfl
   have e15 : a.tmps[15]? = some (.agg #[.int .i64 t384, .int .i64 t385, .int .i64 t386]) := by rw [ha]; exact putSel_on (e := (0, 15, .agg #[.int .i64 t384, .int .i64 t385, .int .i64 t386])) 0 rfl rfl (hon 0 (by kernel_rfl)) rfl
   replace ha := τp ha
   have HO389 := τp Q_HO389
   have BK378 := τp (Q_BK378 hb_)
   have BK379 := τp (Q_BK379 (hoff 13 (by kernel_rfl)))
   have BK392 := τp Q_BK392
   have HB := τp Q_HB
   have HO398 := τp (Q_HO398 (hon 6 (by kernel_rfl)))
   have HI383 := τp (Q_HI383_e9 (hon 9 (by kernel_rfl)))
   have hs25 : w'.cell? ⟨gb378, 0, none⟩ = some (.int .i64 0) := (blk_cell BK378.out 0).trans rfl
   have hfs25 := blk_frozen BK378.out 0
   have hns25_1 := NB379_378.out
   have hns25_2 := NB392_378.out
   have hms25_1 := NB378_379.out
   have hms25_2 := NB378_392.out
   have hs26 : w'.cell? ⟨gb378, 1, none⟩ = some (.int .i64 0) := (blk_cell BK378.out 1).trans rfl
   have hfs26 := blk_frozen BK378.out 1
   have hns26_1 := NB379_378.out
   have hns26_2 := NB392_378.out
   have hms26_1 := NB378_379.out
   have hms26_2 := NB378_392.out
   have hs27 : w'.cell? ⟨gb378, 2, none⟩ = some (.int .i64 0) := (blk_cell BK378.out 2).trans rfl
   have hfs27 := blk_frozen BK378.out 2
   have hns27_1 := NB379_378.out
   have hns27_2 := NB392_378.out
   have hms27_1 := NB378_379.out
   have hms27_2 := NB378_392.out
   refine skip_ (w1 := ?_) (by rfl) rfl ?_ ?_
   rotate_left
   ·
    go_simp
    rfl
   refine hK.out _ _ ⟨v397, (by rw [ha.out]; exact putSel_none (v := undef) rfl), (by (with_reducible repeat (first | apply τd | apply τe | apply τf)); exact Kd.R_mono (Kd.R_far (p := ⟨gb378, 2, none⟩) (Kd.R_far (p := ⟨gb378, 1, none⟩) (Kd.R_far (p := ⟨gb378, 0, none⟩) (Kd.R_types HO389.out BK378.out (by decide)) (fun _ hk => hk.2) (.int .i64 t384)) (fun _ hk => hk.2) (.int .i64 t385)) (fun _ hk => hk.2) (.int .i64 t386)) (fun _ hk => hk.1)), fun h0_ => absurd ((up_self b 11).symm.trans h0_) (by decide), fun _ => (by (with_reducible repeat (first | refine τa ?_ _ | refine τc ?_ | refine τb ?_ _)); refine blk_far ?_ NB379_378.out _; (with_reducible repeat (first | refine τa ?_ _ | refine τc ?_ | refine τb ?_ _)); refine blk_far ?_ NB379_378.out _; (with_reducible repeat (first | refine τa ?_ _ | refine τc ?_ | refine τb ?_ _)); refine blk_far ?_ NB379_378.out _; (with_reducible repeat (first | refine τa ?_ _ | refine τc ?_ | refine τb ?_ _)); exact BK379.out), (by (with_reducible repeat (first | refine τa ?_ _ | refine τc ?_ | refine τb ?_ _)); refine blk_far ?_ NB392_378.out _; (with_reducible repeat (first | refine τa ?_ _ | refine τc ?_ | refine τb ?_ _)); refine blk_far ?_ NB392_378.out _; (with_reducible repeat (first | refine τa ?_ _ | refine τc ?_ | refine τb ?_ _)); refine blk_far ?_ NB392_378.out _; (with_reducible repeat (first | refine τa ?_ _ | refine τc ?_ | refine τb ?_ _)); exact BK392.out), fun h0_ => absurd ((hon 3 (by kernel_rfl)).symm.trans h0_) (by decide), (by repeat (first | (with_reducible first | exact HB.out | apply τj | apply τh | apply τi | refine τg ?_ (IsS86.ge HI383.out) | refine τg ?_ GE378.out | refine τg ?_ GE379.out | refine τg ?_ GE392.out) | exact HB.out)), fun _ h1_ => absurd ((hon 7 (by kernel_rfl)).symm.trans h1_) (by decide), fun _ => (by (with_reducible repeat (first | apply τd | apply τe | apply τf)); exact Kd.R_mono (Kd.R_far (p := ⟨gb378, 2, none⟩) (Kd.R_far (p := ⟨gb378, 1, none⟩) (Kd.R_far (p := ⟨gb378, 0, none⟩) (Kd.R_types HO398.out BK378.out (by decide)) (fun _ hk => hk.2) (.int .i64 t384)) (fun _ hk => hk.2) (.int .i64 t385)) (fun _ hk => hk.2) (.int .i64 t386)) (fun _ hk => trivial)), fun _ h1_ => absurd ((hon 9 (by kernel_rfl)).symm.trans h1_) (by decide), fun _ => (by repeat (first | (with_reducible first | exact HI383.out | apply IsS86.alloc | apply IsS86.drewN | apply IsS86.drew | apply IsS86.set_1 | apply IsS86.set_2 | refine IsS86.far ?_ NB383_378.out _ | refine IsS86.far ?_ NB383_379.out _ | refine IsS86.far ?_ NB383_392.out _) | exact HI383.out)), fun _ => (by (with_reducible repeat (first | refine τa ?_ _ | refine τc ?_ | refine τb ?_ _)); refine blk_put (cs := #[.int .i64 t384, .int .i64 t385, .int .i64 0]) ?_ 2 _ rfl; (with_reducible repeat (first | refine τa ?_ _ | refine τc ?_ | refine τb ?_ _)); refine blk_put (cs := #[.int .i64 t384, .int .i64 0, .int .i64 0]) ?_ 1 _ rfl; (with_reducible repeat (first | refine τa ?_ _ | refine τc ?_ | refine τb ?_ _)); refine blk_put (cs := #[.int .i64 0, .int .i64 0, .int .i64 0]) ?_ 0 _ rfl; (with_reducible repeat (first | refine τa ?_ _ | refine τc ?_ | refine τb ?_ _)); exact BK378.out), fun h0_ => absurd ((hoff 13 (by kernel_rfl)).symm.trans h0_) (by decide)⟩
  refine steps_cons ?_ ?_
  ·
   rintro b a w' ⟨v397, ha, Q_HO389, Q_BK378, Q_BK379, Q_BK392, Q_HI383, Q_HB, Q_HI383_e3, Q_HO398, Q_HI383_e7, Q_HI383_e9, Q_BK378_e11, Q_BK379_e13⟩ hb_ hon hoff
   refine ⟨_, rfl, fun K hK => ?_⟩
   have e16 : a.tmps[16]? = some (v388) := by rw [ha]; exact (putSel_off rfl).trans rfl
   replace ha := τp ha
   have HO389 := τp Q_HO389
   have BK379 := τp (Q_BK379 (hoff 13 (by kernel_rfl)))
   have BK392 := τp Q_BK392
   have HB := τp Q_HB
   have HO398 := τp (Q_HO398 (hon 6 (by kernel_rfl)))
   have HI383 := τp (Q_HI383_e9 (hon 9 (by kernel_rfl)))
   have BK378 := τp (Q_BK378_e11 (hon 11 (by kernel_rfl)))
   refine value_ (w1 := w') (v := v388) (by rfl) rfl ?_ ?_
   ·
    go_simp
    (try simp only [i64_w])
    try rfl
   refine hK.out _ _ ⟨v397, (by rw [ha.out]; exact putSel_upk 7 hb_ rfl rfl rfl), Q_HO389, fun h0_ => absurd ((hon 11 (by kernel_rfl)).symm.trans h0_) (by decide), Q_BK379, Q_BK392, fun h0_ => absurd ((hon 3 (by kernel_rfl)).symm.trans h0_) (by decide), Q_HB, fun _ h1_ => absurd ((hon 7 (by kernel_rfl)).symm.trans h1_) (by decide), Q_HO398, fun _ h1_ => absurd ((hon 9 (by kernel_rfl)).symm.trans h1_) (by decide), Q_HI383_e9, Q_BK378_e11, fun h0_ => absurd ((hoff 13 (by kernel_rfl)).symm.trans h0_) (by decide)⟩
  refine steps_cons ?_ ?_
  ·
   rintro b a w' ⟨v397, ha, Q_HO389, Q_BK378, Q_BK379, Q_BK392, Q_HI383, Q_HB, Q_HI383_e3, Q_HO398, Q_HI383_e7, Q_HI383_e9, Q_BK378_e11, Q_BK379_e13⟩ hb_ hon hoff
   refine ⟨_, rfl, fun K hK => ?_⟩
   have e4 : a.tmps[4]? = some (.pointer (some ⟨gb379, 0, none⟩)) := by rw [ha]; exact (putSel_off rfl).trans rfl
   have e25 : a.tmps[25]? = some (.agg #[.int .i64 (wrap64 (60 + t393)), .int .i64 t399, .bool t402]) := by rw [ha]; exact putSel_on (e := (10, 25, .agg #[.int .i64 (wrap64 (60 + t393)), .int .i64 t399, .bool t402])) 6 rfl rfl (hon 10 (by kernel_rfl)) rfl
   replace ha := τp ha
   have HO389 := τp Q_HO389
   have BK379 := τp (Q_BK379 hb_)
   have BK392 := τp Q_BK392
   have HB := τp Q_HB
   have HO398 := τp (Q_HO398 (hon 6 (by kernel_rfl)))
   have HI383 := τp (Q_HI383_e9 (hon 9 (by kernel_rfl)))
   have BK378 := τp (Q_BK378_e11 (hon 11 (by kernel_rfl)))
   have hs28 : w'.cell? ⟨gb379, 0, none⟩ = some (.int .i64 0) := (blk_cell BK379.out 0).trans rfl
   have hfs28 := blk_frozen BK379.out 0
   have hns28_0 := NB378_379.out
   have hns28_2 := NB392_379.out
   have hms28_0 := NB379_378.out
   have hms28_2 := NB379_392.out
   have hs29 : w'.cell? ⟨gb379, 1, none⟩ = some (.int .i64 0) := (blk_cell BK379.out 1).trans rfl
   have hfs29 := blk_frozen BK379.out 1
   have hns29_0 := NB378_379.out
   have hns29_2 := NB392_379.out
   have hms29_0 := NB379_378.out
   have hms29_2 := NB379_392.out
   have hs30 : w'.cell? ⟨gb379, 2, none⟩ = some (.bool false) := (blk_cell BK379.out 2).trans rfl
   have hfs30 := blk_frozen BK379.out 2
   have hns30_0 := NB378_379.out
   have hns30_2 := NB392_379.out
   have hms30_0 := NB379_378.out
   have hms30_2 := NB379_392.out
   refine skip_ (w1 := ?_) (by rfl) rfl ?_ ?_
   rotate_left
   ·
    go_simp
    rfl
   refine hK.out _ _ ⟨v397, (by rw [ha.out]; exact putSel_none (v := undef) rfl), (by (with_reducible repeat (first | apply τd | apply τe | apply τf)); exact Kd.R_mono (Kd.R_far (p := ⟨gb379, 2, none⟩) (Kd.R_far (p := ⟨gb379, 1, none⟩) (Kd.R_far (p := ⟨gb379, 0, none⟩) (Kd.R_mono HO389.out (fun k_ hk => (⟨hk, hk⟩ : _ ∧ k_ ≠ gb379))) (fun _ hk => hk.2) (.int .i64 (wrap64 (60 + t393)))) (fun _ hk => hk.2) (.int .i64 t399)) (fun _ hk => hk.2) (.bool t402)) (fun _ hk => hk.1)), fun h0_ => absurd ((hon 11 (by kernel_rfl)).symm.trans h0_) (by decide), fun h0_ => absurd ((up_self b 13).symm.trans h0_) (by decide), (by (with_reducible repeat (first | refine τa ?_ _ | refine τc ?_ | refine τb ?_ _)); refine blk_far ?_ NB392_379.out _; (with_reducible repeat (first | refine τa ?_ _ | refine τc ?_ | refine τb ?_ _)); refine blk_far ?_ NB392_379.out _; (with_reducible repeat (first | refine τa ?_ _ | refine τc ?_ | refine τb ?_ _)); refine blk_far ?_ NB392_379.out _; (with_reducible repeat (first | refine τa ?_ _ | refine τc ?_ | refine τb ?_ _)); exact BK392.out), fun h0_ => absurd ((hon 3 (by kernel_rfl)).symm.trans h0_) (by decide), (by repeat (first | (with_reducible first | exact HB.out | apply τj | apply τh | apply τi | refine τg ?_ (IsS86.ge HI383.out) | refine τg ?_ GE378.out | refine τg ?_ GE379.out | refine τg ?_ GE392.out) | exact HB.out)), fun _ h1_ => absurd ((hon 7 (by kernel_rfl)).symm.trans h1_) (by decide), fun _ => (by (with_reducible repeat (first | apply τd | apply τe | apply τf)); exact Kd.R_mono (Kd.R_far (p := ⟨gb379, 2, none⟩) (Kd.R_far (p := ⟨gb379, 1, none⟩) (Kd.R_far (p := ⟨gb379, 0, none⟩) (Kd.R_types HO398.out BK379.out (by decide)) (fun _ hk => hk.2) (.int .i64 (wrap64 (60 + t393)))) (fun _ hk => hk.2) (.int .i64 t399)) (fun _ hk => hk.2) (.bool t402)) (fun _ hk => trivial)), fun _ h1_ => absurd ((hon 9 (by kernel_rfl)).symm.trans h1_) (by decide), fun _ => (by repeat (first | (with_reducible first | exact HI383.out | apply IsS86.alloc | apply IsS86.drewN | apply IsS86.drew | apply IsS86.set_1 | apply IsS86.set_2 | refine IsS86.far ?_ NB383_378.out _ | refine IsS86.far ?_ NB383_379.out _ | refine IsS86.far ?_ NB383_392.out _) | exact HI383.out)), fun _ => (by (with_reducible repeat (first | refine τa ?_ _ | refine τc ?_ | refine τb ?_ _)); refine blk_far ?_ NB378_379.out _; (with_reducible repeat (first | refine τa ?_ _ | refine τc ?_ | refine τb ?_ _)); refine blk_far ?_ NB378_379.out _; (with_reducible repeat (first | refine τa ?_ _ | refine τc ?_ | refine τb ?_ _)); refine blk_far ?_ NB378_379.out _; (with_reducible repeat (first | refine τa ?_ _ | refine τc ?_ | refine τb ?_ _)); exact BK378.out), fun _ => (by (with_reducible repeat (first | refine τa ?_ _ | refine τc ?_ | refine τb ?_ _)); refine blk_put (cs := #[.int .i64 (wrap64 (60 + t393)), .int .i64 t399, .bool false]) ?_ 2 _ rfl; (with_reducible repeat (first | refine τa ?_ _ | refine τc ?_ | refine τb ?_ _)); refine blk_put (cs := #[.int .i64 (wrap64 (60 + t393)), .int .i64 0, .bool false]) ?_ 1 _ rfl; (with_reducible repeat (first | refine τa ?_ _ | refine τc ?_ | refine τb ?_ _)); refine blk_put (cs := #[.int .i64 0, .int .i64 0, .bool false]) ?_ 0 _ rfl; (with_reducible repeat (first | refine τa ?_ _ | refine τc ?_ | refine τb ?_ _)); exact BK379.out)⟩
  exact steps_nil
 rintro b a w30 hall ⟨v397, ha, Q_HO389, Q_BK378, Q_BK379, Q_BK392, Q_HI383, Q_HB, Q_HI383_e3, Q_HO398, Q_HI383_e7, Q_HI383_e9, Q_BK378_e11, Q_BK379_e13⟩
 clear BK378 BK379 BK392 HB HI383 HO389
 have hb0_ := hall 0 (by kernel_rfl)
 have hb3_ := hall 3 (by kernel_rfl)
 have hb4_ := hall 4 (by kernel_rfl)
 have hb6_ := hall 6 (by kernel_rfl)
 have hb7_ := hall 7 (by kernel_rfl)
 have hb9_ := hall 9 (by kernel_rfl)
 have hb10_ := hall 10 (by kernel_rfl)
 have hb11_ := hall 11 (by kernel_rfl)
 have hb12_ := hall 12 (by kernel_rfl)
 have hb13_ := hall 13 (by kernel_rfl)
 subst ha
 simp only [putSel, hb0_, hb3_, hb4_, hb6_, hb7_, hb9_, hb10_, hb11_, hb12_, hb13_, if_true, Act.put, List.setIfInBounds_toArray, List.set_cons_zero, List.set_cons_succ]
 have HO389 := τp Q_HO389
 clear Q_HO389
 clear Q_BK378
 clear Q_BK379
 have BK392 := τp Q_BK392
 clear Q_BK392
 clear Q_HI383
 have HB := τp Q_HB
 clear Q_HB
 clear Q_HI383_e3
 have HO398 := τp (Q_HO398 hb6_)
 clear Q_HO398
 clear Q_HI383_e7
 have HI383 := τp (Q_HI383_e9 hb9_)
 clear Q_HI383_e9
 have BK378 := τp (Q_BK378_e11 hb11_)
 clear Q_BK378_e11
 have BK379 := τp (Q_BK379_e13 hb13_)
 clear Q_BK379_e13
 clear hall hb0_ hb3_ hb4_ hb6_ hb7_ hb9_ hb10_ hb11_ hb12_ hb13_
 try go_wp2
 refine bodyPost_ret (results_list (rs := [.cell 2 25, .tmp 3, .cell 4 46]) rfl (by simp) (.cell gb378 25 #[.int .i64 t384, .int .i64 t385, .int .i64 t386] (0, 0) _ rfl (by (with_reducible repeat (first | refine τa ?_ _ | refine τc ?_ | refine τb ?_ _)); exact BK378.out) Try.underlying25 rfl (by kernel_rfl) (.tmp (.cell gb379 46 #[.int .i64 (wrap64 (60 + t393)), .int .i64 t399, .bool t402] (0, 0) _ rfl (by (with_reducible repeat (first | refine τa ?_ _ | refine τc ?_ | refine τb ?_ _)); exact BK379.out) Try.underlying46 rfl (by kernel_rfl) .nil)))) rfl ?_
 exact ⟨_, by first | rfl | (simp [errW_none, errW_some] <;> rfl) | (simp [*, errW_none, errW_some] <;> rfl), by (with_reducible repeat (first | apply τd | apply τe | apply τf)); exact Kd.R_mono HO389.out (fun _ hk => trivial), by repeat (first | (with_reducible first | exact HB.out | apply τj | apply τh | apply τi | refine τg ?_ (IsS86.ge HI383.out) | refine τg ?_ GE378.out | refine τg ?_ GE379.out | refine τg ?_ GE392.out) | exact HB.out)⟩

/-! ### spec_DrawRefusedOf: function 37 -/
def spec_DrawRefusedOf.f (k : Nat) (l0 : List Int) : Option ((List (S46))) := (spec_l1New.f k l0).bind fun bt405 => ((spec_l28Any.f k bt405.1 bt405.2.1 bt405.2.2).bind fun bt409 => (some bt409.2.2.2.1))
theorem spec_DrawRefusedOf.mono : ∀ a0 k, LeO (spec_DrawRefusedOf.f k a0) (spec_DrawRefusedOf.f (k + 1) a0) := by
 intro a0 k
 unfold spec_DrawRefusedOf.f
 repeat' first
   | (with_reducible exact spec_l1New.mono _ _)
   | (with_reducible exact spec_l28Any.mono _ _ _ _)
   | (with_reducible exact LeO.refl _)
   | (with_reducible exact LeO.none _)
   | (with_reducible refine LeO.ite ?_ ?_)
   | (with_reducible refine LeO.bind ?_ (fun _ => ?_))
   | exact spec_l1New.mono _ _
   | exact spec_l28Any.mono _ _ _ _
   | exact LeO.none _
   | refine LeO.ite ?_ ?_
   | refine LeO.bind ?_ (fun _ => ?_)
set_option maxHeartbeats 8000000 in
set_option maxRecDepth 100000 in
theorem spec_DrawRefusedOf.calls (k : Nat) (A0 : Option Addr) (c0 : Nat) (l0 : List Int) (r : List (S46)) (w : World) (hr0 : Kd.C (Kd.int .u8) w A0 l0.length l0) (hc0 : l0.length ≤ c0) (h : spec_DrawRefusedOf.f k l0 = some r) :
  Calls Try.prog 37 #[.slice A0 l0.length c0] w fun e w' => ∃ v0_ : Value, e = .returned (v0_) ∧ Kd.R k46 46 w' w.heap.size (fun _ => True) v0_ r ∧ Below w.heap.size w w' := by
 have hu25 := Try.underlying25
 have HR0 := τp hr0
 have HC0 := τp hc0
 clear hr0 hc0
 have HB := τp (Below.refl w.heap.size w)
 have H : ((spec_l1New.f k l0).bind fun bt405 => ((spec_l28Any.f k bt405.1 bt405.2.1 bt405.2.2).bind fun bt409 => (some bt409.2.2.2.1))) = some r := h
 clear h
 replace H := Option.bind_eq_some_iff.mp H
 obtain ⟨⟨t405, t406, t407⟩, A20, H⟩ := H
 try dsimp only at H
 have A2 := τp A20
 clear A20
 replace H := Option.bind_eq_some_iff.mp H
 obtain ⟨⟨t409, t410, t411, t412, t415, t416⟩, A30, H⟩ := H
 try dsimp only at H
 have A3 := τp A30
 clear A30
 obtain rfl := Option.some.inj H
 go_enter Try.func37, Try.ntmps37
 go_wp2_with (first | ((with_reducible refine gate_callee (f := 62) rfl ?_); refine goesL_ (some 7) rfl rfl Try.func62 (by kernel_rfl) rfl #[.slice A0 l0.length c0] rfl (by (try simp only [List.map_toArray, List.map_cons, List.map_nil]); first | done | rfl | (simp only [List.length_drop, List.length_take]; rfl)) ?_; (with_reducible refine (spec_l1New.calls k _ _ l0 t405 t406 t407 w _ ?side1 ?side2 ?side3 A2.out).mono ?_); (case side1 => repeat (first | (with_reducible first | exact HB.out | apply τj | apply τh | apply τi) | exact HB.out)); (case side2 => exact HR0.out); (case side3 => exact HC0.out); rintro e w4 ⟨g408, rfl, hi, hb, hb2⟩; refine ⟨_, rfl, ?_⟩; have n0_ := τp (hb); have n1_ := τp (hi); clear HB; have HB := n0_; have HI408 := n1_; clear n0_ n1_; (try clear hb); (try clear hb2); (try clear hk); (try clear hi)) | ((with_reducible refine gate_callee (f := 63) rfl ?_); refine goesL_ (some 10) rfl rfl Try.func63 (by kernel_rfl) rfl #[.pointer (some ⟨g408, 0, none⟩)] rfl (by (try simp only [List.map_toArray, List.map_cons, List.map_nil]); first | done | rfl | (simp only [List.length_drop, List.length_take]; rfl)) ?_; (with_reducible refine (spec_l28Any.calls k g408 t405 t406 t407 t409 t410 t411 t412 t415 t416 w _ ?side1 ?side2 A3.out).mono ?_); (case side1 => repeat (first | (with_reducible first | exact HI408.out | apply IsS86.alloc | apply IsS86.drewN | apply IsS86.drew | apply IsS86.set_1 | apply IsS86.set_2) | exact HI408.out)); (case side2 => repeat (first | (with_reducible first | exact HB.out | apply τj | apply τh | apply τi | refine τg ?_ (IsS86.ge HI408.out)) | exact HB.out)); rintro e w5 ⟨v413, rfl, ho0, hi, hb, hk⟩; refine ⟨_, rfl, ?_⟩; have n0_ := τp (Kd.R_lower ho0 (below_size (by repeat (first | (with_reducible first | exact HB.out | apply τj | apply τh | apply τi | refine τg ?_ (IsS86.ge HI408.out)) | exact HB.out)))); have n1_ := τp (hb); have n2_ := τp (hi); clear HB; clear HI408; have HO414 := n0_; have HB := n1_; have HI408 := n2_; clear n0_ n1_ n2_; (try clear hb); (try clear hb2); (try clear hk); (try clear hi); (try clear ho0)) | ((with_reducible refine gate_dst (N := 4) rfl ?_); refine box_event ?hg (N := 4) ?hd (cs := #[.int .i64 0, .int .i64 0, .int .i64 0]) (t := 25) ?hr ?_; (case hd => rfl); (case hg => rfl); (case hr => first | (go_simp; done) | (go_simp; rfl)); intro gb417 hg w6 hbox hb; have n0_ := τp (Kd.R_below (by (with_reducible repeat (first | apply τd | apply τe | apply τf)); exact HO414.out) hb); have n1_ := τp (IsS86.below (by repeat (first | (with_reducible first | exact HI408.out | apply IsS86.alloc | apply IsS86.drewN | apply IsS86.drew | apply IsS86.set_1 | apply IsS86.set_2) | exact HI408.out)) hb); have n2_ := τp (below_step (by repeat (first | (with_reducible first | exact HB.out | apply τj | apply τh | apply τi | refine τg ?_ (IsS86.ge HI408.out)) | exact HB.out)) hb); have n3_ := τp (hbox); have n4_ := τp ((by rw [hg]; exact (below_size (by repeat (first | (with_reducible first | exact HB.out | apply τj | apply τh | apply τi | refine τg ?_ (IsS86.ge HI408.out)) | exact HB.out))) : w.heap.size ≤ gb417)); have n5_ := τp ((by rw [hg]; exact (below_size (by repeat (first | (with_reducible first | exact HB.out | apply τj | apply τh | apply τi | refine τg ?_ (IsS86.ge HI408.out)) | exact HB.out))) : w.heap.size ≤ gb417)); have n6_ := τp ((by rw [hg]; exact Nat.ne_of_lt (IsS86.lt (show IsS86 w _ g408 t405 t415 t416 from by repeat (first | (with_reducible first | exact HI408.out | apply IsS86.alloc | apply IsS86.drewN | apply IsS86.drew | apply IsS86.set_1 | apply IsS86.set_2) | exact HI408.out))) : g408 ≠ gb417)); have n7_ := τp ((by rw [hg]; exact Nat.ne_of_gt (IsS86.lt (show IsS86 w _ g408 t405 t415 t416 from by repeat (first | (with_reducible first | exact HI408.out | apply IsS86.alloc | apply IsS86.drewN | apply IsS86.drew | apply IsS86.set_1 | apply IsS86.set_2) | exact HI408.out))) : gb417 ≠ g408)); clear HO414; clear HI408; clear HB; have HO414 := n0_; have HI408 := n1_; have HB := n2_; have BK417 := n3_; have GW417 := n4_; have GE417 := n5_; have NB408_417 := n6_; have NB417_408 := n7_; clear n0_ n1_ n2_ n3_ n4_ n5_ n6_ n7_; clear hb hbox hg; have hnb7 := NB417_408.out; have hnc7 := NB408_417.out; have hcz8_0 : w6.cell? ⟨gb417, 0, none⟩ = some (.int .i64 0) := (blk_cell BK417.out 0).trans rfl; have hcz8_1 : w6.cell? ⟨gb417, 1, none⟩ = some (.int .i64 0) := (blk_cell BK417.out 1).trans rfl; have hcz8_2 : w6.cell? ⟨gb417, 2, none⟩ = some (.int .i64 0) := (blk_cell BK417.out 2).trans rfl; have hfz8_0 := blk_frozen BK417.out 0; have hfz8_1 := blk_frozen BK417.out 1; have hfz8_2 := blk_frozen BK417.out 2))
 go_ret
 exact ⟨_, by first | rfl | (simp [errW_none, errW_some] <;> rfl) | (simp [*, errW_none, errW_some] <;> rfl), by (with_reducible repeat (first | apply τd | apply τe | apply τf)); exact Kd.R_mono (Kd.R_far (p := ⟨gb417, 2, none⟩) (Kd.R_far (p := ⟨gb417, 1, none⟩) (Kd.R_far (p := ⟨gb417, 0, none⟩) (Kd.R_types HO414.out BK417.out (by decide)) (fun _ hk => hk.2) (.int .i64 t409)) (fun _ hk => hk.2) (.int .i64 t410)) (fun _ hk => hk.2) (.int .i64 t411)) (fun _ hk => trivial), by repeat (first | (with_reducible first | exact HB.out | apply τj | apply τh | apply τi | refine τg ?_ (IsS86.ge HI408.out) | refine τg ?_ GE417.out) | exact HB.out)⟩

/-! ### laws_contains: function 38 -/
def laws_contains.l0 : Nat → List Int → Int → Int → Option (Bool)
 | 0, _, _, _ => none
 | k + 1, x0, x1, x5 => if x5 < (x0.length : Int) then (if 0 ≤ x5 then (if (rd x0 x5) = x1 then (some true) else (laws_contains.l0 k x0 x1 (wrap64 (x5 + 1)))) else (none)) else (some false)
def laws_contains.f (k : Nat) (l0 : List Int) (a1 : Int) : Option (Bool) := laws_contains.l0 k l0 a1 0
theorem laws_contains.mono_l : ∀ k, (∀ y0 y1 y2, LeO (laws_contains.l0 k y0 y1 y2) (laws_contains.l0 (k + 1) y0 y1 y2))
 | 0 => fun _ _ _ r h => by simp [laws_contains.l0] at h
 | k + 1 => by
  have ih0 := laws_contains.mono_l k
  intro y0 y1 y2
  unfold laws_contains.l0
  repeat' first
  | (with_reducible exact ih0 _ _ _)
  | (with_reducible exact LeO.refl _)
  | (with_reducible exact LeO.none _)
  | (with_reducible refine LeO.ite ?_ ?_)
  | (with_reducible refine LeO.bind ?_ (fun _ => ?_))
  | exact ih0 _ _ _
  | exact LeO.none _
  | refine LeO.ite ?_ ?_
  | refine LeO.bind ?_ (fun _ => ?_)
theorem laws_contains.mono : ∀ a0 a1 k, LeO (laws_contains.f k a0 a1) (laws_contains.f (k + 1) a0 a1) := by
 intro a0 a1 k
 have ih0 := laws_contains.mono_l k
 unfold laws_contains.f
 repeat' first
   | (with_reducible exact ih0 _ _ _)
   | (with_reducible exact LeO.refl _)
   | (with_reducible exact LeO.none _)
   | (with_reducible refine LeO.ite ?_ ?_)
   | (with_reducible refine LeO.bind ?_ (fun _ => ?_))
   | exact ih0 _ _ _
   | exact LeO.none _
   | refine LeO.ite ?_ ?_
   | refine LeO.bind ?_ (fun _ => ?_)
set_option maxHeartbeats 8000000 in
set_option maxRecDepth 100000 in
theorem laws_contains.calls (k : Nat) (A0 : Option Addr) (c0 : Nat) (l0 : List Int) (a1 : Int) (r : Bool) (w : World) (hr0 : Kd.C (Kd.int .i64) w A0 l0.length l0) (hc0 : l0.length ≤ c0) (h : laws_contains.f k l0 a1 = some r) :
  Calls Try.prog 38 #[.slice A0 l0.length c0, .int .i64 a1] w fun e w' => e = .returned (.bool r) ∧ Drawn0 w w' := by
 have HR0 := τp hr0
 have HC0 := τp hc0
 clear hr0 hc0
 have H : (laws_contains.l0 k l0 a1 0) = some r := h
 clear h
 have H' := τp H
 clear H
 go_enter Try.func38, Try.ntmps38
 go_wp2
 go_loopg [5] k (fun kq v5 w' => ∃ (x5_1 : Int), v5 = .int .i64 x5_1 ∧ Aside0 (laws_contains.l0 kq l0 a1 x5_1 = some r) ∧ Aside0 (kq ≤ k) ∧ Drawn0 w w')
 case atStart => exact ⟨(0), (by first | rfl | (simp; done) | (simp [*]; done)), H', ⟨Nat.le_refl _⟩, by repeat (first | exact Drawn0.refl _ | apply Drawn0.step)⟩
 case round =>
  clear H'
  try clear p2
  obtain ⟨x5_1, rfl, HA, HK1, ⟨m1, rfl⟩⟩ := hrel
  cases gk with
  | zero => exact absurd HA.out (by simp [laws_contains.l0])
  | succ k1 =>
   have H := HA.out
   clear HA
   simp only [laws_contains.l0] at H
   by_cases c3 : x5_1 < (l0.length : Int)
   ·
    rw [if_pos c3] at H
    have c3b0 : decide (x5_1 < (l0.length : Int)) = true := decide_eq_true c3
    clear c3
    by_cases c4 : 0 ≤ x5_1
    ·
     rw [if_pos c4] at H
     have c4b0 : decide (0 ≤ x5_1) = true := decide_eq_true c4
     clear c4
     by_cases c5 : (rd l0 x5_1) = a1
     ·
      rw [if_pos c5] at H
      have c5b0 : ((rd l0 x5_1) == a1) = true := beq_iff_eq.mpr c5
      have c5b1 : ((rd l0 x5_1) != a1) = false := bne_eq_false_iff_eq.mpr c5
      clear c5
      obtain rfl := Option.some.inj H
      have p418 : 0 ≤ (x5_1 : Int) := of_decide_eq_true (by first | (with_reducible assumption) | assumption)
      have q418 : x5_1 < (l0.length : Int) := of_decide_eq_true (by first | (with_reducible assumption) | assumption)
      obtain ⟨ad418, e418, hx418_0⟩ := Kd.at_int HR0.out x5_1 p418 q418
      cases e418
      replace p418 := eq_true p418
      replace q418 := eq_true q418
      go_wp2
      go_ret
      exact ⟨by first | rfl | (simp; done) | (simp [*]; done), by repeat (first | exact Drawn0.refl _ | apply Drawn0.step)⟩
     rw [if_neg c5] at H
     have c5b0 : ((rd l0 x5_1) == a1) = false := beq_eq_false_iff_ne.mpr c5
     have c5b1 : ((rd l0 x5_1) != a1) = true := bne_iff_ne.mpr c5
     have H' := τp H
     clear H
     have p418 : 0 ≤ (x5_1 : Int) := of_decide_eq_true (by first | (with_reducible assumption) | assumption)
     have q418 : x5_1 < (l0.length : Int) := of_decide_eq_true (by first | (with_reducible assumption) | assumption)
     obtain ⟨ad418, e418, hx418_0⟩ := Kd.at_int HR0.out x5_1 p418 q418
     cases e418
     replace p418 := eq_true p418
     replace q418 := eq_true q418
     go_wp2
     go_roundg k1
     case measure => have := HK1.out; omega
     case rel => exact ⟨(wrap64 (x5_1 + 1)), (by first | rfl | (simp; done) | (simp [*]; done)), H', ⟨by have := HK1.out; omega⟩, by repeat (first | exact Drawn0.refl _ | apply Drawn0.step)⟩
    rw [if_neg c4] at H
    exact absurd H (by simp)
   rw [if_neg c3] at H
   have c3b0 : decide (x5_1 < (l0.length : Int)) = false := decide_eq_false c3
   clear c3
   obtain rfl := Option.some.inj H
   go_wp2
   go_ret
   exact ⟨by first | rfl | (simp; done) | (simp [*]; done), by repeat (first | exact Drawn0.refl _ | apply Drawn0.step)⟩

/-! ### laws_ascends: function 39 -/
def laws_ascends.l0 : Nat → List Int → Int → Option (Bool)
 | 0, _, _ => none
 | k + 1, x0, x3 => if x3 < (x0.length : Int) then (if 0 ≤ (wrap64 (x3 - 1)) then (if (wrap64 (x3 - 1)) < (x0.length : Int) then (if 0 ≤ x3 then (if (rd x0 (wrap64 (x3 - 1))) ≥ (rd x0 x3) then (some false) else (laws_ascends.l0 k x0 (wrap64 (x3 + 1)))) else (none)) else (none)) else (none)) else (some true)
def laws_ascends.f (k : Nat) (l0 : List Int) : Option (Bool) := laws_ascends.l0 k l0 1
theorem laws_ascends.mono_l : ∀ k, (∀ y0 y1, LeO (laws_ascends.l0 k y0 y1) (laws_ascends.l0 (k + 1) y0 y1))
 | 0 => fun _ _ r h => by simp [laws_ascends.l0] at h
 | k + 1 => by
  have ih0 := laws_ascends.mono_l k
  intro y0 y1
  unfold laws_ascends.l0
  repeat' first
  | (with_reducible exact ih0 _ _)
  | (with_reducible exact LeO.refl _)
  | (with_reducible exact LeO.none _)
  | (with_reducible refine LeO.ite ?_ ?_)
  | (with_reducible refine LeO.bind ?_ (fun _ => ?_))
  | exact ih0 _ _
  | exact LeO.none _
  | refine LeO.ite ?_ ?_
  | refine LeO.bind ?_ (fun _ => ?_)
theorem laws_ascends.mono : ∀ a0 k, LeO (laws_ascends.f k a0) (laws_ascends.f (k + 1) a0) := by
 intro a0 k
 have ih0 := laws_ascends.mono_l k
 unfold laws_ascends.f
 repeat' first
   | (with_reducible exact ih0 _ _)
   | (with_reducible exact LeO.refl _)
   | (with_reducible exact LeO.none _)
   | (with_reducible refine LeO.ite ?_ ?_)
   | (with_reducible refine LeO.bind ?_ (fun _ => ?_))
   | exact ih0 _ _
   | exact LeO.none _
   | refine LeO.ite ?_ ?_
   | refine LeO.bind ?_ (fun _ => ?_)
set_option maxHeartbeats 8000000 in
set_option maxRecDepth 100000 in
theorem laws_ascends.calls (k : Nat) (A0 : Option Addr) (c0 : Nat) (l0 : List Int) (r : Bool) (w : World) (hr0 : Kd.C (Kd.int .i64) w A0 l0.length l0) (hc0 : l0.length ≤ c0) (h : laws_ascends.f k l0 = some r) :
  Calls Try.prog 39 #[.slice A0 l0.length c0] w fun e w' => e = .returned (.bool r) ∧ Drawn0 w w' := by
 have HR0 := τp hr0
 have HC0 := τp hc0
 clear hr0 hc0
 have H : (laws_ascends.l0 k l0 1) = some r := h
 clear h
 have H' := τp H
 clear H
 go_enter Try.func39, Try.ntmps39
 go_wp2
 repeat (go_quiet (fail); try go_wp2)
 go_loopg [3] k (fun kq v3 w' => ∃ (x3_1 : Int), v3 = .int .i64 x3_1 ∧ Aside0 (laws_ascends.l0 kq l0 x3_1 = some r) ∧ Aside0 (kq ≤ k) ∧ Drawn0 w w')
 case atStart => exact ⟨(1), (by first | rfl | (simp; done) | (simp [*]; done)), H', ⟨Nat.le_refl _⟩, by repeat (first | exact Drawn0.refl _ | apply Drawn0.step)⟩
 case round =>
  clear H'
  obtain ⟨x3_1, rfl, HA, HK1, ⟨m1, rfl⟩⟩ := hrel
  cases gk with
  | zero => exact absurd HA.out (by simp [laws_ascends.l0])
  | succ k1 =>
   have H := HA.out
   clear HA
   simp only [laws_ascends.l0] at H
   by_cases c2 : x3_1 < (l0.length : Int)
   ·
    rw [if_pos c2] at H
    have c2b0 : decide (x3_1 < (l0.length : Int)) = true := decide_eq_true c2
    clear c2
    obtain ⟨ji3, hji3⟩ : ∃ j_ : Int, (wrap64 (x3_1 - 1)) = j_ := ⟨_, rfl⟩
    replace H : (if 0 ≤ (ji3) then (if (ji3) < (l0.length : Int) then (if 0 ≤ x3_1 then (if (rd l0 (ji3)) ≥ (rd l0 x3_1) then (some false) else (laws_ascends.l0 k1 l0 (wrap64 (x3_1 + 1)))) else (none)) else (none)) else (none)) = some r := by first | (rw [hji3] at H; exact H) | (simp only [hji3] at H ⊢; exact H)
    have hji3w : (IntKind.i64.wrap (x3_1 - 1)) = ji3 := (i64_w _).trans hji3
    by_cases c4 : 0 ≤ (ji3)
    ·
     rw [if_pos c4] at H
     have c4b0 : decide (0 ≤ (ji3)) = true := decide_eq_true c4
     clear c4
     by_cases c5 : (ji3) < (l0.length : Int)
     ·
      rw [if_pos c5] at H
      have c5b0 : decide ((ji3) < (l0.length : Int)) = true := decide_eq_true c5
      clear c5
      by_cases c6 : 0 ≤ x3_1
      ·
       rw [if_pos c6] at H
       have c6b0 : decide (0 ≤ x3_1) = true := decide_eq_true c6
       clear c6
       by_cases c7 : (rd l0 (ji3)) ≥ (rd l0 x3_1)
       ·
        rw [if_pos c7] at H
        have c7b0 : decide ((rd l0 x3_1) ≤ (rd l0 (ji3))) = true := decide_eq_true c7
        clear c7
        obtain rfl := Option.some.inj H
        have p419 : 0 ≤ ((ji3) : Int) := of_decide_eq_true (by first | (with_reducible assumption) | assumption)
        have q419 : (ji3) < (l0.length : Int) := of_decide_eq_true (by first | (with_reducible assumption) | assumption)
        obtain ⟨ad419, e419, hx419_0⟩ := Kd.at_int HR0.out (ji3) p419 q419
        cases e419
        replace p419 := eq_true p419
        replace q419 := eq_true q419
        have p420 : 0 ≤ (x3_1 : Int) := of_decide_eq_true (by first | (with_reducible assumption) | assumption)
        have q420 : x3_1 < (l0.length : Int) := of_decide_eq_true (by first | (with_reducible assumption) | assumption)
        obtain ⟨ad420, e420, hx420_0⟩ := Kd.at_int HR0.out x3_1 p420 q420
        obtain rfl : ad419 = ad420 := (by injection e420)
        replace p420 := eq_true p420
        replace q420 := eq_true q420
        go_wp2
        repeat (go_quiet (fail); try go_wp2)
        go_ret
        exact ⟨by first | rfl | (simp; done) | (simp only [← hji3] <;> (first | rfl | simp)) | (simp [*]; done), by repeat (first | exact Drawn0.refl _ | apply Drawn0.step)⟩
       rw [if_neg c7] at H
       have c7b0 : decide ((rd l0 x3_1) ≤ (rd l0 (ji3))) = false := decide_eq_false c7
       clear c7
       have H' := τp H
       clear H
       have p419 : 0 ≤ ((ji3) : Int) := of_decide_eq_true (by first | (with_reducible assumption) | assumption)
       have q419 : (ji3) < (l0.length : Int) := of_decide_eq_true (by first | (with_reducible assumption) | assumption)
       obtain ⟨ad419, e419, hx419_0⟩ := Kd.at_int HR0.out (ji3) p419 q419
       cases e419
       replace p419 := eq_true p419
       replace q419 := eq_true q419
       have p420 : 0 ≤ (x3_1 : Int) := of_decide_eq_true (by first | (with_reducible assumption) | assumption)
       have q420 : x3_1 < (l0.length : Int) := of_decide_eq_true (by first | (with_reducible assumption) | assumption)
       obtain ⟨ad420, e420, hx420_0⟩ := Kd.at_int HR0.out x3_1 p420 q420
       obtain rfl : ad419 = ad420 := (by injection e420)
       replace p420 := eq_true p420
       replace q420 := eq_true q420
       go_wp2
       repeat (go_quiet (fail); try go_wp2)
       go_roundg k1
       case measure => have := HK1.out; omega
       case rel => exact ⟨(wrap64 (x3_1 + 1)), (by first | rfl | (simp; done) | (simp [*]; done)), H', ⟨by have := HK1.out; omega⟩, by repeat (first | exact Drawn0.refl _ | apply Drawn0.step)⟩
      rw [if_neg c6] at H
      exact absurd H (by simp)
     rw [if_neg c5] at H
     exact absurd H (by simp)
    rw [if_neg c4] at H
    exact absurd H (by simp)
   rw [if_neg c2] at H
   have c2b0 : decide (x3_1 < (l0.length : Int)) = false := decide_eq_false c2
   clear c2
   obtain rfl := Option.some.inj H
   go_wp2
   repeat (go_quiet (fail); try go_wp2)
   go_ret
   exact ⟨by first | rfl | (simp; done) | (simp [*]; done), by repeat (first | exact Drawn0.refl _ | apply Drawn0.step)⟩

end Go.Proofs.Ytimikonnmcgljaa.QFnOffers
