-- Laid by this session's own program (wip/myprint.py), the kit's printer its engine; turned by hand where that fell. Lean checks it.
import Derived.Test.YtimikonnmcgljaaQFnOffersx0
import Derived.Test.YtimikonnmcgljaaQFnOffersx11
import Derived.Test.YtimikonnmcgljaaQFnOffersx12
namespace Go.Proofs.Ytimikonnmcgljaa.QFnOffers
open Go.RowKit Go.Proofs.YtimikonnmcgljaaW.PrintWords Go.Proofs.YtimikonnmcgljaaW.PrintLast Go.Proofs.YtimikonnmcgljaaW.PrintMore
attribute [local go_sem] max2_int min2_int max_two min_two max_three min_three max_four min_four   -- for this text's walks alone
set_option linter.unusedVariables false
set_option linter.unusedSimpArgs false

/-! ### spec_MakeOffer: function 31 -/
def spec_MakeOffer.f (k : Nat) (a0_0 : Int) (a0_1 : Int) (a0_2 : Int) (l1 : List (S46)) (a2_0 : Int) (a2_1 : Int) (a2_2 : Bool) : Option ((List (S46)) × Bool) := (some (([] : List (S46)) : List (S46))).bind fun y306 => (if y306.length + l1.length < 5864062014805 then ((some (y306 ++ l1 : List (S46))).bind fun y309 => ((some (([(⟨a2_0, a2_1, a2_2⟩ : S46)] : List (S46)) : List (S46))).bind fun y312 => (if y309.length + y312.length < 5864062014805 then ((some (y309 ++ y312 : List (S46))).bind fun y315 => ((spec_AreOffers.f k a0_0 a0_1 a0_2 y315).bind fun t318 => (if t318 = true then (some (y315, true)) else ((some (([] : List (S46)) : List (S46))).bind fun y319 => (if y319.length + l1.length < 5864062014805 then (some ((y319 ++ l1), false)) else (none)))))) else (none)))) else (none))
theorem spec_MakeOffer.mono : ∀ a0 a1 a2 a3 a4 a5 a6 k, LeO (spec_MakeOffer.f k a0 a1 a2 a3 a4 a5 a6) (spec_MakeOffer.f (k + 1) a0 a1 a2 a3 a4 a5 a6) := by
 intro a0 a1 a2 a3 a4 a5 a6 k
 unfold spec_MakeOffer.f
 repeat' first
   | (with_reducible exact spec_AreOffers.mono _ _ _ _ _)
   | (with_reducible exact LeO.refl _)
   | (with_reducible exact LeO.none _)
   | (with_reducible refine LeO.ite ?_ ?_)
   | (with_reducible refine LeO.bind ?_ (fun _ => ?_))
   | exact spec_AreOffers.mono _ _ _ _ _
   | exact LeO.none _
   | refine LeO.ite ?_ ?_
   | refine LeO.bind ?_ (fun _ => ?_)
set_option linter.defProp false
def ςa := @blk_drewN
def ςb := @blk_alloc
def ςc := @blk_drew
def ςd := @Kd.R_alloc
def ςe := @Kd.R_drewN
def ςf := @Kd.R_drew
def ςg := @below_set
def ςh := @pw_below_drewN
def ςi := @below_drew1
def ςj := @below_alloc
def ςk := @blk_cell
def ςl := @blk_below
def ςm := @List.setIfInBounds_toArray
def ςn := @List.set_cons_zero
def ςo := @List.set_cons_succ
def ςp := @Aside0.mk
def ςt := @Kd.R_mono
set_option maxHeartbeats 8000000 in
set_option maxRecDepth 100000 in
theorem spec_MakeOffer.calls (k : Nat) (a0_0 : Int) (a0_1 : Int) (a0_2 : Int) (A1 : Option Addr) (c1 : Nat) (l1 : List (S46)) (a2_0 : Int) (a2_1 : Int) (a2_2 : Bool) (r1 : List (S46)) (r2 : Bool) (w : World) (hr1 : Kd.C k46 w A1 l1.length l1) (hc1 : l1.length ≤ c1) (h : spec_MakeOffer.f k a0_0 a0_1 a0_2 l1 a2_0 a2_1 a2_2 = some (r1, r2)) :
  Calls Try.prog 31 #[.agg #[.int .i64 a0_0, .int .i64 a0_1, .int .i64 a0_2], .slice A1 l1.length c1, .agg #[.int .i64 a2_0, .int .i64 a2_1, .bool a2_2]] w fun e w' => ∃ v0_ : Value, e = .returned (.tuple #[v0_, .bool r2]) ∧ Kd.R k46 46 w' w.heap.size (fun _ => True) v0_ r1 ∧ Below w.heap.size w w' := by
 have hu25 := Try.underlying25
 have hu46 := Try.underlying46
 have HR1 := ςp hr1
 have HC1 := ςp hc1
 clear hr1 hc1
 have HB := ςp (Below.refl w.heap.size w)
 have H : ((some (([] : List (S46)) : List (S46))).bind fun y306 => (if y306.length + l1.length < 5864062014805 then ((some (y306 ++ l1 : List (S46))).bind fun y309 => ((some (([(⟨a2_0, a2_1, a2_2⟩ : S46)] : List (S46)) : List (S46))).bind fun y312 => (if y309.length + y312.length < 5864062014805 then ((some (y309 ++ y312 : List (S46))).bind fun y315 => ((spec_AreOffers.f k a0_0 a0_1 a0_2 y315).bind fun t318 => (if t318 = true then (some (y315, true)) else ((some (([] : List (S46)) : List (S46))).bind fun y319 => (if y319.length + l1.length < 5864062014805 then (some ((y319 ++ l1), false)) else (none)))))) else (none)))) else (none))) = some (r1, r2) := h
 clear h
 obtain ⟨y306, hy306⟩ : ∃ y_ : List (S46), y_ = (([] : List (S46))) := ⟨_, rfl⟩
 replace H : (if y306.length + l1.length < 5864062014805 then ((some (y306 ++ l1 : List (S46))).bind fun y309 => ((some (([(⟨a2_0, a2_1, a2_2⟩ : S46)] : List (S46)) : List (S46))).bind fun y312 => (if y309.length + y312.length < 5864062014805 then ((some (y309 ++ y312 : List (S46))).bind fun y315 => ((spec_AreOffers.f k a0_0 a0_1 a0_2 y315).bind fun t318 => (if t318 = true then (some (y315, true)) else ((some (([] : List (S46)) : List (S46))).bind fun y319 => (if y319.length + l1.length < 5864062014805 then (some ((y319 ++ l1), false)) else (none)))))) else (none)))) else (none)) = some (r1, r2) := by first | (rw [hy306]; with_reducible exact H) | (have H2_ := (Option.bind_some _ _).symm.trans H; rw [hy306]; with_reducible exact H2_) | (have H2_ := (Option.bind_some _ _).symm.trans H; with_reducible exact H2_) | with_reducible exact H | (rw [hy306]; exact H) | exact H
 have Ny306 := ςp hy306
 clear hy306
 by_cases c4 : y306.length + l1.length < 5864062014805
 ·
  rw [if_pos c4] at H
  have LMc4 := ςp c4
  clear c4
  obtain ⟨y309, hy309⟩ : ∃ y_ : List (S46), y_ = (y306 ++ l1) := ⟨_, rfl⟩
  replace H : ((some (([(⟨a2_0, a2_1, a2_2⟩ : S46)] : List (S46)) : List (S46))).bind fun y312 => (if y309.length + y312.length < 5864062014805 then ((some (y309 ++ y312 : List (S46))).bind fun y315 => ((spec_AreOffers.f k a0_0 a0_1 a0_2 y315).bind fun t318 => (if t318 = true then (some (y315, true)) else ((some (([] : List (S46)) : List (S46))).bind fun y319 => (if y319.length + l1.length < 5864062014805 then (some ((y319 ++ l1), false)) else (none)))))) else (none))) = some (r1, r2) := by first | (rw [hy309]; with_reducible exact H) | (have H2_ := (Option.bind_some _ _).symm.trans H; rw [hy309]; with_reducible exact H2_) | (have H2_ := (Option.bind_some _ _).symm.trans H; with_reducible exact H2_) | with_reducible exact H | (rw [hy309]; exact H) | exact H
  have Ny309 := ςp hy309
  clear hy309
  obtain ⟨y312, hy312⟩ : ∃ y_ : List (S46), y_ = (([(⟨a2_0, a2_1, a2_2⟩ : S46)] : List (S46))) := ⟨_, rfl⟩
  replace H : (if y309.length + y312.length < 5864062014805 then ((some (y309 ++ y312 : List (S46))).bind fun y315 => ((spec_AreOffers.f k a0_0 a0_1 a0_2 y315).bind fun t318 => (if t318 = true then (some (y315, true)) else ((some (([] : List (S46)) : List (S46))).bind fun y319 => (if y319.length + l1.length < 5864062014805 then (some ((y319 ++ l1), false)) else (none)))))) else (none)) = some (r1, r2) := by first | (rw [hy312]; with_reducible exact H) | (have H2_ := (Option.bind_some _ _).symm.trans H; rw [hy312]; with_reducible exact H2_) | (have H2_ := (Option.bind_some _ _).symm.trans H; with_reducible exact H2_) | with_reducible exact H | (rw [hy312]; exact H) | exact H
  have Ny312 := ςp hy312
  clear hy312
  by_cases c5 : y309.length + y312.length < 5864062014805
  ·
   rw [if_pos c5] at H
   have LMc5 := ςp c5
   clear c5
   obtain ⟨y315, hy315⟩ : ∃ y_ : List (S46), y_ = (y309 ++ y312) := ⟨_, rfl⟩
   replace H : ((spec_AreOffers.f k a0_0 a0_1 a0_2 y315).bind fun t318 => (if t318 = true then (some (y315, true)) else ((some (([] : List (S46)) : List (S46))).bind fun y319 => (if y319.length + l1.length < 5864062014805 then (some ((y319 ++ l1), false)) else (none))))) = some (r1, r2) := by first | (rw [hy315]; with_reducible exact H) | (have H2_ := (Option.bind_some _ _).symm.trans H; rw [hy315]; with_reducible exact H2_) | (have H2_ := (Option.bind_some _ _).symm.trans H; with_reducible exact H2_) | with_reducible exact H | (rw [hy315]; exact H) | exact H
   have Ny315 := ςp hy315
   clear hy315
   replace H := Option.bind_eq_some_iff.mp H
   obtain ⟨t318, A60, H⟩ := H
   try dsimp only at H
   have A6 := ςp A60
   clear A60
   by_cases c7 : t318 = true
   ·
    subst c7
    rw [if_pos rfl] at H
    simp only [Option.some.injEq, Prod.mk.injEq] at H
    obtain ⟨rfl, rfl⟩ := H
    go_enter Try.func31, Try.ntmps31
    try go_wp2_with (first | ((with_reducible refine gate_dst (N := 3) rfl ?_); refine box_event ?hg (N := 3) ?hd (cs := #[.int .i64 a0_0, .int .i64 a0_1, .int .i64 a0_2]) (t := 25) ?hr ?_; (case hd => rfl); (case hg => rfl); (case hr => first | (go_simp; done) | (go_simp; rfl)); intro gb304 hg w8 hbox hb; have n0_ := ςp (below_step (by repeat (first | (with_reducible first | exact HB.out | apply ςj | apply ςh | apply ςi) | exact HB.out)) hb); have n1_ := ςp (hbox); have n2_ := ςp ((by rw [hg]; exact (below_size (by repeat (first | (with_reducible first | exact HB.out | apply ςj | apply ςh | apply ςi) | exact HB.out))) : w.heap.size ≤ gb304)); have n3_ := ςp ((by rw [hg]; exact (below_size (by repeat (first | (with_reducible first | exact HB.out | apply ςj | apply ςh | apply ςi) | exact HB.out))) : w.heap.size ≤ gb304)); clear HB; have HB := n0_; have BK304 := n1_; have GW304 := n2_; have GE304 := n3_; clear n0_ n1_ n2_ n3_; clear hb hbox hg) | ((with_reducible refine gate_dst (N := 5) rfl ?_); refine box_event ?hg (N := 5) ?hd (cs := #[.int .i64 a2_0, .int .i64 a2_1, .bool a2_2]) (t := 46) ?hr ?_; (case hd => rfl); (case hg => rfl); (case hr => first | (go_simp; done) | (go_simp; rfl)); intro gb305 hg w9 hbox hb; have n0_ := ςp (ςl (g := gb304) (o := .cells #[.int .i64 a0_0, .int .i64 a0_1, .int .i64 a0_2] 25 (0, 0)) (by (with_reducible repeat (first | refine ςa ?_ _ | refine ςc ?_ | refine ςb ?_ _)); exact BK304.out) hb); have n1_ := ςp (below_step (by repeat (first | (with_reducible first | exact HB.out | apply ςj | apply ςh | apply ςi | refine ςg ?_ GE304.out) | exact HB.out)) hb); have n2_ := ςp (hbox); have n3_ := ςp ((by rw [hg]; exact (below_size (by repeat (first | (with_reducible first | exact HB.out | apply ςj | apply ςh | apply ςi | refine ςg ?_ GE304.out) | exact HB.out))) : w.heap.size ≤ gb305)); have n4_ := ςp ((by rw [hg]; exact (below_size (by repeat (first | (with_reducible first | exact HB.out | apply ςj | apply ςh | apply ςi | refine ςg ?_ GE304.out) | exact HB.out))) : w.heap.size ≤ gb305)); have n5_ := ςp ((by rw [hg]; exact Nat.ne_of_lt (blk_lt (g := gb304) (o := .cells #[.int .i64 a0_0, .int .i64 a0_1, .int .i64 a0_2] 25 (0, 0)) (by (with_reducible repeat (first | refine ςa ?_ _ | refine ςc ?_ | refine ςb ?_ _)); exact BK304.out)) : gb304 ≠ gb305)); have n6_ := ςp ((by rw [hg]; exact Nat.ne_of_gt (blk_lt (g := gb304) (o := .cells #[.int .i64 a0_0, .int .i64 a0_1, .int .i64 a0_2] 25 (0, 0)) (by (with_reducible repeat (first | refine ςa ?_ _ | refine ςc ?_ | refine ςb ?_ _)); exact BK304.out)) : gb305 ≠ gb304)); clear BK304; clear HB; have BK304 := n0_; have HB := n1_; have BK305 := n2_; have GW305 := n3_; have GE305 := n4_; have NB304_305 := n5_; have NB305_304 := n6_; clear n0_ n1_ n2_ n3_ n4_ n5_ n6_; clear hb hbox hg))
    have n0_ := ςp (ςc BK304.out)
    have n1_ := ςp (ςc BK305.out)
    have n2_ := ςp (ςi HB.out)
    clear BK304
    clear BK305
    clear HB
    have BK304 := n0_
    have BK305 := n1_
    have HB := n2_
    clear n0_ n1_ n2_
    refine start_ (n := 7) (S := fun w' => w'.cell? ⟨gb305, 0, none⟩ = some (.int .i64 a2_0) ∧ w'.cell? ⟨gb305, 1, none⟩ = some (.int .i64 a2_1) ∧ w'.cell? ⟨gb305, 2, none⟩ = some (.bool a2_2)) (ds := []) #[false, false, false, false, false, false, false] (by kernel_rfl) rfl rfl ⟨(ςk BK305.out 0).trans rfl, (ςk BK305.out 1).trans rfl, (ςk BK305.out 2).trans rfl⟩ (fun hHeld => ?_)
    generalize w9.drew = w10 at BK304 BK305 HB hHeld ⊢
    refine pure_ (i := 1) (N := some 10) (v := ?_) (a' := ?_) #[false, true, false, false, false, false, false] rfl rfl (by kernel_rfl) (fun _ _ _ h => h) (Or.inl ⟨by rfl, ?_⟩) ?_ ?_
    rotate_left; · (intro w'; go_simp; with_reducible rfl)
    rotate_left; · (simp only [Act.put, ςm, ςn, ςo, i64_w, i32_w]; rfl)
    refine take_ (i := 3) (N := some 12) (v := ?_) (a' := ?_) #[false, true, false, true, false, false, false] rfl rfl (by kernel_rfl) (fun _ _ _ h => h) (Or.inl ⟨by rfl, ?_⟩) hHeld ?_ ?_
    rotate_left
    ·
     rintro w' ⟨s0, s1, s2⟩
     go_simp
     with_reducible rfl
    rotate_left
    ·
     simp only [Act.put, ςm, ςn, ςo, i64_w, i32_w]
     rfl
    refine join_ (σ := Value × Value × Value) 2 #[true, true, true, true, true, false, false] (fun s_ => [(9, s_.1), (11, s_.2.1), (13, s_.2.2)]) (fun s_ w' => (w'.cell? ⟨gb305, 0, none⟩ = some (.int .i64 a2_0) ∧ w'.cell? ⟨gb305, 1, none⟩ = some (.int .i64 a2_1) ∧ w'.cell? ⟨gb305, 2, none⟩ = some (.bool a2_2)) ∧ (Kd.R k46 46 w' w.heap.size (fun k_ => some k_ ≠ (s_.2.2 : Value).ownBlock ∧ k_ ≠ gb305) s_.2.1 y309) ∧ (Kd.R k46 46 w' w.heap.size (fun k_ => some k_ ≠ (s_.2.1 : Value).ownBlock ∧ k_ ≠ gb305) s_.2.2 y312) ∧ (w'.heap[gb304]? = some (.cells #[.int .i64 a0_0, .int .i64 a0_1, .int .i64 a0_2] 25 (0, 0))) ∧ (w'.heap[gb305]? = some (.cells #[.int .i64 a2_0, .int .i64 a2_1, .bool a2_2] 46 (0, 0))) ∧ (Below w.heap.size w w')) ?_ ?_
    rotate_left
    ·
     intro hCont
     refine two_ (i := 0) (j := 4) (Ni := some 9) (Nj := some 13) #[true, true, false, true, false, false, false] #[false, true, false, true, true, false, false] rfl rfl rfl rfl (by kernel_rfl) (by decide) (by decide) (fun K hK => ?_) (fun K hK => ?_)
     ·
      skip
      refine Kd.R_lit_step k46 _ 46 ?hg (N := 9) ?hd (xs := ([] : List (S46))) (inner := []) (ok := fun _ => True) (okp := fun _ => True) ?hr ?hp (fun _ hk => hk) trivial (Below.refl _ _) (Nat.le_refl _) (by simp) ?_; (case hd => rfl); (case hg => rfl); (case hr => first | (go_simp; done) | (go_simp; rfl)); (case hp => exact (Reps.none _ _))
      intro v307 w11 ho12 hb hg_ hnew_
      clear hg_ hnew_
      (first | rw [← Ny306.out] at ho12 | (simp only [Int.reduceToNat] at ho12; rw [← Ny306.out] at ho12))
      have n0_ := ςp (Kd.R_lower (Kd.R_newB ho12 (g := gb305) (o := .cells #[.int .i64 a2_0, .int .i64 a2_1, .bool a2_2] 46 (0, 0)) (by (with_reducible repeat (first | refine ςa ?_ _ | refine ςc ?_ | refine ςb ?_ _)); exact BK305.out)) (below_size (by repeat (first | (with_reducible first | exact HB.out | apply ςj | apply ςh | apply ςi | refine ςg ?_ GE304.out | refine ςg ?_ GE305.out) | exact HB.out))))
      have n1_ := ςp (ςl (g := gb304) (o := .cells #[.int .i64 a0_0, .int .i64 a0_1, .int .i64 a0_2] 25 (0, 0)) (by (with_reducible repeat (first | refine ςa ?_ _ | refine ςc ?_ | refine ςb ?_ _)); exact BK304.out) hb)
      have n2_ := ςp (ςl (g := gb305) (o := .cells #[.int .i64 a2_0, .int .i64 a2_1, .bool a2_2] 46 (0, 0)) (by (with_reducible repeat (first | refine ςa ?_ _ | refine ςc ?_ | refine ςb ?_ _)); exact BK305.out) hb)
      have n3_ := ςp (below_step (by repeat (first | (with_reducible first | exact HB.out | apply ςj | apply ςh | apply ςi | refine ςg ?_ GE304.out | refine ςg ?_ GE305.out) | exact HB.out)) hb)
      clear BK304
      clear BK305
      clear HB
      have HO308 := n0_
      have BK304 := n1_
      have BK305 := n2_
      have HB := n3_
      clear n0_ n1_ n2_ n3_
      clear hb ho12
      refine hK.out _ _ ⟨(ςk BK305.out 0).trans rfl, (ςk BK305.out 1).trans rfl, (ςk BK305.out 2).trans rfl⟩ (fun hHeld => ?_)
      clear hK K
      refine norm_ (a' := ?_) ?_ ?_
      rotate_left
      ·
       show Act.put _ (some 9) _ = _
       simp only [Act.put, ςm, ςn, ςo, i64_w, i32_w]
       rfl
      refine two_ (i := 2) (j := 4) (Ni := some 11) (Nj := some 13) #[true, true, true, true, false, false, false] #[true, true, false, true, true, false, false] rfl rfl rfl rfl (by kernel_rfl) (by decide) (by decide) (fun K hK => ?_) (fun K hK => ?_)
      ·
       skip
       refine Kd.R_append_rows_step k46 (w0 := w) w.heap.size (by rfl) (.tmp 9) (.tmp 10) 31 46 (.agg #[(.int .i64 0), (.int .i64 0), (.bool false)]) 24 rfl Try.underlying31 info46 rfl (by decide) (by omega) v307 y306 l1 _ _ _ (fun k_ => k_ ≠ gb305) (fun _ => False) rfl rfl ?aO ?aR (fun _ _ h => h) (fun _ h => h.elim) ?aF ?aB ?aS ?aL ?_
       (case aR => repeat (first | exact (Kd.C_below HR1.out HB.out) | (with_reducible refine Kd.C_alloc ?_ _) | (with_reducible refine Kd.C_drewN ?_ _) | (with_reducible refine Kd.C_drew ?_)))
       (case aB => exact (by repeat (first | (with_reducible first | exact HB.out | apply ςj | apply ςh | apply ςi | refine ςg ?_ GE304.out | refine ςg ?_ GE305.out) | exact HB.out)))
       (case aF => exact (fun k_ hk => Kd.freshB (g := gb305) (o := .cells #[.int .i64 a2_0, .int .i64 a2_1, .bool a2_2] 46 (0, 0)) (by (with_reducible repeat (first | refine ςa ?_ _ | refine ςc ?_ | refine ςb ?_ _)); exact BK305.out) k_ hk))
       (case aO => exact (by (with_reducible repeat (first | apply ςd | apply ςe | apply ςf)); exact ςt HO308.out (fun _ hk => hk.2)))
       (case aS => exact (below_size (by repeat (first | (with_reducible first | exact HB.out | apply ςj | apply ςh | apply ςi | refine ςg ?_ GE304.out | refine ςg ?_ GE305.out) | exact HB.out))))
       (case aL => have := LMc4.out; omega)
       intro v310 w13 ho hb hg hat
       rw [← Ny309.out] at ho
       have n0_ := ςp (blk_grown (g := gb304) (o := .cells #[.int .i64 a0_0, .int .i64 a0_1, .int .i64 a0_2] 25 (0, 0)) (by (with_reducible repeat (first | refine ςa ?_ _ | refine ςc ?_ | refine ςb ?_ _)); exact BK304.out) hg (Kd.R_ne HO308.out BK304.out (by decide)))
       have n1_ := ςp (blk_grown (g := gb305) (o := .cells #[.int .i64 a2_0, .int .i64 a2_1, .bool a2_2] 46 (0, 0)) (by (with_reducible repeat (first | refine ςa ?_ _ | refine ςc ?_ | refine ςb ?_ _)); exact BK305.out) hg (Kd.R_away HO308.out (fun _ hk => hk.2)))
       have n2_ := ςp (hb)
       have n3_ := ςp (ho)
       clear BK304
       clear BK305
       clear HB
       clear HO308
       have BK304 := n0_
       have BK305 := n1_
       have HB := n2_
       have HO311 := n3_
       clear n0_ n1_ n2_ n3_
       clear ho hb hg hat
       refine hK.out _ _ ⟨(ςk BK305.out 0).trans rfl, (ςk BK305.out 1).trans rfl, (ςk BK305.out 2).trans rfl⟩ (fun hHeld => ?_)
       clear hK K
       refine norm_ (a' := ?_) ?_ ?_
       rotate_left
       ·
        show Act.put _ (some 11) _ = _
        simp only [Act.put, ςm, ςn, ςo, i64_w, i32_w]
        rfl
       refine one_ (i := 4) (N := some 13) #[true, true, true, true, true, false, false] rfl rfl (by kernel_rfl) (by decide) (fun K hK => ?_)
       refine Kd.R_lit_step k46 _ 46 ?hg (N := 13) ?hd (xs := ([(⟨a2_0, a2_1, a2_2⟩ : S46)] : List (S46))) (inner := [.int .i64 a2_0, .int .i64 a2_1, .bool a2_2]) (ok := fun _ => True) (okp := fun _ => True) ?hr ?hp (fun _ hk => hk) trivial (Below.refl _ _) (Nat.le_refl _) (by simp) ?_; (case hd => rfl); (case hg => rfl); (case hr => first | (go_simp; done) | (go_simp; rfl)); (case hp => exact (Reps.c3 (show Kd.M k46 _ _ _ (⟨a2_0, a2_1, a2_2⟩ : S46) [.int .i64 a2_0, .int .i64 a2_1, .bool a2_2] from (k46_mkM _ _ _ (⟨a2_0, a2_1, a2_2⟩ : S46) )) (Reps.none _ _)))
       intro v313 w14 ho15 hb hg_ hnew_
       clear hg_ hnew_
       (first | rw [← Ny312.out] at ho15 | (simp only [Int.reduceToNat] at ho15; rw [← Ny312.out] at ho15))
       have n0_ := ςp (Kd.R_elder' (by (with_reducible repeat (first | apply ςd | apply ςe | apply ςf)); exact HO311.out) (Kd.R_base ho15) hb)
       have n1_ := ςp (Kd.R_lower (Kd.R_newB (Kd.R_new' ho15 (Kd.R_lt (by (with_reducible repeat (first | apply ςd | apply ςe | apply ςf)); exact HO311.out))) (g := gb305) (o := .cells #[.int .i64 a2_0, .int .i64 a2_1, .bool a2_2] 46 (0, 0)) (by (with_reducible repeat (first | refine ςa ?_ _ | refine ςc ?_ | refine ςb ?_ _)); exact BK305.out)) (below_size (by repeat (first | (with_reducible first | exact HB.out | apply ςj | apply ςh | apply ςi | refine ςg ?_ GE304.out | refine ςg ?_ GE305.out) | exact HB.out))))
       have n2_ := ςp (ςl (g := gb304) (o := .cells #[.int .i64 a0_0, .int .i64 a0_1, .int .i64 a0_2] 25 (0, 0)) (by (with_reducible repeat (first | refine ςa ?_ _ | refine ςc ?_ | refine ςb ?_ _)); exact BK304.out) hb)
       have n3_ := ςp (ςl (g := gb305) (o := .cells #[.int .i64 a2_0, .int .i64 a2_1, .bool a2_2] 46 (0, 0)) (by (with_reducible repeat (first | refine ςa ?_ _ | refine ςc ?_ | refine ςb ?_ _)); exact BK305.out) hb)
       have n4_ := ςp (below_step (by repeat (first | (with_reducible first | exact HB.out | apply ςj | apply ςh | apply ςi | refine ςg ?_ GE304.out | refine ςg ?_ GE305.out) | exact HB.out)) hb)
       clear HO311
       clear BK304
       clear BK305
       clear HB
       have HO311 := n0_
       have HO314 := n1_
       have BK304 := n2_
       have BK305 := n3_
       have HB := n4_
       clear n0_ n1_ n2_ n3_ n4_
       clear hb ho15
       refine hK.out _ _ ⟨(ςk BK305.out 0).trans rfl, (ςk BK305.out 1).trans rfl, (ςk BK305.out 2).trans rfl⟩ (fun hHeld => ?_)
       clear hK K
       refine norm_ (a' := ?_) ?_ ?_
       rotate_left
       ·
        show Act.put _ (some 13) _ = _
        simp only [Act.put, ςm, ςn, ςo, i64_w, i32_w]
        rfl
       exact norm_ (by simp only [putAll, Act.put, ςm, ςn, ςo]) (hCont (v307, v310, v313) _ ⟨hHeld, (by (with_reducible repeat (first | apply ςd | apply ςe | apply ςf)); exact ςt HO311.out (fun _ hk => ⟨hk.2, hk.1⟩)), (by (with_reducible repeat (first | apply ςd | apply ςe | apply ςf)); exact ςt HO314.out (fun _ hk => ⟨hk.1.2, hk.2⟩)), (by (with_reducible repeat (first | refine ςa ?_ _ | refine ςc ?_ | refine ςb ?_ _)); exact BK304.out), (by (with_reducible repeat (first | refine ςa ?_ _ | refine ςc ?_ | refine ςb ?_ _)); exact BK305.out), (by repeat (first | (with_reducible first | exact HB.out | apply ςj | apply ςh | apply ςi | refine ςg ?_ GE304.out | refine ςg ?_ GE305.out) | exact HB.out))⟩)
      skip
      refine Kd.R_lit_step k46 _ 46 ?hg (N := 13) ?hd (xs := ([(⟨a2_0, a2_1, a2_2⟩ : S46)] : List (S46))) (inner := [.int .i64 a2_0, .int .i64 a2_1, .bool a2_2]) (ok := fun _ => True) (okp := fun _ => True) ?hr ?hp (fun _ hk => hk) trivial (Below.refl _ _) (Nat.le_refl _) (by simp) ?_; (case hd => rfl); (case hg => rfl); (case hr => first | (go_simp; done) | (go_simp; rfl)); (case hp => exact (Reps.c3 (show Kd.M k46 _ _ _ (⟨a2_0, a2_1, a2_2⟩ : S46) [.int .i64 a2_0, .int .i64 a2_1, .bool a2_2] from (k46_mkM _ _ _ (⟨a2_0, a2_1, a2_2⟩ : S46) )) (Reps.none _ _)))
      intro v313 w13 ho14 hb hg_ hnew_
      clear hg_ hnew_
      (first | rw [← Ny312.out] at ho14 | (simp only [Int.reduceToNat] at ho14; rw [← Ny312.out] at ho14))
      have n0_ := ςp (Kd.R_elder' (by (with_reducible repeat (first | apply ςd | apply ςe | apply ςf)); exact HO308.out) (Kd.R_base ho14) hb)
      have n1_ := ςp (Kd.R_lower (Kd.R_newB (Kd.R_new' ho14 (Kd.R_lt (by (with_reducible repeat (first | apply ςd | apply ςe | apply ςf)); exact HO308.out))) (g := gb305) (o := .cells #[.int .i64 a2_0, .int .i64 a2_1, .bool a2_2] 46 (0, 0)) (by (with_reducible repeat (first | refine ςa ?_ _ | refine ςc ?_ | refine ςb ?_ _)); exact BK305.out)) (below_size (by repeat (first | (with_reducible first | exact HB.out | apply ςj | apply ςh | apply ςi | refine ςg ?_ GE304.out | refine ςg ?_ GE305.out) | exact HB.out))))
      have n2_ := ςp (ςl (g := gb304) (o := .cells #[.int .i64 a0_0, .int .i64 a0_1, .int .i64 a0_2] 25 (0, 0)) (by (with_reducible repeat (first | refine ςa ?_ _ | refine ςc ?_ | refine ςb ?_ _)); exact BK304.out) hb)
      have n3_ := ςp (ςl (g := gb305) (o := .cells #[.int .i64 a2_0, .int .i64 a2_1, .bool a2_2] 46 (0, 0)) (by (with_reducible repeat (first | refine ςa ?_ _ | refine ςc ?_ | refine ςb ?_ _)); exact BK305.out) hb)
      have n4_ := ςp (below_step (by repeat (first | (with_reducible first | exact HB.out | apply ςj | apply ςh | apply ςi | refine ςg ?_ GE304.out | refine ςg ?_ GE305.out) | exact HB.out)) hb)
      clear HO308
      clear BK304
      clear BK305
      clear HB
      have HO308 := n0_
      have HO314 := n1_
      have BK304 := n2_
      have BK305 := n3_
      have HB := n4_
      clear n0_ n1_ n2_ n3_ n4_
      clear hb ho14
      refine hK.out _ _ ⟨(ςk BK305.out 0).trans rfl, (ςk BK305.out 1).trans rfl, (ςk BK305.out 2).trans rfl⟩ (fun hHeld => ?_)
      clear hK K
      refine norm_ (a' := ?_) ?_ ?_
      rotate_left
      ·
       show Act.put _ (some 13) _ = _
       simp only [Act.put, ςm, ςn, ςo, i64_w, i32_w]
       rfl
      refine one_ (i := 2) (N := some 11) #[true, true, true, true, true, false, false] rfl rfl (by kernel_rfl) (by decide) (fun K hK => ?_)
      refine Kd.R_append_rows_step k46 (w0 := w) w.heap.size (by rfl) (.tmp 9) (.tmp 10) 31 46 (.agg #[(.int .i64 0), (.int .i64 0), (.bool false)]) 24 rfl Try.underlying31 info46 rfl (by decide) (by omega) v307 y306 l1 _ _ _ (fun k_ => some k_ ≠ (v313 : Value).ownBlock ∧ k_ ≠ gb305) (fun _ => False) rfl rfl ?aO ?aR (fun _ _ h => h) (fun _ h => h.elim) ?aF ?aB ?aS ?aL ?_
      (case aR => repeat (first | exact (Kd.C_below HR1.out HB.out) | (with_reducible refine Kd.C_alloc ?_ _) | (with_reducible refine Kd.C_drewN ?_ _) | (with_reducible refine Kd.C_drew ?_)))
      (case aB => exact (by repeat (first | (with_reducible first | exact HB.out | apply ςj | apply ςh | apply ςi | refine ςg ?_ GE304.out | refine ςg ?_ GE305.out) | exact HB.out)))
      (case aF => exact (fun k_ hk => ⟨Kd.fresh' (Kd.R_lt (by (with_reducible repeat (first | apply ςd | apply ςe | apply ςf)); exact HO314.out)) k_ hk, Kd.freshB (g := gb305) (o := .cells #[.int .i64 a2_0, .int .i64 a2_1, .bool a2_2] 46 (0, 0)) (by (with_reducible repeat (first | refine ςa ?_ _ | refine ςc ?_ | refine ςb ?_ _)); exact BK305.out) k_ hk⟩))
      (case aO => exact (by (with_reducible repeat (first | apply ςd | apply ςe | apply ςf)); exact ςt HO308.out (fun _ hk => ⟨hk.2, hk.1.2⟩)))
      (case aS => exact (below_size (by repeat (first | (with_reducible first | exact HB.out | apply ςj | apply ςh | apply ςi | refine ςg ?_ GE304.out | refine ςg ?_ GE305.out) | exact HB.out))))
      (case aL => have := LMc4.out; omega)
      intro v310 w15 ho hb hg hat
      rw [← Ny309.out] at ho
      have n0_ := ςp (blk_grown (g := gb304) (o := .cells #[.int .i64 a0_0, .int .i64 a0_1, .int .i64 a0_2] 25 (0, 0)) (by (with_reducible repeat (first | refine ςa ?_ _ | refine ςc ?_ | refine ςb ?_ _)); exact BK304.out) hg (Kd.R_ne HO308.out BK304.out (by decide)))
      have n1_ := ςp (blk_grown (g := gb305) (o := .cells #[.int .i64 a2_0, .int .i64 a2_1, .bool a2_2] 46 (0, 0)) (by (with_reducible repeat (first | refine ςa ?_ _ | refine ςc ?_ | refine ςb ?_ _)); exact BK305.out) hg (Kd.R_away HO308.out (fun _ hk => hk.1.2)))
      have n2_ := ςp (Kd.R_after (ok := (fun k_ => k_ ≠ gb305)) (by (with_reducible repeat (first | apply ςd | apply ςe | apply ςf)); exact ςt HO314.out (fun _ hk => ⟨hk.2, hk.1.2⟩)) hg hat)
      have n3_ := ςp (hb)
      have n4_ := ςp (ho)
      clear BK304
      clear BK305
      clear HO314
      clear HB
      clear HO308
      have BK304 := n0_
      have BK305 := n1_
      have HO314 := n2_
      have HB := n3_
      have HO311 := n4_
      clear n0_ n1_ n2_ n3_ n4_
      clear ho hb hg hat
      refine hK.out _ _ ⟨(ςk BK305.out 0).trans rfl, (ςk BK305.out 1).trans rfl, (ςk BK305.out 2).trans rfl⟩ (fun hHeld => ?_)
      clear hK K
      refine norm_ (a' := ?_) ?_ ?_
      rotate_left
      ·
       show Act.put _ (some 11) _ = _
       simp only [Act.put, ςm, ςn, ςo, i64_w, i32_w]
       rfl
      exact norm_ (by simp only [putAll, Act.put, ςm, ςn, ςo]) (hCont (v307, v310, v313) _ ⟨hHeld, (by (with_reducible repeat (first | apply ςd | apply ςe | apply ςf)); exact HO311.out), (by (with_reducible repeat (first | apply ςd | apply ςe | apply ςf)); exact ςt HO314.out (fun _ hk => ⟨hk.2, hk.1⟩)), (by (with_reducible repeat (first | refine ςa ?_ _ | refine ςc ?_ | refine ςb ?_ _)); exact BK304.out), (by (with_reducible repeat (first | refine ςa ?_ _ | refine ςc ?_ | refine ςb ?_ _)); exact BK305.out), (by repeat (first | (with_reducible first | exact HB.out | apply ςj | apply ςh | apply ςi | refine ςg ?_ GE304.out | refine ςg ?_ GE305.out) | exact HB.out))⟩)
     skip
     refine Kd.R_lit_step k46 _ 46 ?hg (N := 13) ?hd (xs := ([(⟨a2_0, a2_1, a2_2⟩ : S46)] : List (S46))) (inner := [.int .i64 a2_0, .int .i64 a2_1, .bool a2_2]) (ok := fun _ => True) (okp := fun _ => True) ?hr ?hp (fun _ hk => hk) trivial (Below.refl _ _) (Nat.le_refl _) (by simp) ?_; (case hd => rfl); (case hg => rfl); (case hr => first | (go_simp; done) | (go_simp; rfl)); (case hp => exact (Reps.c3 (show Kd.M k46 _ _ _ (⟨a2_0, a2_1, a2_2⟩ : S46) [.int .i64 a2_0, .int .i64 a2_1, .bool a2_2] from (k46_mkM _ _ _ (⟨a2_0, a2_1, a2_2⟩ : S46) )) (Reps.none _ _)))
     intro v313 w11 ho12 hb hg_ hnew_
     clear hg_ hnew_
     (first | rw [← Ny312.out] at ho12 | (simp only [Int.reduceToNat] at ho12; rw [← Ny312.out] at ho12))
     have n0_ := ςp (Kd.R_lower (Kd.R_newB ho12 (g := gb305) (o := .cells #[.int .i64 a2_0, .int .i64 a2_1, .bool a2_2] 46 (0, 0)) (by (with_reducible repeat (first | refine ςa ?_ _ | refine ςc ?_ | refine ςb ?_ _)); exact BK305.out)) (below_size (by repeat (first | (with_reducible first | exact HB.out | apply ςj | apply ςh | apply ςi | refine ςg ?_ GE304.out | refine ςg ?_ GE305.out) | exact HB.out))))
     have n1_ := ςp (ςl (g := gb304) (o := .cells #[.int .i64 a0_0, .int .i64 a0_1, .int .i64 a0_2] 25 (0, 0)) (by (with_reducible repeat (first | refine ςa ?_ _ | refine ςc ?_ | refine ςb ?_ _)); exact BK304.out) hb)
     have n2_ := ςp (ςl (g := gb305) (o := .cells #[.int .i64 a2_0, .int .i64 a2_1, .bool a2_2] 46 (0, 0)) (by (with_reducible repeat (first | refine ςa ?_ _ | refine ςc ?_ | refine ςb ?_ _)); exact BK305.out) hb)
     have n3_ := ςp (below_step (by repeat (first | (with_reducible first | exact HB.out | apply ςj | apply ςh | apply ςi | refine ςg ?_ GE304.out | refine ςg ?_ GE305.out) | exact HB.out)) hb)
     clear BK304
     clear BK305
     clear HB
     have HO314 := n0_
     have BK304 := n1_
     have BK305 := n2_
     have HB := n3_
     clear n0_ n1_ n2_ n3_
     clear hb ho12
     refine hK.out _ _ ⟨(ςk BK305.out 0).trans rfl, (ςk BK305.out 1).trans rfl, (ςk BK305.out 2).trans rfl⟩ (fun hHeld => ?_)
     clear hK K
     refine norm_ (a' := ?_) ?_ ?_
     rotate_left
     ·
      show Act.put _ (some 13) _ = _
      simp only [Act.put, ςm, ςn, ςo, i64_w, i32_w]
      rfl
     refine one_ (i := 0) (N := some 9) #[true, true, false, true, true, false, false] rfl rfl (by kernel_rfl) (by decide) (fun K hK => ?_)
     refine Kd.R_lit_step k46 _ 46 ?hg (N := 9) ?hd (xs := ([] : List (S46))) (inner := []) (ok := fun _ => True) (okp := fun _ => True) ?hr ?hp (fun _ hk => hk) trivial (Below.refl _ _) (Nat.le_refl _) (by simp) ?_; (case hd => rfl); (case hg => rfl); (case hr => first | (go_simp; done) | (go_simp; rfl)); (case hp => exact (Reps.none _ _))
     intro v307 w13 ho14 hb hg_ hnew_
     clear hg_ hnew_
     (first | rw [← Ny306.out] at ho14 | (simp only [Int.reduceToNat] at ho14; rw [← Ny306.out] at ho14))
     have n0_ := ςp (Kd.R_elder' (by (with_reducible repeat (first | apply ςd | apply ςe | apply ςf)); exact HO314.out) (Kd.R_base ho14) hb)
     have n1_ := ςp (Kd.R_lower (Kd.R_newB (Kd.R_new' ho14 (Kd.R_lt (by (with_reducible repeat (first | apply ςd | apply ςe | apply ςf)); exact HO314.out))) (g := gb305) (o := .cells #[.int .i64 a2_0, .int .i64 a2_1, .bool a2_2] 46 (0, 0)) (by (with_reducible repeat (first | refine ςa ?_ _ | refine ςc ?_ | refine ςb ?_ _)); exact BK305.out)) (below_size (by repeat (first | (with_reducible first | exact HB.out | apply ςj | apply ςh | apply ςi | refine ςg ?_ GE304.out | refine ςg ?_ GE305.out) | exact HB.out))))
     have n2_ := ςp (ςl (g := gb304) (o := .cells #[.int .i64 a0_0, .int .i64 a0_1, .int .i64 a0_2] 25 (0, 0)) (by (with_reducible repeat (first | refine ςa ?_ _ | refine ςc ?_ | refine ςb ?_ _)); exact BK304.out) hb)
     have n3_ := ςp (ςl (g := gb305) (o := .cells #[.int .i64 a2_0, .int .i64 a2_1, .bool a2_2] 46 (0, 0)) (by (with_reducible repeat (first | refine ςa ?_ _ | refine ςc ?_ | refine ςb ?_ _)); exact BK305.out) hb)
     have n4_ := ςp (below_step (by repeat (first | (with_reducible first | exact HB.out | apply ςj | apply ςh | apply ςi | refine ςg ?_ GE304.out | refine ςg ?_ GE305.out) | exact HB.out)) hb)
     clear HO314
     clear BK304
     clear BK305
     clear HB
     have HO314 := n0_
     have HO308 := n1_
     have BK304 := n2_
     have BK305 := n3_
     have HB := n4_
     clear n0_ n1_ n2_ n3_ n4_
     clear hb ho14
     refine hK.out _ _ ⟨(ςk BK305.out 0).trans rfl, (ςk BK305.out 1).trans rfl, (ςk BK305.out 2).trans rfl⟩ (fun hHeld => ?_)
     clear hK K
     refine norm_ (a' := ?_) ?_ ?_
     rotate_left
     ·
      show Act.put _ (some 9) _ = _
      simp only [Act.put, ςm, ςn, ςo, i64_w, i32_w]
      rfl
     refine one_ (i := 2) (N := some 11) #[true, true, true, true, true, false, false] rfl rfl (by kernel_rfl) (by decide) (fun K hK => ?_)
     refine Kd.R_append_rows_step k46 (w0 := w) w.heap.size (by rfl) (.tmp 9) (.tmp 10) 31 46 (.agg #[(.int .i64 0), (.int .i64 0), (.bool false)]) 24 rfl Try.underlying31 info46 rfl (by decide) (by omega) v307 y306 l1 _ _ _ (fun k_ => some k_ ≠ (v313 : Value).ownBlock ∧ k_ ≠ gb305) (fun _ => False) rfl rfl ?aO ?aR (fun _ _ h => h) (fun _ h => h.elim) ?aF ?aB ?aS ?aL ?_
     (case aR => repeat (first | exact (Kd.C_below HR1.out HB.out) | (with_reducible refine Kd.C_alloc ?_ _) | (with_reducible refine Kd.C_drewN ?_ _) | (with_reducible refine Kd.C_drew ?_)))
     (case aB => exact (by repeat (first | (with_reducible first | exact HB.out | apply ςj | apply ςh | apply ςi | refine ςg ?_ GE304.out | refine ςg ?_ GE305.out) | exact HB.out)))
     (case aF => exact (fun k_ hk => ⟨Kd.fresh' (Kd.R_lt (by (with_reducible repeat (first | apply ςd | apply ςe | apply ςf)); exact HO314.out)) k_ hk, Kd.freshB (g := gb305) (o := .cells #[.int .i64 a2_0, .int .i64 a2_1, .bool a2_2] 46 (0, 0)) (by (with_reducible repeat (first | refine ςa ?_ _ | refine ςc ?_ | refine ςb ?_ _)); exact BK305.out) k_ hk⟩))
     (case aO => exact (by (with_reducible repeat (first | apply ςd | apply ςe | apply ςf)); exact ςt HO308.out (fun _ hk => ⟨hk.1.2, hk.2⟩)))
     (case aS => exact (below_size (by repeat (first | (with_reducible first | exact HB.out | apply ςj | apply ςh | apply ςi | refine ςg ?_ GE304.out | refine ςg ?_ GE305.out) | exact HB.out))))
     (case aL => have := LMc4.out; omega)
     intro v310 w15 ho hb hg hat
     rw [← Ny309.out] at ho
     have n0_ := ςp (blk_grown (g := gb304) (o := .cells #[.int .i64 a0_0, .int .i64 a0_1, .int .i64 a0_2] 25 (0, 0)) (by (with_reducible repeat (first | refine ςa ?_ _ | refine ςc ?_ | refine ςb ?_ _)); exact BK304.out) hg (Kd.R_ne HO308.out BK304.out (by decide)))
     have n1_ := ςp (blk_grown (g := gb305) (o := .cells #[.int .i64 a2_0, .int .i64 a2_1, .bool a2_2] 46 (0, 0)) (by (with_reducible repeat (first | refine ςa ?_ _ | refine ςc ?_ | refine ςb ?_ _)); exact BK305.out) hg (Kd.R_away HO308.out (fun _ hk => hk.2)))
     have n2_ := ςp (Kd.R_after (ok := (fun k_ => k_ ≠ gb305)) (by (with_reducible repeat (first | apply ςd | apply ςe | apply ςf)); exact ςt HO314.out (fun _ hk => ⟨hk.1.2, hk.2⟩)) hg hat)
     have n3_ := ςp (hb)
     have n4_ := ςp (ho)
     clear BK304
     clear BK305
     clear HO314
     clear HB
     clear HO308
     have BK304 := n0_
     have BK305 := n1_
     have HO314 := n2_
     have HB := n3_
     have HO311 := n4_
     clear n0_ n1_ n2_ n3_ n4_
     clear ho hb hg hat
     refine hK.out _ _ ⟨(ςk BK305.out 0).trans rfl, (ςk BK305.out 1).trans rfl, (ςk BK305.out 2).trans rfl⟩ (fun hHeld => ?_)
     clear hK K
     refine norm_ (a' := ?_) ?_ ?_
     rotate_left
     ·
      show Act.put _ (some 11) _ = _
      simp only [Act.put, ςm, ςn, ςo, i64_w, i32_w]
      rfl
     exact norm_ (by simp only [putAll, Act.put, ςm, ςn, ςo]) (hCont (v307, v310, v313) _ ⟨hHeld, (by (with_reducible repeat (first | apply ςd | apply ςe | apply ςf)); exact HO311.out), (by (with_reducible repeat (first | apply ςd | apply ςe | apply ςf)); exact ςt HO314.out (fun _ hk => ⟨hk.2, hk.1⟩)), (by (with_reducible repeat (first | refine ςa ?_ _ | refine ςc ?_ | refine ςb ?_ _)); exact BK304.out), (by (with_reducible repeat (first | refine ςa ?_ _ | refine ςc ?_ | refine ςb ?_ _)); exact BK305.out), (by repeat (first | (with_reducible first | exact HB.out | apply ςj | apply ςh | apply ςi | refine ςg ?_ GE304.out | refine ςg ?_ GE305.out) | exact HB.out))⟩)
    rintro ⟨v307, v310, v313⟩ w16 ⟨hS_, h0_, h1_, h2_, h3_, h4_⟩
    have n0_ : Aside0 (Kd.R k46 46 w16 w.heap.size (fun k_ => some k_ ≠ (v313 : Value).ownBlock ∧ k_ ≠ gb305) v310 y309) := ⟨h0_⟩
    have n1_ : Aside0 (Kd.R k46 46 w16 w.heap.size (fun k_ => some k_ ≠ (v310 : Value).ownBlock ∧ k_ ≠ gb305) v313 y312) := ⟨h1_⟩
    have n2_ : Aside0 (w16.heap[gb304]? = some (.cells #[.int .i64 a0_0, .int .i64 a0_1, .int .i64 a0_2] 25 (0, 0))) := ⟨h2_⟩
    have n3_ : Aside0 (w16.heap[gb305]? = some (.cells #[.int .i64 a2_0, .int .i64 a2_1, .bool a2_2] 46 (0, 0))) := ⟨h3_⟩
    have n4_ : Aside0 (Below w.heap.size w w16) := ⟨h4_⟩
    clear BK304
    clear BK305
    clear HB
    clear h0_ h1_ h2_ h3_ h4_
    have HO311 := n0_
    have HO314 := n1_
    have BK304 := n2_
    have BK305 := n3_
    have HB := n4_
    clear n0_ n1_ n2_ n3_ n4_
    have hHeld : w16.cell? ⟨gb305, 0, none⟩ = some (.int .i64 a2_0) ∧ w16.cell? ⟨gb305, 1, none⟩ = some (.int .i64 a2_1) ∧ w16.cell? ⟨gb305, 2, none⟩ = some (.bool a2_2) := hS_
    obtain ⟨Ao18, co18, eo18⟩ := Kd.R_slice HO314.out
    (first | subst eo18 | (injection eo18 with f1_ f2_ f3_; have f4_ := f1_.symm; have f5_ := f3_.symm; clear f1_ f2_ f3_; subst f4_; subst f5_))
    refine norm_ (a' := ?_) ?_ ?_
    rotate_left
    ·
     simp only [putAll, Act.put, ςm, ςn, ςo]
     rfl
    refine one_ (i := 5) (N := some 14) #[true, true, true, true, true, true, false] rfl rfl (by kernel_rfl) (by decide) (fun K hK => ?_)
    refine Kd.R_append_rows_step k46 (w0 := w) w.heap.size (by rfl) (.tmp 11) (.tmp 13) 31 46 (.agg #[(.int .i64 0), (.int .i64 0), (.bool false)]) 24 rfl Try.underlying31 info46 rfl (by decide) (by omega) v310 y309 y312 _ _ _ (fun k_ => some k_ ≠ (.slice Ao18 y312.length co18 : Value).ownBlock ∧ k_ ≠ gb305) (fun _ => False) rfl rfl ?aO ?aR (fun _ _ h => h) (fun _ h => h.elim) ?aF ?aB ?aS ?aL ?_
    (case aR => repeat (first | exact (Kd.R_reads' HO314.out).2.2 | (with_reducible refine Kd.C_alloc ?_ _) | (with_reducible refine Kd.C_drewN ?_ _) | (with_reducible refine Kd.C_drew ?_)))
    (case aB => exact (by repeat (first | (with_reducible first | exact HB.out | apply ςj | apply ςh | apply ςi | refine ςg ?_ GE304.out | refine ςg ?_ GE305.out) | exact HB.out)))
    (case aF => exact (fun k_ hk => ⟨Kd.fresh' (Kd.R_lt (by (with_reducible repeat (first | apply ςd | apply ςe | apply ςf)); exact HO314.out)) k_ hk, Kd.freshB (g := gb305) (o := .cells #[.int .i64 a2_0, .int .i64 a2_1, .bool a2_2] 46 (0, 0)) (by (with_reducible repeat (first | refine ςa ?_ _ | refine ςc ?_ | refine ςb ?_ _)); exact BK305.out) k_ hk⟩))
    (case aO => exact (by (with_reducible repeat (first | apply ςd | apply ςe | apply ςf)); exact HO311.out))
    (case aS => exact (below_size (by repeat (first | (with_reducible first | exact HB.out | apply ςj | apply ςh | apply ςi | refine ςg ?_ GE304.out | refine ςg ?_ GE305.out) | exact HB.out))))
    (case aL => have := LMc5.out; omega)
    intro v316 w17 ho hb hg hat
    rw [← Ny315.out] at ho
    have n0_ := ςp (blk_grown (g := gb304) (o := .cells #[.int .i64 a0_0, .int .i64 a0_1, .int .i64 a0_2] 25 (0, 0)) (by (with_reducible repeat (first | refine ςa ?_ _ | refine ςc ?_ | refine ςb ?_ _)); exact BK304.out) hg (Kd.R_ne HO311.out BK304.out (by decide)))
    have n1_ := ςp (blk_grown (g := gb305) (o := .cells #[.int .i64 a2_0, .int .i64 a2_1, .bool a2_2] 46 (0, 0)) (by (with_reducible repeat (first | refine ςa ?_ _ | refine ςc ?_ | refine ςb ?_ _)); exact BK305.out) hg (Kd.R_away HO311.out (fun _ hk => hk.2)))
    have n2_ := ςp (Kd.R_after (ok := (fun k_ => k_ ≠ gb305)) (by (with_reducible repeat (first | apply ςd | apply ςe | apply ςf)); exact ςt HO314.out (fun _ hk => ⟨hk.2, hk.1⟩)) hg hat)
    have n3_ := ςp (hb)
    have n4_ := ςp (ho)
    clear BK304
    clear BK305
    clear HO314
    clear HB
    clear HO311
    have BK304 := n0_
    have BK305 := n1_
    have HO314 := n2_
    have HB := n3_
    have HO317 := n4_
    clear n0_ n1_ n2_ n3_ n4_
    clear ho hb hg hat
    refine hK.out _ _ ⟨(ςk BK305.out 0).trans rfl, (ςk BK305.out 1).trans rfl, (ςk BK305.out 2).trans rfl⟩ (fun hHeld => ?_)
    clear hK K
    refine norm_ (a' := ?_) ?_ ?_
    rotate_left
    ·
     show Act.put _ (some 14) _ = _
     simp only [Act.put, ςm, ςn, ςo, i64_w, i32_w]
     rfl
    refine pure_ (i := 6) (N := some 8) (v := ?_) (a' := ?_) #[true, true, true, true, true, true, true] rfl rfl (by kernel_rfl) (fun _ _ _ h => h) (Or.inl ⟨by rfl, ?_⟩) ?_ ?_
    rotate_left; · (intro w'; go_simp; with_reducible rfl)
    rotate_left; · (simp only [Act.put, ςm, ςn, ςo, i64_w, i32_w]; rfl)
    refine done_ (by kernel_rfl) ?_
    have hnb19 := NB304_305.out
    have hnc19 := NB305_304.out
    have hcz20_0 : w17.cell? ⟨gb304, 0, none⟩ = some (.int .i64 a0_0) := (ςk BK304.out 0).trans rfl
    have hcz20_1 : w17.cell? ⟨gb304, 1, none⟩ = some (.int .i64 a0_1) := (ςk BK304.out 1).trans rfl
    have hcz20_2 : w17.cell? ⟨gb304, 2, none⟩ = some (.int .i64 a0_2) := (ςk BK304.out 2).trans rfl
    have hfz20_0 := blk_frozen BK304.out 0
    have hfz20_1 := blk_frozen BK304.out 1
    have hfz20_2 := blk_frozen BK304.out 2
    obtain ⟨Ao21, co21, eo21⟩ := Kd.R_slice HO317.out
    subst eo21
    try go_wp2_with (first | ((with_reducible refine gate_callee (f := 29) rfl ?_); refine goesL_ (some 17) rfl rfl Try.func29 (by kernel_rfl) rfl #[.agg #[.int .i64 a0_0, .int .i64 a0_1, .int .i64 a0_2], .slice Ao21 y315.length co21] rfl (by (try simp only [List.map_toArray, List.map_cons, List.map_nil]); first | done | rfl | (simp only [List.length_drop, List.length_take]; rfl)) ?_; (with_reducible refine (spec_AreOffers.calls k a0_0 a0_1 a0_2 _ _ y315 true _ ?side1 ?side2 A6.out).mono ?_); (case side1 => repeat (first | exact (Kd.R_reads' HO317.out).2.2 | (with_reducible refine Kd.C_alloc ?_ _) | (with_reducible refine Kd.C_drewN ?_ _) | (with_reducible refine Kd.C_drew ?_))); (case side2 => exact (Kd.R_reads' HO317.out).2.1); rintro e w22 ⟨rfl, hb⟩; refine ⟨_, rfl, ?_⟩; have n0_ := ςp (Kd.R_below (by (with_reducible repeat (first | apply ςd | apply ςe | apply ςf)); exact HO314.out) hb); have n1_ := ςp (Kd.R_below (by (with_reducible repeat (first | apply ςd | apply ςe | apply ςf)); exact HO317.out) hb); have n2_ := ςp (ςl (g := gb304) (o := .cells #[.int .i64 a0_0, .int .i64 a0_1, .int .i64 a0_2] 25 (0, 0)) (by (with_reducible repeat (first | refine ςa ?_ _ | refine ςc ?_ | refine ςb ?_ _)); exact BK304.out) hb); have n3_ := ςp (ςl (g := gb305) (o := .cells #[.int .i64 a2_0, .int .i64 a2_1, .bool a2_2] 46 (0, 0)) (by (with_reducible repeat (first | refine ςa ?_ _ | refine ςc ?_ | refine ςb ?_ _)); exact BK305.out) hb); have n4_ := ςp (below_step (by repeat (first | (with_reducible first | exact HB.out | apply ςj | apply ςh | apply ςi | refine ςg ?_ GE304.out | refine ςg ?_ GE305.out) | exact HB.out)) hb); clear HO314; clear HO317; clear BK304; clear BK305; clear HB; have HO314 := n0_; have HO317 := n1_; have BK304 := n2_; have BK305 := n3_; have HB := n4_; clear n0_ n1_ n2_ n3_ n4_; (try clear hb); (try clear hb2); (try clear hk); (try clear hi)))
    go_ret2
    exact ⟨_, by first | rfl | (simp [errW_none, errW_some] <;> rfl) | (simp [*, errW_none, errW_some] <;> rfl), by (with_reducible repeat (first | apply ςd | apply ςe | apply ςf)); exact ςt HO317.out (fun _ hk => trivial), by repeat (first | (with_reducible first | exact HB.out | apply ςj | apply ςh | apply ςi | refine ςg ?_ GE304.out | refine ςg ?_ GE305.out) | exact HB.out)⟩
   replace c7 := Bool.eq_false_iff.mpr c7
   subst c7
   have H1 : ((some (([] : List (S46)) : List (S46))).bind fun y319 => (if y319.length + l1.length < 5864062014805 then (some ((y319 ++ l1), false)) else (none))) = some (r1, r2) := by rw [if_neg (show ¬ (false = true) by decide)] at H; exact H
   clear H
   have H := H1
   clear H1
   obtain ⟨y319, hy319⟩ : ∃ y_ : List (S46), y_ = (([] : List (S46))) := ⟨_, rfl⟩
   replace H : (if y319.length + l1.length < 5864062014805 then (some ((y319 ++ l1), false)) else (none)) = some (r1, r2) := by first | (rw [hy319]; with_reducible exact H) | (have H2_ := (Option.bind_some _ _).symm.trans H; rw [hy319]; with_reducible exact H2_) | (have H2_ := (Option.bind_some _ _).symm.trans H; with_reducible exact H2_) | with_reducible exact H | (rw [hy319]; exact H) | exact H
   have Ny319 := ςp hy319
   clear hy319
   by_cases c23 : y319.length + l1.length < 5864062014805
   ·
    rw [if_pos c23] at H
    have LMc23 := ςp c23
    clear c23
    obtain ⟨y322, hy322⟩ : ∃ y_ : List (S46), y_ = (y319 ++ l1) := ⟨_, rfl⟩
    replace H : (some (y322, false)) = some (r1, r2) := by first | (rw [hy322]; with_reducible exact H) | (have H2_ := (Option.bind_some _ _).symm.trans H; rw [hy322]; with_reducible exact H2_) | (have H2_ := (Option.bind_some _ _).symm.trans H; with_reducible exact H2_) | with_reducible exact H | (rw [hy322]; exact H) | exact H
    have Ny322 := ςp hy322
    clear hy322
    simp only [Option.some.injEq, Prod.mk.injEq] at H
    obtain ⟨rfl, rfl⟩ := H
    go_enter Try.func31, Try.ntmps31
    try go_wp2_with (first | ((with_reducible refine gate_dst (N := 3) rfl ?_); refine box_event ?hg (N := 3) ?hd (cs := #[.int .i64 a0_0, .int .i64 a0_1, .int .i64 a0_2]) (t := 25) ?hr ?_; (case hd => rfl); (case hg => rfl); (case hr => first | (go_simp; done) | (go_simp; rfl)); intro gb304 hg w24 hbox hb; have n0_ := ςp (below_step (by repeat (first | (with_reducible first | exact HB.out | apply ςj | apply ςh | apply ςi) | exact HB.out)) hb); have n1_ := ςp (hbox); have n2_ := ςp ((by rw [hg]; exact (below_size (by repeat (first | (with_reducible first | exact HB.out | apply ςj | apply ςh | apply ςi) | exact HB.out))) : w.heap.size ≤ gb304)); have n3_ := ςp ((by rw [hg]; exact (below_size (by repeat (first | (with_reducible first | exact HB.out | apply ςj | apply ςh | apply ςi) | exact HB.out))) : w.heap.size ≤ gb304)); clear HB; have HB := n0_; have BK304 := n1_; have GW304 := n2_; have GE304 := n3_; clear n0_ n1_ n2_ n3_; clear hb hbox hg) | ((with_reducible refine gate_dst (N := 5) rfl ?_); refine box_event ?hg (N := 5) ?hd (cs := #[.int .i64 a2_0, .int .i64 a2_1, .bool a2_2]) (t := 46) ?hr ?_; (case hd => rfl); (case hg => rfl); (case hr => first | (go_simp; done) | (go_simp; rfl)); intro gb305 hg w25 hbox hb; have n0_ := ςp (ςl (g := gb304) (o := .cells #[.int .i64 a0_0, .int .i64 a0_1, .int .i64 a0_2] 25 (0, 0)) (by (with_reducible repeat (first | refine ςa ?_ _ | refine ςc ?_ | refine ςb ?_ _)); exact BK304.out) hb); have n1_ := ςp (below_step (by repeat (first | (with_reducible first | exact HB.out | apply ςj | apply ςh | apply ςi | refine ςg ?_ GE304.out) | exact HB.out)) hb); have n2_ := ςp (hbox); have n3_ := ςp ((by rw [hg]; exact (below_size (by repeat (first | (with_reducible first | exact HB.out | apply ςj | apply ςh | apply ςi | refine ςg ?_ GE304.out) | exact HB.out))) : w.heap.size ≤ gb305)); have n4_ := ςp ((by rw [hg]; exact (below_size (by repeat (first | (with_reducible first | exact HB.out | apply ςj | apply ςh | apply ςi | refine ςg ?_ GE304.out) | exact HB.out))) : w.heap.size ≤ gb305)); have n5_ := ςp ((by rw [hg]; exact Nat.ne_of_lt (blk_lt (g := gb304) (o := .cells #[.int .i64 a0_0, .int .i64 a0_1, .int .i64 a0_2] 25 (0, 0)) (by (with_reducible repeat (first | refine ςa ?_ _ | refine ςc ?_ | refine ςb ?_ _)); exact BK304.out)) : gb304 ≠ gb305)); have n6_ := ςp ((by rw [hg]; exact Nat.ne_of_gt (blk_lt (g := gb304) (o := .cells #[.int .i64 a0_0, .int .i64 a0_1, .int .i64 a0_2] 25 (0, 0)) (by (with_reducible repeat (first | refine ςa ?_ _ | refine ςc ?_ | refine ςb ?_ _)); exact BK304.out)) : gb305 ≠ gb304)); clear BK304; clear HB; have BK304 := n0_; have HB := n1_; have BK305 := n2_; have GW305 := n3_; have GE305 := n4_; have NB304_305 := n5_; have NB305_304 := n6_; clear n0_ n1_ n2_ n3_ n4_ n5_ n6_; clear hb hbox hg))
    have n0_ := ςp (ςc BK304.out)
    have n1_ := ςp (ςc BK305.out)
    have n2_ := ςp (ςi HB.out)
    clear BK304
    clear BK305
    clear HB
    have BK304 := n0_
    have BK305 := n1_
    have HB := n2_
    clear n0_ n1_ n2_
    refine start_ (n := 7) (S := fun w' => w'.cell? ⟨gb305, 0, none⟩ = some (.int .i64 a2_0) ∧ w'.cell? ⟨gb305, 1, none⟩ = some (.int .i64 a2_1) ∧ w'.cell? ⟨gb305, 2, none⟩ = some (.bool a2_2)) (ds := []) #[false, false, false, false, false, false, false] (by kernel_rfl) rfl rfl ⟨(ςk BK305.out 0).trans rfl, (ςk BK305.out 1).trans rfl, (ςk BK305.out 2).trans rfl⟩ (fun hHeld => ?_)
    generalize w25.drew = w26 at BK304 BK305 HB hHeld ⊢
    refine pure_ (i := 1) (N := some 10) (v := ?_) (a' := ?_) #[false, true, false, false, false, false, false] rfl rfl (by kernel_rfl) (fun _ _ _ h => h) (Or.inl ⟨by rfl, ?_⟩) ?_ ?_
    rotate_left; · (intro w'; go_simp; with_reducible rfl)
    rotate_left; · (simp only [Act.put, ςm, ςn, ςo, i64_w, i32_w]; rfl)
    refine take_ (i := 3) (N := some 12) (v := ?_) (a' := ?_) #[false, true, false, true, false, false, false] rfl rfl (by kernel_rfl) (fun _ _ _ h => h) (Or.inl ⟨by rfl, ?_⟩) hHeld ?_ ?_
    rotate_left
    ·
     rintro w' ⟨s0, s1, s2⟩
     go_simp
     with_reducible rfl
    rotate_left
    ·
     simp only [Act.put, ςm, ςn, ςo, i64_w, i32_w]
     rfl
    refine join_ (σ := Value × Value × Value) 2 #[true, true, true, true, true, false, false] (fun s_ => [(9, s_.1), (11, s_.2.1), (13, s_.2.2)]) (fun s_ w' => (w'.cell? ⟨gb305, 0, none⟩ = some (.int .i64 a2_0) ∧ w'.cell? ⟨gb305, 1, none⟩ = some (.int .i64 a2_1) ∧ w'.cell? ⟨gb305, 2, none⟩ = some (.bool a2_2)) ∧ (Kd.R k46 46 w' w.heap.size (fun k_ => some k_ ≠ (s_.2.2 : Value).ownBlock ∧ k_ ≠ gb305) s_.2.1 y309) ∧ (Kd.R k46 46 w' w.heap.size (fun k_ => some k_ ≠ (s_.2.1 : Value).ownBlock ∧ k_ ≠ gb305) s_.2.2 y312) ∧ (w'.heap[gb304]? = some (.cells #[.int .i64 a0_0, .int .i64 a0_1, .int .i64 a0_2] 25 (0, 0))) ∧ (w'.heap[gb305]? = some (.cells #[.int .i64 a2_0, .int .i64 a2_1, .bool a2_2] 46 (0, 0))) ∧ (Below w.heap.size w w')) ?_ ?_
    rotate_left
    ·
     intro hCont
     refine two_ (i := 0) (j := 4) (Ni := some 9) (Nj := some 13) #[true, true, false, true, false, false, false] #[false, true, false, true, true, false, false] rfl rfl rfl rfl (by kernel_rfl) (by decide) (by decide) (fun K hK => ?_) (fun K hK => ?_)
     ·
      skip
      refine Kd.R_lit_step k46 _ 46 ?hg (N := 9) ?hd (xs := ([] : List (S46))) (inner := []) (ok := fun _ => True) (okp := fun _ => True) ?hr ?hp (fun _ hk => hk) trivial (Below.refl _ _) (Nat.le_refl _) (by simp) ?_; (case hd => rfl); (case hg => rfl); (case hr => first | (go_simp; done) | (go_simp; rfl)); (case hp => exact (Reps.none _ _))
      intro v307 w27 ho28 hb hg_ hnew_
      clear hg_ hnew_
      (first | rw [← Ny306.out] at ho28 | (simp only [Int.reduceToNat] at ho28; rw [← Ny306.out] at ho28))
      have n0_ := ςp (Kd.R_lower (Kd.R_newB ho28 (g := gb305) (o := .cells #[.int .i64 a2_0, .int .i64 a2_1, .bool a2_2] 46 (0, 0)) (by (with_reducible repeat (first | refine ςa ?_ _ | refine ςc ?_ | refine ςb ?_ _)); exact BK305.out)) (below_size (by repeat (first | (with_reducible first | exact HB.out | apply ςj | apply ςh | apply ςi | refine ςg ?_ GE304.out | refine ςg ?_ GE305.out) | exact HB.out))))
      have n1_ := ςp (ςl (g := gb304) (o := .cells #[.int .i64 a0_0, .int .i64 a0_1, .int .i64 a0_2] 25 (0, 0)) (by (with_reducible repeat (first | refine ςa ?_ _ | refine ςc ?_ | refine ςb ?_ _)); exact BK304.out) hb)
      have n2_ := ςp (ςl (g := gb305) (o := .cells #[.int .i64 a2_0, .int .i64 a2_1, .bool a2_2] 46 (0, 0)) (by (with_reducible repeat (first | refine ςa ?_ _ | refine ςc ?_ | refine ςb ?_ _)); exact BK305.out) hb)
      have n3_ := ςp (below_step (by repeat (first | (with_reducible first | exact HB.out | apply ςj | apply ςh | apply ςi | refine ςg ?_ GE304.out | refine ςg ?_ GE305.out) | exact HB.out)) hb)
      clear BK304
      clear BK305
      clear HB
      have HO308 := n0_
      have BK304 := n1_
      have BK305 := n2_
      have HB := n3_
      clear n0_ n1_ n2_ n3_
      clear hb ho28
      refine hK.out _ _ ⟨(ςk BK305.out 0).trans rfl, (ςk BK305.out 1).trans rfl, (ςk BK305.out 2).trans rfl⟩ (fun hHeld => ?_)
      clear hK K
      refine norm_ (a' := ?_) ?_ ?_
      rotate_left
      ·
       show Act.put _ (some 9) _ = _
       simp only [Act.put, ςm, ςn, ςo, i64_w, i32_w]
       rfl
      refine two_ (i := 2) (j := 4) (Ni := some 11) (Nj := some 13) #[true, true, true, true, false, false, false] #[true, true, false, true, true, false, false] rfl rfl rfl rfl (by kernel_rfl) (by decide) (by decide) (fun K hK => ?_) (fun K hK => ?_)
      ·
       skip
       refine Kd.R_append_rows_step k46 (w0 := w) w.heap.size (by rfl) (.tmp 9) (.tmp 10) 31 46 (.agg #[(.int .i64 0), (.int .i64 0), (.bool false)]) 24 rfl Try.underlying31 info46 rfl (by decide) (by omega) v307 y306 l1 _ _ _ (fun k_ => k_ ≠ gb305) (fun _ => False) rfl rfl ?aO ?aR (fun _ _ h => h) (fun _ h => h.elim) ?aF ?aB ?aS ?aL ?_
       (case aR => repeat (first | exact (Kd.C_below HR1.out HB.out) | (with_reducible refine Kd.C_alloc ?_ _) | (with_reducible refine Kd.C_drewN ?_ _) | (with_reducible refine Kd.C_drew ?_)))
       (case aB => exact (by repeat (first | (with_reducible first | exact HB.out | apply ςj | apply ςh | apply ςi | refine ςg ?_ GE304.out | refine ςg ?_ GE305.out) | exact HB.out)))
       (case aF => exact (fun k_ hk => Kd.freshB (g := gb305) (o := .cells #[.int .i64 a2_0, .int .i64 a2_1, .bool a2_2] 46 (0, 0)) (by (with_reducible repeat (first | refine ςa ?_ _ | refine ςc ?_ | refine ςb ?_ _)); exact BK305.out) k_ hk))
       (case aO => exact (by (with_reducible repeat (first | apply ςd | apply ςe | apply ςf)); exact ςt HO308.out (fun _ hk => hk.2)))
       (case aS => exact (below_size (by repeat (first | (with_reducible first | exact HB.out | apply ςj | apply ςh | apply ςi | refine ςg ?_ GE304.out | refine ςg ?_ GE305.out) | exact HB.out))))
       (case aL => have := LMc4.out; omega)
       intro v310 w29 ho hb hg hat
       rw [← Ny309.out] at ho
       have n0_ := ςp (blk_grown (g := gb304) (o := .cells #[.int .i64 a0_0, .int .i64 a0_1, .int .i64 a0_2] 25 (0, 0)) (by (with_reducible repeat (first | refine ςa ?_ _ | refine ςc ?_ | refine ςb ?_ _)); exact BK304.out) hg (Kd.R_ne HO308.out BK304.out (by decide)))
       have n1_ := ςp (blk_grown (g := gb305) (o := .cells #[.int .i64 a2_0, .int .i64 a2_1, .bool a2_2] 46 (0, 0)) (by (with_reducible repeat (first | refine ςa ?_ _ | refine ςc ?_ | refine ςb ?_ _)); exact BK305.out) hg (Kd.R_away HO308.out (fun _ hk => hk.2)))
       have n2_ := ςp (hb)
       have n3_ := ςp (ho)
       clear BK304
       clear BK305
       clear HB
       clear HO308
       have BK304 := n0_
       have BK305 := n1_
       have HB := n2_
       have HO311 := n3_
       clear n0_ n1_ n2_ n3_
       clear ho hb hg hat
       refine hK.out _ _ ⟨(ςk BK305.out 0).trans rfl, (ςk BK305.out 1).trans rfl, (ςk BK305.out 2).trans rfl⟩ (fun hHeld => ?_)
       clear hK K
       refine norm_ (a' := ?_) ?_ ?_
       rotate_left
       ·
        show Act.put _ (some 11) _ = _
        simp only [Act.put, ςm, ςn, ςo, i64_w, i32_w]
        rfl
       refine one_ (i := 4) (N := some 13) #[true, true, true, true, true, false, false] rfl rfl (by kernel_rfl) (by decide) (fun K hK => ?_)
       refine Kd.R_lit_step k46 _ 46 ?hg (N := 13) ?hd (xs := ([(⟨a2_0, a2_1, a2_2⟩ : S46)] : List (S46))) (inner := [.int .i64 a2_0, .int .i64 a2_1, .bool a2_2]) (ok := fun _ => True) (okp := fun _ => True) ?hr ?hp (fun _ hk => hk) trivial (Below.refl _ _) (Nat.le_refl _) (by simp) ?_; (case hd => rfl); (case hg => rfl); (case hr => first | (go_simp; done) | (go_simp; rfl)); (case hp => exact (Reps.c3 (show Kd.M k46 _ _ _ (⟨a2_0, a2_1, a2_2⟩ : S46) [.int .i64 a2_0, .int .i64 a2_1, .bool a2_2] from (k46_mkM _ _ _ (⟨a2_0, a2_1, a2_2⟩ : S46) )) (Reps.none _ _)))
       intro v313 w30 ho31 hb hg_ hnew_
       clear hg_ hnew_
       (first | rw [← Ny312.out] at ho31 | (simp only [Int.reduceToNat] at ho31; rw [← Ny312.out] at ho31))
       have n0_ := ςp (Kd.R_elder' (by (with_reducible repeat (first | apply ςd | apply ςe | apply ςf)); exact HO311.out) (Kd.R_base ho31) hb)
       have n1_ := ςp (Kd.R_lower (Kd.R_newB (Kd.R_new' ho31 (Kd.R_lt (by (with_reducible repeat (first | apply ςd | apply ςe | apply ςf)); exact HO311.out))) (g := gb305) (o := .cells #[.int .i64 a2_0, .int .i64 a2_1, .bool a2_2] 46 (0, 0)) (by (with_reducible repeat (first | refine ςa ?_ _ | refine ςc ?_ | refine ςb ?_ _)); exact BK305.out)) (below_size (by repeat (first | (with_reducible first | exact HB.out | apply ςj | apply ςh | apply ςi | refine ςg ?_ GE304.out | refine ςg ?_ GE305.out) | exact HB.out))))
       have n2_ := ςp (ςl (g := gb304) (o := .cells #[.int .i64 a0_0, .int .i64 a0_1, .int .i64 a0_2] 25 (0, 0)) (by (with_reducible repeat (first | refine ςa ?_ _ | refine ςc ?_ | refine ςb ?_ _)); exact BK304.out) hb)
       have n3_ := ςp (ςl (g := gb305) (o := .cells #[.int .i64 a2_0, .int .i64 a2_1, .bool a2_2] 46 (0, 0)) (by (with_reducible repeat (first | refine ςa ?_ _ | refine ςc ?_ | refine ςb ?_ _)); exact BK305.out) hb)
       have n4_ := ςp (below_step (by repeat (first | (with_reducible first | exact HB.out | apply ςj | apply ςh | apply ςi | refine ςg ?_ GE304.out | refine ςg ?_ GE305.out) | exact HB.out)) hb)
       clear HO311
       clear BK304
       clear BK305
       clear HB
       have HO311 := n0_
       have HO314 := n1_
       have BK304 := n2_
       have BK305 := n3_
       have HB := n4_
       clear n0_ n1_ n2_ n3_ n4_
       clear hb ho31
       refine hK.out _ _ ⟨(ςk BK305.out 0).trans rfl, (ςk BK305.out 1).trans rfl, (ςk BK305.out 2).trans rfl⟩ (fun hHeld => ?_)
       clear hK K
       refine norm_ (a' := ?_) ?_ ?_
       rotate_left
       ·
        show Act.put _ (some 13) _ = _
        simp only [Act.put, ςm, ςn, ςo, i64_w, i32_w]
        rfl
       exact norm_ (by simp only [putAll, Act.put, ςm, ςn, ςo]) (hCont (v307, v310, v313) _ ⟨hHeld, (by (with_reducible repeat (first | apply ςd | apply ςe | apply ςf)); exact ςt HO311.out (fun _ hk => ⟨hk.2, hk.1⟩)), (by (with_reducible repeat (first | apply ςd | apply ςe | apply ςf)); exact ςt HO314.out (fun _ hk => ⟨hk.1.2, hk.2⟩)), (by (with_reducible repeat (first | refine ςa ?_ _ | refine ςc ?_ | refine ςb ?_ _)); exact BK304.out), (by (with_reducible repeat (first | refine ςa ?_ _ | refine ςc ?_ | refine ςb ?_ _)); exact BK305.out), (by repeat (first | (with_reducible first | exact HB.out | apply ςj | apply ςh | apply ςi | refine ςg ?_ GE304.out | refine ςg ?_ GE305.out) | exact HB.out))⟩)
      skip
      refine Kd.R_lit_step k46 _ 46 ?hg (N := 13) ?hd (xs := ([(⟨a2_0, a2_1, a2_2⟩ : S46)] : List (S46))) (inner := [.int .i64 a2_0, .int .i64 a2_1, .bool a2_2]) (ok := fun _ => True) (okp := fun _ => True) ?hr ?hp (fun _ hk => hk) trivial (Below.refl _ _) (Nat.le_refl _) (by simp) ?_; (case hd => rfl); (case hg => rfl); (case hr => first | (go_simp; done) | (go_simp; rfl)); (case hp => exact (Reps.c3 (show Kd.M k46 _ _ _ (⟨a2_0, a2_1, a2_2⟩ : S46) [.int .i64 a2_0, .int .i64 a2_1, .bool a2_2] from (k46_mkM _ _ _ (⟨a2_0, a2_1, a2_2⟩ : S46) )) (Reps.none _ _)))
      intro v313 w29 ho30 hb hg_ hnew_
      clear hg_ hnew_
      (first | rw [← Ny312.out] at ho30 | (simp only [Int.reduceToNat] at ho30; rw [← Ny312.out] at ho30))
      have n0_ := ςp (Kd.R_elder' (by (with_reducible repeat (first | apply ςd | apply ςe | apply ςf)); exact HO308.out) (Kd.R_base ho30) hb)
      have n1_ := ςp (Kd.R_lower (Kd.R_newB (Kd.R_new' ho30 (Kd.R_lt (by (with_reducible repeat (first | apply ςd | apply ςe | apply ςf)); exact HO308.out))) (g := gb305) (o := .cells #[.int .i64 a2_0, .int .i64 a2_1, .bool a2_2] 46 (0, 0)) (by (with_reducible repeat (first | refine ςa ?_ _ | refine ςc ?_ | refine ςb ?_ _)); exact BK305.out)) (below_size (by repeat (first | (with_reducible first | exact HB.out | apply ςj | apply ςh | apply ςi | refine ςg ?_ GE304.out | refine ςg ?_ GE305.out) | exact HB.out))))
      have n2_ := ςp (ςl (g := gb304) (o := .cells #[.int .i64 a0_0, .int .i64 a0_1, .int .i64 a0_2] 25 (0, 0)) (by (with_reducible repeat (first | refine ςa ?_ _ | refine ςc ?_ | refine ςb ?_ _)); exact BK304.out) hb)
      have n3_ := ςp (ςl (g := gb305) (o := .cells #[.int .i64 a2_0, .int .i64 a2_1, .bool a2_2] 46 (0, 0)) (by (with_reducible repeat (first | refine ςa ?_ _ | refine ςc ?_ | refine ςb ?_ _)); exact BK305.out) hb)
      have n4_ := ςp (below_step (by repeat (first | (with_reducible first | exact HB.out | apply ςj | apply ςh | apply ςi | refine ςg ?_ GE304.out | refine ςg ?_ GE305.out) | exact HB.out)) hb)
      clear HO308
      clear BK304
      clear BK305
      clear HB
      have HO308 := n0_
      have HO314 := n1_
      have BK304 := n2_
      have BK305 := n3_
      have HB := n4_
      clear n0_ n1_ n2_ n3_ n4_
      clear hb ho30
      refine hK.out _ _ ⟨(ςk BK305.out 0).trans rfl, (ςk BK305.out 1).trans rfl, (ςk BK305.out 2).trans rfl⟩ (fun hHeld => ?_)
      clear hK K
      refine norm_ (a' := ?_) ?_ ?_
      rotate_left
      ·
       show Act.put _ (some 13) _ = _
       simp only [Act.put, ςm, ςn, ςo, i64_w, i32_w]
       rfl
      refine one_ (i := 2) (N := some 11) #[true, true, true, true, true, false, false] rfl rfl (by kernel_rfl) (by decide) (fun K hK => ?_)
      refine Kd.R_append_rows_step k46 (w0 := w) w.heap.size (by rfl) (.tmp 9) (.tmp 10) 31 46 (.agg #[(.int .i64 0), (.int .i64 0), (.bool false)]) 24 rfl Try.underlying31 info46 rfl (by decide) (by omega) v307 y306 l1 _ _ _ (fun k_ => some k_ ≠ (v313 : Value).ownBlock ∧ k_ ≠ gb305) (fun _ => False) rfl rfl ?aO ?aR (fun _ _ h => h) (fun _ h => h.elim) ?aF ?aB ?aS ?aL ?_
      (case aR => repeat (first | exact (Kd.C_below HR1.out HB.out) | (with_reducible refine Kd.C_alloc ?_ _) | (with_reducible refine Kd.C_drewN ?_ _) | (with_reducible refine Kd.C_drew ?_)))
      (case aB => exact (by repeat (first | (with_reducible first | exact HB.out | apply ςj | apply ςh | apply ςi | refine ςg ?_ GE304.out | refine ςg ?_ GE305.out) | exact HB.out)))
      (case aF => exact (fun k_ hk => ⟨Kd.fresh' (Kd.R_lt (by (with_reducible repeat (first | apply ςd | apply ςe | apply ςf)); exact HO314.out)) k_ hk, Kd.freshB (g := gb305) (o := .cells #[.int .i64 a2_0, .int .i64 a2_1, .bool a2_2] 46 (0, 0)) (by (with_reducible repeat (first | refine ςa ?_ _ | refine ςc ?_ | refine ςb ?_ _)); exact BK305.out) k_ hk⟩))
      (case aO => exact (by (with_reducible repeat (first | apply ςd | apply ςe | apply ςf)); exact ςt HO308.out (fun _ hk => ⟨hk.2, hk.1.2⟩)))
      (case aS => exact (below_size (by repeat (first | (with_reducible first | exact HB.out | apply ςj | apply ςh | apply ςi | refine ςg ?_ GE304.out | refine ςg ?_ GE305.out) | exact HB.out))))
      (case aL => have := LMc4.out; omega)
      intro v310 w31 ho hb hg hat
      rw [← Ny309.out] at ho
      have n0_ := ςp (blk_grown (g := gb304) (o := .cells #[.int .i64 a0_0, .int .i64 a0_1, .int .i64 a0_2] 25 (0, 0)) (by (with_reducible repeat (first | refine ςa ?_ _ | refine ςc ?_ | refine ςb ?_ _)); exact BK304.out) hg (Kd.R_ne HO308.out BK304.out (by decide)))
      have n1_ := ςp (blk_grown (g := gb305) (o := .cells #[.int .i64 a2_0, .int .i64 a2_1, .bool a2_2] 46 (0, 0)) (by (with_reducible repeat (first | refine ςa ?_ _ | refine ςc ?_ | refine ςb ?_ _)); exact BK305.out) hg (Kd.R_away HO308.out (fun _ hk => hk.1.2)))
      have n2_ := ςp (Kd.R_after (ok := (fun k_ => k_ ≠ gb305)) (by (with_reducible repeat (first | apply ςd | apply ςe | apply ςf)); exact ςt HO314.out (fun _ hk => ⟨hk.2, hk.1.2⟩)) hg hat)
      have n3_ := ςp (hb)
      have n4_ := ςp (ho)
      clear BK304
      clear BK305
      clear HO314
      clear HB
      clear HO308
      have BK304 := n0_
      have BK305 := n1_
      have HO314 := n2_
      have HB := n3_
      have HO311 := n4_
      clear n0_ n1_ n2_ n3_ n4_
      clear ho hb hg hat
      refine hK.out _ _ ⟨(ςk BK305.out 0).trans rfl, (ςk BK305.out 1).trans rfl, (ςk BK305.out 2).trans rfl⟩ (fun hHeld => ?_)
      clear hK K
      refine norm_ (a' := ?_) ?_ ?_
      rotate_left
      ·
       show Act.put _ (some 11) _ = _
       simp only [Act.put, ςm, ςn, ςo, i64_w, i32_w]
       rfl
      exact norm_ (by simp only [putAll, Act.put, ςm, ςn, ςo]) (hCont (v307, v310, v313) _ ⟨hHeld, (by (with_reducible repeat (first | apply ςd | apply ςe | apply ςf)); exact HO311.out), (by (with_reducible repeat (first | apply ςd | apply ςe | apply ςf)); exact ςt HO314.out (fun _ hk => ⟨hk.2, hk.1⟩)), (by (with_reducible repeat (first | refine ςa ?_ _ | refine ςc ?_ | refine ςb ?_ _)); exact BK304.out), (by (with_reducible repeat (first | refine ςa ?_ _ | refine ςc ?_ | refine ςb ?_ _)); exact BK305.out), (by repeat (first | (with_reducible first | exact HB.out | apply ςj | apply ςh | apply ςi | refine ςg ?_ GE304.out | refine ςg ?_ GE305.out) | exact HB.out))⟩)
     skip
     refine Kd.R_lit_step k46 _ 46 ?hg (N := 13) ?hd (xs := ([(⟨a2_0, a2_1, a2_2⟩ : S46)] : List (S46))) (inner := [.int .i64 a2_0, .int .i64 a2_1, .bool a2_2]) (ok := fun _ => True) (okp := fun _ => True) ?hr ?hp (fun _ hk => hk) trivial (Below.refl _ _) (Nat.le_refl _) (by simp) ?_; (case hd => rfl); (case hg => rfl); (case hr => first | (go_simp; done) | (go_simp; rfl)); (case hp => exact (Reps.c3 (show Kd.M k46 _ _ _ (⟨a2_0, a2_1, a2_2⟩ : S46) [.int .i64 a2_0, .int .i64 a2_1, .bool a2_2] from (k46_mkM _ _ _ (⟨a2_0, a2_1, a2_2⟩ : S46) )) (Reps.none _ _)))
     intro v313 w27 ho28 hb hg_ hnew_
     clear hg_ hnew_
     (first | rw [← Ny312.out] at ho28 | (simp only [Int.reduceToNat] at ho28; rw [← Ny312.out] at ho28))
     have n0_ := ςp (Kd.R_lower (Kd.R_newB ho28 (g := gb305) (o := .cells #[.int .i64 a2_0, .int .i64 a2_1, .bool a2_2] 46 (0, 0)) (by (with_reducible repeat (first | refine ςa ?_ _ | refine ςc ?_ | refine ςb ?_ _)); exact BK305.out)) (below_size (by repeat (first | (with_reducible first | exact HB.out | apply ςj | apply ςh | apply ςi | refine ςg ?_ GE304.out | refine ςg ?_ GE305.out) | exact HB.out))))
     have n1_ := ςp (ςl (g := gb304) (o := .cells #[.int .i64 a0_0, .int .i64 a0_1, .int .i64 a0_2] 25 (0, 0)) (by (with_reducible repeat (first | refine ςa ?_ _ | refine ςc ?_ | refine ςb ?_ _)); exact BK304.out) hb)
     have n2_ := ςp (ςl (g := gb305) (o := .cells #[.int .i64 a2_0, .int .i64 a2_1, .bool a2_2] 46 (0, 0)) (by (with_reducible repeat (first | refine ςa ?_ _ | refine ςc ?_ | refine ςb ?_ _)); exact BK305.out) hb)
     have n3_ := ςp (below_step (by repeat (first | (with_reducible first | exact HB.out | apply ςj | apply ςh | apply ςi | refine ςg ?_ GE304.out | refine ςg ?_ GE305.out) | exact HB.out)) hb)
     clear BK304
     clear BK305
     clear HB
     have HO314 := n0_
     have BK304 := n1_
     have BK305 := n2_
     have HB := n3_
     clear n0_ n1_ n2_ n3_
     clear hb ho28
     refine hK.out _ _ ⟨(ςk BK305.out 0).trans rfl, (ςk BK305.out 1).trans rfl, (ςk BK305.out 2).trans rfl⟩ (fun hHeld => ?_)
     clear hK K
     refine norm_ (a' := ?_) ?_ ?_
     rotate_left
     ·
      show Act.put _ (some 13) _ = _
      simp only [Act.put, ςm, ςn, ςo, i64_w, i32_w]
      rfl
     refine one_ (i := 0) (N := some 9) #[true, true, false, true, true, false, false] rfl rfl (by kernel_rfl) (by decide) (fun K hK => ?_)
     refine Kd.R_lit_step k46 _ 46 ?hg (N := 9) ?hd (xs := ([] : List (S46))) (inner := []) (ok := fun _ => True) (okp := fun _ => True) ?hr ?hp (fun _ hk => hk) trivial (Below.refl _ _) (Nat.le_refl _) (by simp) ?_; (case hd => rfl); (case hg => rfl); (case hr => first | (go_simp; done) | (go_simp; rfl)); (case hp => exact (Reps.none _ _))
     intro v307 w29 ho30 hb hg_ hnew_
     clear hg_ hnew_
     (first | rw [← Ny306.out] at ho30 | (simp only [Int.reduceToNat] at ho30; rw [← Ny306.out] at ho30))
     have n0_ := ςp (Kd.R_elder' (by (with_reducible repeat (first | apply ςd | apply ςe | apply ςf)); exact HO314.out) (Kd.R_base ho30) hb)
     have n1_ := ςp (Kd.R_lower (Kd.R_newB (Kd.R_new' ho30 (Kd.R_lt (by (with_reducible repeat (first | apply ςd | apply ςe | apply ςf)); exact HO314.out))) (g := gb305) (o := .cells #[.int .i64 a2_0, .int .i64 a2_1, .bool a2_2] 46 (0, 0)) (by (with_reducible repeat (first | refine ςa ?_ _ | refine ςc ?_ | refine ςb ?_ _)); exact BK305.out)) (below_size (by repeat (first | (with_reducible first | exact HB.out | apply ςj | apply ςh | apply ςi | refine ςg ?_ GE304.out | refine ςg ?_ GE305.out) | exact HB.out))))
     have n2_ := ςp (ςl (g := gb304) (o := .cells #[.int .i64 a0_0, .int .i64 a0_1, .int .i64 a0_2] 25 (0, 0)) (by (with_reducible repeat (first | refine ςa ?_ _ | refine ςc ?_ | refine ςb ?_ _)); exact BK304.out) hb)
     have n3_ := ςp (ςl (g := gb305) (o := .cells #[.int .i64 a2_0, .int .i64 a2_1, .bool a2_2] 46 (0, 0)) (by (with_reducible repeat (first | refine ςa ?_ _ | refine ςc ?_ | refine ςb ?_ _)); exact BK305.out) hb)
     have n4_ := ςp (below_step (by repeat (first | (with_reducible first | exact HB.out | apply ςj | apply ςh | apply ςi | refine ςg ?_ GE304.out | refine ςg ?_ GE305.out) | exact HB.out)) hb)
     clear HO314
     clear BK304
     clear BK305
     clear HB
     have HO314 := n0_
     have HO308 := n1_
     have BK304 := n2_
     have BK305 := n3_
     have HB := n4_
     clear n0_ n1_ n2_ n3_ n4_
     clear hb ho30
     refine hK.out _ _ ⟨(ςk BK305.out 0).trans rfl, (ςk BK305.out 1).trans rfl, (ςk BK305.out 2).trans rfl⟩ (fun hHeld => ?_)
     clear hK K
     refine norm_ (a' := ?_) ?_ ?_
     rotate_left
     ·
      show Act.put _ (some 9) _ = _
      simp only [Act.put, ςm, ςn, ςo, i64_w, i32_w]
      rfl
     refine one_ (i := 2) (N := some 11) #[true, true, true, true, true, false, false] rfl rfl (by kernel_rfl) (by decide) (fun K hK => ?_)
     refine Kd.R_append_rows_step k46 (w0 := w) w.heap.size (by rfl) (.tmp 9) (.tmp 10) 31 46 (.agg #[(.int .i64 0), (.int .i64 0), (.bool false)]) 24 rfl Try.underlying31 info46 rfl (by decide) (by omega) v307 y306 l1 _ _ _ (fun k_ => some k_ ≠ (v313 : Value).ownBlock ∧ k_ ≠ gb305) (fun _ => False) rfl rfl ?aO ?aR (fun _ _ h => h) (fun _ h => h.elim) ?aF ?aB ?aS ?aL ?_
     (case aR => repeat (first | exact (Kd.C_below HR1.out HB.out) | (with_reducible refine Kd.C_alloc ?_ _) | (with_reducible refine Kd.C_drewN ?_ _) | (with_reducible refine Kd.C_drew ?_)))
     (case aB => exact (by repeat (first | (with_reducible first | exact HB.out | apply ςj | apply ςh | apply ςi | refine ςg ?_ GE304.out | refine ςg ?_ GE305.out) | exact HB.out)))
     (case aF => exact (fun k_ hk => ⟨Kd.fresh' (Kd.R_lt (by (with_reducible repeat (first | apply ςd | apply ςe | apply ςf)); exact HO314.out)) k_ hk, Kd.freshB (g := gb305) (o := .cells #[.int .i64 a2_0, .int .i64 a2_1, .bool a2_2] 46 (0, 0)) (by (with_reducible repeat (first | refine ςa ?_ _ | refine ςc ?_ | refine ςb ?_ _)); exact BK305.out) k_ hk⟩))
     (case aO => exact (by (with_reducible repeat (first | apply ςd | apply ςe | apply ςf)); exact ςt HO308.out (fun _ hk => ⟨hk.1.2, hk.2⟩)))
     (case aS => exact (below_size (by repeat (first | (with_reducible first | exact HB.out | apply ςj | apply ςh | apply ςi | refine ςg ?_ GE304.out | refine ςg ?_ GE305.out) | exact HB.out))))
     (case aL => have := LMc4.out; omega)
     intro v310 w31 ho hb hg hat
     rw [← Ny309.out] at ho
     have n0_ := ςp (blk_grown (g := gb304) (o := .cells #[.int .i64 a0_0, .int .i64 a0_1, .int .i64 a0_2] 25 (0, 0)) (by (with_reducible repeat (first | refine ςa ?_ _ | refine ςc ?_ | refine ςb ?_ _)); exact BK304.out) hg (Kd.R_ne HO308.out BK304.out (by decide)))
     have n1_ := ςp (blk_grown (g := gb305) (o := .cells #[.int .i64 a2_0, .int .i64 a2_1, .bool a2_2] 46 (0, 0)) (by (with_reducible repeat (first | refine ςa ?_ _ | refine ςc ?_ | refine ςb ?_ _)); exact BK305.out) hg (Kd.R_away HO308.out (fun _ hk => hk.2)))
     have n2_ := ςp (Kd.R_after (ok := (fun k_ => k_ ≠ gb305)) (by (with_reducible repeat (first | apply ςd | apply ςe | apply ςf)); exact ςt HO314.out (fun _ hk => ⟨hk.1.2, hk.2⟩)) hg hat)
     have n3_ := ςp (hb)
     have n4_ := ςp (ho)
     clear BK304
     clear BK305
     clear HO314
     clear HB
     clear HO308
     have BK304 := n0_
     have BK305 := n1_
     have HO314 := n2_
     have HB := n3_
     have HO311 := n4_
     clear n0_ n1_ n2_ n3_ n4_
     clear ho hb hg hat
     refine hK.out _ _ ⟨(ςk BK305.out 0).trans rfl, (ςk BK305.out 1).trans rfl, (ςk BK305.out 2).trans rfl⟩ (fun hHeld => ?_)
     clear hK K
     refine norm_ (a' := ?_) ?_ ?_
     rotate_left
     ·
      show Act.put _ (some 11) _ = _
      simp only [Act.put, ςm, ςn, ςo, i64_w, i32_w]
      rfl
     exact norm_ (by simp only [putAll, Act.put, ςm, ςn, ςo]) (hCont (v307, v310, v313) _ ⟨hHeld, (by (with_reducible repeat (first | apply ςd | apply ςe | apply ςf)); exact HO311.out), (by (with_reducible repeat (first | apply ςd | apply ςe | apply ςf)); exact ςt HO314.out (fun _ hk => ⟨hk.2, hk.1⟩)), (by (with_reducible repeat (first | refine ςa ?_ _ | refine ςc ?_ | refine ςb ?_ _)); exact BK304.out), (by (with_reducible repeat (first | refine ςa ?_ _ | refine ςc ?_ | refine ςb ?_ _)); exact BK305.out), (by repeat (first | (with_reducible first | exact HB.out | apply ςj | apply ςh | apply ςi | refine ςg ?_ GE304.out | refine ςg ?_ GE305.out) | exact HB.out))⟩)
    rintro ⟨v307, v310, v313⟩ w32 ⟨hS_, h0_, h1_, h2_, h3_, h4_⟩
    have n0_ : Aside0 (Kd.R k46 46 w32 w.heap.size (fun k_ => some k_ ≠ (v313 : Value).ownBlock ∧ k_ ≠ gb305) v310 y309) := ⟨h0_⟩
    have n1_ : Aside0 (Kd.R k46 46 w32 w.heap.size (fun k_ => some k_ ≠ (v310 : Value).ownBlock ∧ k_ ≠ gb305) v313 y312) := ⟨h1_⟩
    have n2_ : Aside0 (w32.heap[gb304]? = some (.cells #[.int .i64 a0_0, .int .i64 a0_1, .int .i64 a0_2] 25 (0, 0))) := ⟨h2_⟩
    have n3_ : Aside0 (w32.heap[gb305]? = some (.cells #[.int .i64 a2_0, .int .i64 a2_1, .bool a2_2] 46 (0, 0))) := ⟨h3_⟩
    have n4_ : Aside0 (Below w.heap.size w w32) := ⟨h4_⟩
    clear BK304
    clear BK305
    clear HB
    clear h0_ h1_ h2_ h3_ h4_
    have HO311 := n0_
    have HO314 := n1_
    have BK304 := n2_
    have BK305 := n3_
    have HB := n4_
    clear n0_ n1_ n2_ n3_ n4_
    have hHeld : w32.cell? ⟨gb305, 0, none⟩ = some (.int .i64 a2_0) ∧ w32.cell? ⟨gb305, 1, none⟩ = some (.int .i64 a2_1) ∧ w32.cell? ⟨gb305, 2, none⟩ = some (.bool a2_2) := hS_
    obtain ⟨Ao34, co34, eo34⟩ := Kd.R_slice HO314.out
    (first | subst eo34 | (injection eo34 with f1_ f2_ f3_; have f4_ := f1_.symm; have f5_ := f3_.symm; clear f1_ f2_ f3_; subst f4_; subst f5_))
    refine norm_ (a' := ?_) ?_ ?_
    rotate_left
    ·
     simp only [putAll, Act.put, ςm, ςn, ςo]
     rfl
    refine one_ (i := 5) (N := some 14) #[true, true, true, true, true, true, false] rfl rfl (by kernel_rfl) (by decide) (fun K hK => ?_)
    refine Kd.R_append_rows_step k46 (w0 := w) w.heap.size (by rfl) (.tmp 11) (.tmp 13) 31 46 (.agg #[(.int .i64 0), (.int .i64 0), (.bool false)]) 24 rfl Try.underlying31 info46 rfl (by decide) (by omega) v310 y309 y312 _ _ _ (fun k_ => some k_ ≠ (.slice Ao34 y312.length co34 : Value).ownBlock ∧ k_ ≠ gb305) (fun _ => False) rfl rfl ?aO ?aR (fun _ _ h => h) (fun _ h => h.elim) ?aF ?aB ?aS ?aL ?_
    (case aR => repeat (first | exact (Kd.R_reads' HO314.out).2.2 | (with_reducible refine Kd.C_alloc ?_ _) | (with_reducible refine Kd.C_drewN ?_ _) | (with_reducible refine Kd.C_drew ?_)))
    (case aB => exact (by repeat (first | (with_reducible first | exact HB.out | apply ςj | apply ςh | apply ςi | refine ςg ?_ GE304.out | refine ςg ?_ GE305.out) | exact HB.out)))
    (case aF => exact (fun k_ hk => ⟨Kd.fresh' (Kd.R_lt (by (with_reducible repeat (first | apply ςd | apply ςe | apply ςf)); exact HO314.out)) k_ hk, Kd.freshB (g := gb305) (o := .cells #[.int .i64 a2_0, .int .i64 a2_1, .bool a2_2] 46 (0, 0)) (by (with_reducible repeat (first | refine ςa ?_ _ | refine ςc ?_ | refine ςb ?_ _)); exact BK305.out) k_ hk⟩))
    (case aO => exact (by (with_reducible repeat (first | apply ςd | apply ςe | apply ςf)); exact HO311.out))
    (case aS => exact (below_size (by repeat (first | (with_reducible first | exact HB.out | apply ςj | apply ςh | apply ςi | refine ςg ?_ GE304.out | refine ςg ?_ GE305.out) | exact HB.out))))
    (case aL => have := LMc5.out; omega)
    intro v316 w33 ho hb hg hat
    rw [← Ny315.out] at ho
    have n0_ := ςp (blk_grown (g := gb304) (o := .cells #[.int .i64 a0_0, .int .i64 a0_1, .int .i64 a0_2] 25 (0, 0)) (by (with_reducible repeat (first | refine ςa ?_ _ | refine ςc ?_ | refine ςb ?_ _)); exact BK304.out) hg (Kd.R_ne HO311.out BK304.out (by decide)))
    have n1_ := ςp (blk_grown (g := gb305) (o := .cells #[.int .i64 a2_0, .int .i64 a2_1, .bool a2_2] 46 (0, 0)) (by (with_reducible repeat (first | refine ςa ?_ _ | refine ςc ?_ | refine ςb ?_ _)); exact BK305.out) hg (Kd.R_away HO311.out (fun _ hk => hk.2)))
    have n2_ := ςp (Kd.R_after (ok := (fun k_ => k_ ≠ gb305)) (by (with_reducible repeat (first | apply ςd | apply ςe | apply ςf)); exact ςt HO314.out (fun _ hk => ⟨hk.2, hk.1⟩)) hg hat)
    have n3_ := ςp (hb)
    have n4_ := ςp (ho)
    clear BK304
    clear BK305
    clear HO314
    clear HB
    clear HO311
    have BK304 := n0_
    have BK305 := n1_
    have HO314 := n2_
    have HB := n3_
    have HO317 := n4_
    clear n0_ n1_ n2_ n3_ n4_
    clear ho hb hg hat
    refine hK.out _ _ ⟨(ςk BK305.out 0).trans rfl, (ςk BK305.out 1).trans rfl, (ςk BK305.out 2).trans rfl⟩ (fun hHeld => ?_)
    clear hK K
    refine norm_ (a' := ?_) ?_ ?_
    rotate_left
    ·
     show Act.put _ (some 14) _ = _
     simp only [Act.put, ςm, ςn, ςo, i64_w, i32_w]
     rfl
    refine pure_ (i := 6) (N := some 8) (v := ?_) (a' := ?_) #[true, true, true, true, true, true, true] rfl rfl (by kernel_rfl) (fun _ _ _ h => h) (Or.inl ⟨by rfl, ?_⟩) ?_ ?_
    rotate_left; · (intro w'; go_simp; with_reducible rfl)
    rotate_left; · (simp only [Act.put, ςm, ςn, ςo, i64_w, i32_w]; rfl)
    refine done_ (by kernel_rfl) ?_
    have hnb35 := NB304_305.out
    have hnc35 := NB305_304.out
    have hcz36_0 : w33.cell? ⟨gb304, 0, none⟩ = some (.int .i64 a0_0) := (ςk BK304.out 0).trans rfl
    have hcz36_1 : w33.cell? ⟨gb304, 1, none⟩ = some (.int .i64 a0_1) := (ςk BK304.out 1).trans rfl
    have hcz36_2 : w33.cell? ⟨gb304, 2, none⟩ = some (.int .i64 a0_2) := (ςk BK304.out 2).trans rfl
    have hfz36_0 := blk_frozen BK304.out 0
    have hfz36_1 := blk_frozen BK304.out 1
    have hfz36_2 := blk_frozen BK304.out 2
    obtain ⟨Ao37, co37, eo37⟩ := Kd.R_slice HO317.out
    subst eo37
    try go_wp2_with (first | ((with_reducible refine gate_callee (f := 29) rfl ?_); refine goesL_ (some 17) rfl rfl Try.func29 (by kernel_rfl) rfl #[.agg #[.int .i64 a0_0, .int .i64 a0_1, .int .i64 a0_2], .slice Ao37 y315.length co37] rfl (by (try simp only [List.map_toArray, List.map_cons, List.map_nil]); first | done | rfl | (simp only [List.length_drop, List.length_take]; rfl)) ?_; (with_reducible refine (spec_AreOffers.calls k a0_0 a0_1 a0_2 _ _ y315 false _ ?side1 ?side2 A6.out).mono ?_); (case side1 => repeat (first | exact (Kd.R_reads' HO317.out).2.2 | (with_reducible refine Kd.C_alloc ?_ _) | (with_reducible refine Kd.C_drewN ?_ _) | (with_reducible refine Kd.C_drew ?_))); (case side2 => exact (Kd.R_reads' HO317.out).2.1); rintro e w38 ⟨rfl, hb⟩; refine ⟨_, rfl, ?_⟩; have n0_ := ςp (Kd.R_below (by (with_reducible repeat (first | apply ςd | apply ςe | apply ςf)); exact HO314.out) hb); have n1_ := ςp (Kd.R_below (by (with_reducible repeat (first | apply ςd | apply ςe | apply ςf)); exact HO317.out) hb); have n2_ := ςp (ςl (g := gb304) (o := .cells #[.int .i64 a0_0, .int .i64 a0_1, .int .i64 a0_2] 25 (0, 0)) (by (with_reducible repeat (first | refine ςa ?_ _ | refine ςc ?_ | refine ςb ?_ _)); exact BK304.out) hb); have n3_ := ςp (ςl (g := gb305) (o := .cells #[.int .i64 a2_0, .int .i64 a2_1, .bool a2_2] 46 (0, 0)) (by (with_reducible repeat (first | refine ςa ?_ _ | refine ςc ?_ | refine ςb ?_ _)); exact BK305.out) hb); have n4_ := ςp (below_step (by repeat (first | (with_reducible first | exact HB.out | apply ςj | apply ςh | apply ςi | refine ςg ?_ GE304.out | refine ςg ?_ GE305.out) | exact HB.out)) hb); clear HO314; clear HO317; clear BK304; clear BK305; clear HB; have HO314 := n0_; have HO317 := n1_; have BK304 := n2_; have BK305 := n3_; have HB := n4_; clear n0_ n1_ n2_ n3_ n4_; (try clear hb); (try clear hb2); (try clear hk); (try clear hi)) | ((with_reducible refine gate_dst (N := 19) rfl ?_); refine Kd.R_lit k46 _ 46 ?hg (N := 19) ?hd (xs := ([] : List (S46))) (inner := []) (ok := fun _ => True) (okp := fun _ => True) ?hr ?hp (fun _ hk => hk) trivial (Below.refl _ _) (Nat.le_refl _) (by simp) ?_; (case hd => rfl); (case hg => rfl); (case hr => first | (go_simp; done) | (go_simp; rfl)); (case hp => exact (Reps.none _ _)); intro v320 w39 ho40 hb hg_ hnew_; clear hg_ hnew_; (first | rw [← Ny319.out] at ho40 | (simp only [Int.reduceToNat] at ho40; rw [← Ny319.out] at ho40)); have n0_ := ςp (Kd.R_elder' (by (with_reducible repeat (first | apply ςd | apply ςe | apply ςf)); exact HO314.out) (Kd.R_base ho40) hb); have n1_ := ςp (Kd.R_elder' (by (with_reducible repeat (first | apply ςd | apply ςe | apply ςf)); exact HO317.out) (Kd.R_base ho40) hb); have n2_ := ςp (Kd.R_lower (Kd.R_newB (Kd.R_new' (Kd.R_new' ho40 (Kd.R_lt (by (with_reducible repeat (first | apply ςd | apply ςe | apply ςf)); exact HO314.out))) (Kd.R_lt (by (with_reducible repeat (first | apply ςd | apply ςe | apply ςf)); exact HO317.out))) (g := gb305) (o := .cells #[.int .i64 a2_0, .int .i64 a2_1, .bool a2_2] 46 (0, 0)) (by (with_reducible repeat (first | refine ςa ?_ _ | refine ςc ?_ | refine ςb ?_ _)); exact BK305.out)) (below_size (by repeat (first | (with_reducible first | exact HB.out | apply ςj | apply ςh | apply ςi | refine ςg ?_ GE304.out | refine ςg ?_ GE305.out) | exact HB.out)))); have n3_ := ςp (ςl (g := gb304) (o := .cells #[.int .i64 a0_0, .int .i64 a0_1, .int .i64 a0_2] 25 (0, 0)) (by (with_reducible repeat (first | refine ςa ?_ _ | refine ςc ?_ | refine ςb ?_ _)); exact BK304.out) hb); have n4_ := ςp (ςl (g := gb305) (o := .cells #[.int .i64 a2_0, .int .i64 a2_1, .bool a2_2] 46 (0, 0)) (by (with_reducible repeat (first | refine ςa ?_ _ | refine ςc ?_ | refine ςb ?_ _)); exact BK305.out) hb); have n5_ := ςp (below_step (by repeat (first | (with_reducible first | exact HB.out | apply ςj | apply ςh | apply ςi | refine ςg ?_ GE304.out | refine ςg ?_ GE305.out) | exact HB.out)) hb); clear HO314; clear HO317; clear BK304; clear BK305; clear HB; have HO314 := n0_; have HO317 := n1_; have HO321 := n2_; have BK304 := n3_; have BK305 := n4_; have HB := n5_; clear n0_ n1_ n2_ n3_ n4_ n5_; clear hb ho40) | ((with_reducible refine gate_builtin (b := .append) (xs := #[.tmp 19, .tmp 20]) rfl ?_); at_builtin; refine Kd.R_append_rows k46 (w0 := w) w.heap.size rfl (.tmp 19) (.tmp 20) 31 46 (.agg #[(.int .i64 0), (.int .i64 0), (.bool false)]) 24 rfl Try.underlying31 info46 rfl (by decide) (by omega) v320 y319 l1 _ _ _ (fun k_ => some k_ ≠ (.slice Ao34 y312.length co34 : Value).ownBlock ∧ some k_ ≠ (.slice Ao37 y315.length co37 : Value).ownBlock ∧ k_ ≠ gb305) (fun _ => False) rfl rfl ?aO ?aR (fun _ _ h => h) (fun _ h => h.elim) ?aF ?aB ?aS ?aL ?_; (case aR => repeat (first | exact (Kd.C_below HR1.out HB.out) | (with_reducible refine Kd.C_alloc ?_ _) | (with_reducible refine Kd.C_drewN ?_ _) | (with_reducible refine Kd.C_drew ?_))); (case aB => exact (by repeat (first | (with_reducible first | exact HB.out | apply ςj | apply ςh | apply ςi | refine ςg ?_ GE304.out | refine ςg ?_ GE305.out) | exact HB.out))); (case aF => exact (fun k_ hk => ⟨Kd.fresh' (Kd.R_lt (by (with_reducible repeat (first | apply ςd | apply ςe | apply ςf)); exact HO314.out)) k_ hk, Kd.fresh' (Kd.R_lt (by (with_reducible repeat (first | apply ςd | apply ςe | apply ςf)); exact HO317.out)) k_ hk, Kd.freshB (g := gb305) (o := .cells #[.int .i64 a2_0, .int .i64 a2_1, .bool a2_2] 46 (0, 0)) (by (with_reducible repeat (first | refine ςa ?_ _ | refine ςc ?_ | refine ςb ?_ _)); exact BK305.out) k_ hk⟩)); (case aO => exact (by (with_reducible repeat (first | apply ςd | apply ςe | apply ςf)); exact ςt HO321.out (fun _ hk => ⟨hk.1.1.2, ⟨hk.1.2, hk.2⟩⟩))); (case aS => exact (below_size (by repeat (first | (with_reducible first | exact HB.out | apply ςj | apply ςh | apply ςi | refine ςg ?_ GE304.out | refine ςg ?_ GE305.out) | exact HB.out)))); (case aL => have := LMc23.out; omega); intro v323 w41 ho hb hg hat; rw [← Ny322.out] at ho; have n0_ := ςp (blk_grown (g := gb304) (o := .cells #[.int .i64 a0_0, .int .i64 a0_1, .int .i64 a0_2] 25 (0, 0)) (by (with_reducible repeat (first | refine ςa ?_ _ | refine ςc ?_ | refine ςb ?_ _)); exact BK304.out) hg (Kd.R_ne HO321.out BK304.out (by decide))); have n1_ := ςp (blk_grown (g := gb305) (o := .cells #[.int .i64 a2_0, .int .i64 a2_1, .bool a2_2] 46 (0, 0)) (by (with_reducible repeat (first | refine ςa ?_ _ | refine ςc ?_ | refine ςb ?_ _)); exact BK305.out) hg (Kd.R_away HO321.out (fun _ hk => hk.2))); have n2_ := ςp (Kd.R_after (ok := (fun k_ => some k_ ≠ (.slice Ao37 y315.length co37 : Value).ownBlock ∧ k_ ≠ gb305)) (by (with_reducible repeat (first | apply ςd | apply ςe | apply ςf)); exact ςt HO314.out (fun _ hk => ⟨⟨hk.1.2, hk.1.1⟩, hk.2⟩)) hg hat); have n3_ := ςp (Kd.R_after (ok := (fun k_ => some k_ ≠ (.slice Ao34 y312.length co34 : Value).ownBlock ∧ k_ ≠ gb305)) (by (with_reducible repeat (first | apply ςd | apply ςe | apply ςf)); exact HO317.out) hg hat); have n4_ := ςp (hb); have n5_ := ςp (ho); clear BK304; clear BK305; clear HO314; clear HO317; clear HB; clear HO321; have BK304 := n0_; have BK305 := n1_; have HO314 := n2_; have HO317 := n3_; have HB := n4_; have HO324 := n5_; clear n0_ n1_ n2_ n3_ n4_ n5_; clear ho hb hg hat))
    go_ret2
    exact ⟨_, by first | rfl | (simp [errW_none, errW_some] <;> rfl) | (simp [*, errW_none, errW_some] <;> rfl), by (with_reducible repeat (first | apply ςd | apply ςe | apply ςf)); exact ςt HO324.out (fun _ hk => trivial), by repeat (first | (with_reducible first | exact HB.out | apply ςj | apply ςh | apply ςi | refine ςg ?_ GE304.out | refine ςg ?_ GE305.out) | exact HB.out)⟩
   rw [if_neg c23] at H
   exact absurd H (by simp)
  rw [if_neg c5] at H
  exact absurd H (by simp)
 rw [if_neg c4] at H
 exact absurd H (by simp)

/-! ### spec_l1Byte: function 76 -/
def spec_l1Byte.f (s0_0 : List Int) (s0_1 : Int) (s0_2 : Int) : Option (Int × Int × Int) := if s0_1 < (s0_0.length : Int) then (if 0 ≤ s0_1 then (some (Go.bits .and .i64 (wrap64 ((Go.bits .and .i64 (Go.bits .xor .i64 ((wrap64 ((wrap64 (s0_2 * 6364136223846793005)) + 1442695040888963407)) / 8589934592) ((wrap64 ((wrap64 (s0_2 * 6364136223846793005)) + 1442695040888963407)) / 140737488355328)) 255) + (wrap64 (rd s0_0 s0_1)))) 255, wrap64 (s0_1 + 1), wrap64 ((wrap64 (s0_2 * 6364136223846793005)) + 1442695040888963407))) else (none)) else (some (Go.bits .and .i64 (Go.bits .xor .i64 ((wrap64 ((wrap64 (s0_2 * 6364136223846793005)) + 1442695040888963407)) / 8589934592) ((wrap64 ((wrap64 (s0_2 * 6364136223846793005)) + 1442695040888963407)) / 140737488355328)) 255, s0_1, wrap64 ((wrap64 (s0_2 * 6364136223846793005)) + 1442695040888963407)))
set_option maxHeartbeats 8000000 in
set_option maxRecDepth 100000 in
theorem spec_l1Byte.calls (g : Nat) (s0_0 : List Int) (s0_1 : Int) (s0_2 : Int) (r1 : Int) (r2 : Int) (r3 : Int) (w0 w : World) (hI : IsS86 w0 w g s0_0 s0_1 s0_2) (hB : Below w0.heap.size w0 w) (h : spec_l1Byte.f s0_0 s0_1 s0_2 = some (r1, r2, r3)) :
  Calls Try.prog 76 #[.pointer (some ⟨g, 0, none⟩)] w fun e w' => e = .returned (.int .i64 r1) ∧ IsS86 w0 w' g s0_0 r2 r3 ∧ Below w0.heap.size w0 w' ∧ KeepBut w w' g none := by
 have HI0 := ςp hI
 have HK := ςp (KeepBut.refl w g none)
 have HL := ςp hB.size
 clear hI
 have HW0 := ςp hB.size
 have HB := ςp hB
 clear hB
 have H : (if s0_1 < (s0_0.length : Int) then (if 0 ≤ s0_1 then (some (Go.bits .and .i64 (wrap64 ((Go.bits .and .i64 (Go.bits .xor .i64 ((wrap64 ((wrap64 (s0_2 * 6364136223846793005)) + 1442695040888963407)) / 8589934592) ((wrap64 ((wrap64 (s0_2 * 6364136223846793005)) + 1442695040888963407)) / 140737488355328)) 255) + (wrap64 (rd s0_0 s0_1)))) 255, wrap64 (s0_1 + 1), wrap64 ((wrap64 (s0_2 * 6364136223846793005)) + 1442695040888963407))) else (none)) else (some (Go.bits .and .i64 (Go.bits .xor .i64 ((wrap64 ((wrap64 (s0_2 * 6364136223846793005)) + 1442695040888963407)) / 8589934592) ((wrap64 ((wrap64 (s0_2 * 6364136223846793005)) + 1442695040888963407)) / 140737488355328)) 255, s0_1, wrap64 ((wrap64 (s0_2 * 6364136223846793005)) + 1442695040888963407)))) = some (r1, r2, r3) := h
 clear h
 by_cases c2 : s0_1 < (s0_0.length : Int)
 ·
  rw [if_pos c2] at H
  have c2b0 : decide (s0_1 < (s0_0.length : Int)) = true := decide_eq_true c2
  clear c2
  by_cases c3 : 0 ≤ s0_1
  ·
   rw [if_pos c3] at H
   have c3b0 : decide (0 ≤ s0_1) = true := decide_eq_true c3
   clear c3
   simp only [Option.some.injEq, Prod.mk.injEq] at H
   obtain ⟨rfl, rfl, rfl⟩ := H
   obtain ⟨ASz4_0, cSz4_0, HGz4, hgz4, HSz4_0⟩ := HI0.out
   have hcz4_0 := cellS86_0 HGz4
   have hcz4_1 := cellS86_1 HGz4
   have hcz4_2 := cellS86_2 HGz4
   have hfz4_1 := blk_frozen HGz4 1
   have hfz4_2 := blk_frozen HGz4 2
   clear HGz4 hgz4
   have p325 : 0 ≤ (s0_1 : Int) := of_decide_eq_true (by first | (with_reducible assumption) | assumption)
   have q325 : s0_1 < (s0_0.length : Int) := of_decide_eq_true (by first | (with_reducible assumption) | assumption)
   obtain ⟨ad325, e325, hx325_0⟩ := Kd.at_int HSz4_0 s0_1 p325 q325
   cases e325
   have hn325_0 : ad325.block ≠ g := Nat.ne_of_lt (Nat.lt_of_lt_of_le (by have := World.block_lt_of_cell? _ _ hx325_0; first | rwa [add_block] at this | exact this) (IsS86.ge HI0.out))
   replace hx325_0 := pw_cell_below HB.out hx325_0
   replace hx325_0 := (cell_far (p := ⟨g, 2, none⟩) (by first | (rw [add_block]; exact hn325_0) | (show (Addr.add _ _).block ≠ _; rw [add_block]; exact hn325_0) | exact hn325_0) (.int .i64 (wrap64 ((wrap64 (s0_2 * 6364136223846793005)) + 1442695040888963407)))).trans hx325_0
   (try have hy325_0 := fun (n_ : Nat) => (show (((w.drewN n_).setCell ⟨g, 2, none⟩ (.int .i64 (wrap64 ((wrap64 (s0_2 * 6364136223846793005)) + 1442695040888963407))))).cell? _ = some _ from hx325_0))
   clear hn325_0
   replace p325 := eq_true p325
   replace q325 := eq_true q325
   go_enter Try.func76, Try.ntmps76
   go_wp2
   repeat (go_quiet (fail); try go_wp2)
   go_ret
   exact ⟨by first | rfl | (simp [errW_none, errW_some] <;> rfl) | (simp [*, errW_none, errW_some] <;> rfl), by repeat (first | (with_reducible first | exact HI0.out | apply IsS86.alloc | apply IsS86.drewN | apply IsS86.drew | apply IsS86.set_1 | apply IsS86.set_2) | exact HI0.out), by repeat (first | (with_reducible first | exact HB.out | apply ςj | apply ςh | apply ςi | refine ςg ?_ (IsS86.ge HI0.out)) | exact HB.out), by repeat (first | (with_reducible first | exact HK.out | apply KeepBut.set_ | apply keep_drewN | apply keep_drew | apply keep_alloc) | exact HK.out)⟩
  rw [if_neg c3] at H
  exact absurd H (by simp)
 rw [if_neg c2] at H
 have c2b0 : decide (s0_1 < (s0_0.length : Int)) = false := decide_eq_false c2
 clear c2
 simp only [Option.some.injEq, Prod.mk.injEq] at H
 obtain ⟨rfl, rfl, rfl⟩ := H
 obtain ⟨ASz5_0, cSz5_0, HGz5, hgz5, HSz5_0⟩ := HI0.out
 have hcz5_0 := cellS86_0 HGz5
 have hcz5_1 := cellS86_1 HGz5
 have hcz5_2 := cellS86_2 HGz5
 have hfz5_1 := blk_frozen HGz5 1
 have hfz5_2 := blk_frozen HGz5 2
 clear HGz5 hgz5
 go_enter Try.func76, Try.ntmps76
 go_wp2
 repeat (go_quiet (fail); try go_wp2)
 go_ret
 exact ⟨by first | rfl | (simp [errW_none, errW_some] <;> rfl) | (simp [*, errW_none, errW_some] <;> rfl), by repeat (first | (with_reducible first | exact HI0.out | apply IsS86.alloc | apply IsS86.drewN | apply IsS86.drew | apply IsS86.set_1 | apply IsS86.set_2) | exact HI0.out), by repeat (first | (with_reducible first | exact HB.out | apply ςj | apply ςh | apply ςi | refine ςg ?_ (IsS86.ge HI0.out)) | exact HB.out), by repeat (first | (with_reducible first | exact HK.out | apply KeepBut.set_ | apply keep_drewN | apply keep_drew | apply keep_alloc) | exact HK.out)⟩

end Go.Proofs.Ytimikonnmcgljaa.QFnOffers
