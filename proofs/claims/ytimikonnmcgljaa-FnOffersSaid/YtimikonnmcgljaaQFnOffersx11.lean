-- Laid by this session's own program (wip/myprint.py), the kit's printer its engine; turned by hand where that fell. Lean checks it.
import Derived.Test.YtimikonnmcgljaaQFnOffersx0
import Derived.Test.YtimikonnmcgljaaQFnOffersx10
import Derived.Lib.SliceRun
namespace Go.Proofs.Ytimikonnmcgljaa.QFnOffers
open Go.RowKit Go.Proofs.YtimikonnmcgljaaW.PrintWords Go.Proofs.YtimikonnmcgljaaW.PrintLast Go.Proofs.YtimikonnmcgljaaW.PrintMore
attribute [local go_sem] max2_int min2_int max_two min_two max_three min_three max_four min_four   -- for this text's walks alone
set_option linter.unusedVariables false
set_option linter.unusedSimpArgs false

/-! ### impl_Offer: function 61 -/
def impl_Offer.f (l0 : List (S46)) : Option ((List (S46))) := (some (([] : List (S46)) : List (S46))).bind fun y261 => (if y261.length + l0.length < 5864062014805 then (some (y261 ++ l0)) else (none))
set_option linter.defProp false
def ξa := @blk_drewN
def ξb := @blk_alloc
def ξc := @blk_drew
def ξd := @Kd.R_alloc
def ξe := @Kd.R_drewN
def ξf := @Kd.R_drew
def ξg := @below_set
def ξh := @pw_below_drewN
def ξi := @below_drew1
def ξj := @below_alloc
def ξk := @blk_cell
def ξl := @blk_below
def ξm := @List.setIfInBounds_toArray
def ξn := @List.set_cons_zero
def ξo := @List.set_cons_succ
def ξp := @Aside0.mk
set_option maxHeartbeats 8000000 in
set_option maxRecDepth 100000 in
theorem impl_Offer.calls (A0 : Option Addr) (c0 : Nat) (l0 : List (S46)) (r : List (S46)) (w : World) (hr0 : Kd.C k46 w A0 l0.length l0) (hc0 : l0.length ≤ c0) (h : impl_Offer.f l0 = some r) :
  Calls Try.prog 61 #[.slice A0 l0.length c0] w fun e w' => ∃ v0_ : Value, e = .returned (v0_) ∧ Kd.R k46 46 w' w.heap.size (fun _ => True) v0_ r ∧ Below w.heap.size w w' := by
 have HR0 := ξp hr0
 have HC0 := ξp hc0
 clear hr0 hc0
 have HB := ξp (Below.refl w.heap.size w)
 have H : ((some (([] : List (S46)) : List (S46))).bind fun y261 => (if y261.length + l0.length < 5864062014805 then (some (y261 ++ l0)) else (none))) = some r := h
 clear h
 obtain ⟨y261, hy261⟩ : ∃ y_ : List (S46), y_ = (([] : List (S46))) := ⟨_, rfl⟩
 replace H : (if y261.length + l0.length < 5864062014805 then (some (y261 ++ l0)) else (none)) = some r := by first | (rw [hy261]; with_reducible exact H) | (have H2_ := (Option.bind_some _ _).symm.trans H; rw [hy261]; with_reducible exact H2_) | (have H2_ := (Option.bind_some _ _).symm.trans H; with_reducible exact H2_) | with_reducible exact H | (rw [hy261]; exact H) | exact H
 have Ny261 := ξp hy261
 clear hy261
 by_cases c2 : y261.length + l0.length < 5864062014805
 ·
  rw [if_pos c2] at H
  have LMc2 := ξp c2
  clear c2
  obtain ⟨y264, hy264⟩ : ∃ y_ : List (S46), y_ = (y261 ++ l0) := ⟨_, rfl⟩
  replace H : (some y264) = some r := by first | (rw [hy264]; with_reducible exact H) | (have H2_ := (Option.bind_some _ _).symm.trans H; rw [hy264]; with_reducible exact H2_) | (have H2_ := (Option.bind_some _ _).symm.trans H; with_reducible exact H2_) | with_reducible exact H | (rw [hy264]; exact H) | exact H
  have Ny264 := ξp hy264
  clear hy264
  obtain rfl := Option.some.inj H
  rcases A0 with _ | ad0
  ·
   have hn0 : l0 = [] := by
    rcases l0 with _ | ⟨x_, l_⟩
    ·
     rfl
    obtain ⟨_, he_, _⟩ := HR0.out.2.2 (by simp)
    cases he_
   have he0 := fun w => Lib.run_eql_slice_nil (P := Try.prog) w 31 46 none l0.length c0 0 0 Try.underlying31
   have Hr := ξp (show y264 = [] by rw [Ny264.out, Ny261.out, hn0]; rfl)
   clear hn0
   go_enter Try.func61, Try.ntmps61
   go_wp2
   go_ret
   exact ⟨_, rfl, by rw [Hr.out]; exact Kd.R_nil _ _ _ _ _, by repeat (first | (with_reducible first | exact HB.out | apply ξj | apply ξh | apply ξi) | exact HB.out)⟩
  have he0 := fun w => Lib.run_eql_slice_nil (P := Try.prog) w 31 46 (some ad0) l0.length c0 0 0 Try.underlying31
  go_enter Try.func61, Try.ntmps61
  go_wp2_with (first | ((with_reducible refine gate_dst (N := 5) rfl ?_); refine Kd.R_lit k46 _ 46 ?hg (N := 5) ?hd (xs := ([] : List (S46))) (inner := []) (ok := fun _ => True) (okp := fun _ => True) ?hr ?hp (fun _ hk => hk) trivial (Below.refl _ _) (Nat.le_refl _) (by simp) ?_; (case hd => rfl); (case hg => rfl); (case hr => first | (go_simp; done) | (go_simp; rfl)); (case hp => exact (Reps.none _ _)); intro v262 w3 ho4 hb hg_ hnew_; clear hg_ hnew_; (first | rw [← Ny261.out] at ho4 | (simp only [Int.reduceToNat] at ho4; rw [← Ny261.out] at ho4)); have n0_ := ξp (Kd.R_lower ho4 (below_size (by repeat (first | (with_reducible first | exact HB.out | apply ξj | apply ξh | apply ξi) | exact HB.out)))); have n1_ := ξp (below_step (by repeat (first | (with_reducible first | exact HB.out | apply ξj | apply ξh | apply ξi) | exact HB.out)) hb); clear HB; have HO263 := n0_; have HB := n1_; clear n0_ n1_; clear hb ho4) | ((with_reducible refine gate_builtin (b := .append) (xs := #[.tmp 5, .tmp 6]) rfl ?_); at_builtin; refine Kd.R_append_rows k46 (w0 := w) w.heap.size rfl (.tmp 5) (.tmp 6) 31 46 (.agg #[(.int .i64 0), (.int .i64 0), (.bool false)]) 24 rfl Try.underlying31 info46 rfl (by decide) (by omega) v262 y261 l0 _ _ _ (fun _ => True) (fun _ => False) rfl rfl ?aO ?aR (fun _ _ h => h) (fun _ h => h.elim) ?aF ?aB ?aS ?aL ?_; (case aR => repeat (first | exact (Kd.C_below HR0.out HB.out) | (with_reducible refine Kd.C_alloc ?_ _) | (with_reducible refine Kd.C_drewN ?_ _) | (with_reducible refine Kd.C_drew ?_))); (case aB => exact (by repeat (first | (with_reducible first | exact HB.out | apply ξj | apply ξh | apply ξi) | exact HB.out))); (case aF => exact (fun _ _ => trivial)); (case aO => exact (by (with_reducible repeat (first | apply ξd | apply ξe | apply ξf)); exact HO263.out)); (case aS => exact (below_size (by repeat (first | (with_reducible first | exact HB.out | apply ξj | apply ξh | apply ξi) | exact HB.out)))); (case aL => have := LMc2.out; omega); intro v265 w5 ho hb hg hat; rw [← Ny264.out] at ho; have n0_ := ξp (hb); have n1_ := ξp (ho); clear HB; clear HO263; have HB := n0_; have HO266 := n1_; clear n0_ n1_; clear ho hb hg hat))
  go_ret
  exact ⟨_, by first | rfl | (simp [errW_none, errW_some] <;> rfl) | (simp [*, errW_none, errW_some] <;> rfl), by (with_reducible repeat (first | apply ξd | apply ξe | apply ξf)); exact HO266.out, by repeat (first | (with_reducible first | exact HB.out | apply ξj | apply ξh | apply ξi) | exact HB.out)⟩
 rw [if_neg c2] at H
 exact absurd H (by simp)

/-! ### impl_MakeOffer: function 33 -/
def impl_MakeOffer.f (k : Nat) (a0_0 : Int) (a0_1 : Int) (a0_2 : Int) (l1 : List (S46)) (a2_0 : Int) (a2_1 : Int) (a2_2 : Bool) : Option ((List (S46)) × Bool) := (impl_Offer.f l1).bind fun t269 => ((some (([(⟨a2_0, a2_1, a2_2⟩ : S46)] : List (S46)) : List (S46))).bind fun y272 => (if t269.length + y272.length < 5864062014805 then ((some (t269 ++ y272 : List (S46))).bind fun y275 => ((impl_AreOffers.f k a0_0 a0_1 a0_2 y275).bind fun t278 => (if t278 = true then (some (y275, true)) else ((impl_Offer.f l1).bind fun t279 => (some (t279, false)))))) else (none)))
theorem impl_MakeOffer.mono : ∀ a0 a1 a2 a3 a4 a5 a6 k, LeO (impl_MakeOffer.f k a0 a1 a2 a3 a4 a5 a6) (impl_MakeOffer.f (k + 1) a0 a1 a2 a3 a4 a5 a6) := by
 intro a0 a1 a2 a3 a4 a5 a6 k
 unfold impl_MakeOffer.f
 repeat' first
   | (with_reducible exact impl_AreOffers.mono _ _ _ _ _)
   | (with_reducible exact LeO.refl _)
   | (with_reducible exact LeO.none _)
   | (with_reducible refine LeO.ite ?_ ?_)
   | (with_reducible refine LeO.bind ?_ (fun _ => ?_))
   | exact impl_AreOffers.mono _ _ _ _ _
   | exact LeO.none _
   | refine LeO.ite ?_ ?_
   | refine LeO.bind ?_ (fun _ => ?_)
set_option maxHeartbeats 8000000 in
set_option maxRecDepth 100000 in
theorem impl_MakeOffer.calls (k : Nat) (a0_0 : Int) (a0_1 : Int) (a0_2 : Int) (A1 : Option Addr) (c1 : Nat) (l1 : List (S46)) (a2_0 : Int) (a2_1 : Int) (a2_2 : Bool) (r1 : List (S46)) (r2 : Bool) (w : World) (hr1 : Kd.C k46 w A1 l1.length l1) (hc1 : l1.length ≤ c1) (h : impl_MakeOffer.f k a0_0 a0_1 a0_2 l1 a2_0 a2_1 a2_2 = some (r1, r2)) :
  Calls Try.prog 33 #[.agg #[.int .i64 a0_0, .int .i64 a0_1, .int .i64 a0_2], .slice A1 l1.length c1, .agg #[.int .i64 a2_0, .int .i64 a2_1, .bool a2_2]] w fun e w' => ∃ v0_ : Value, e = .returned (.tuple #[v0_, .bool r2]) ∧ Kd.R k46 46 w' w.heap.size (fun _ => True) v0_ r1 ∧ Below w.heap.size w w' := by
 have hu25 := Try.underlying25
 have hu46 := Try.underlying46
 have HR1 := ξp hr1
 have HC1 := ξp hc1
 clear hr1 hc1
 have HB := ξp (Below.refl w.heap.size w)
 have H : ((impl_Offer.f l1).bind fun t269 => ((some (([(⟨a2_0, a2_1, a2_2⟩ : S46)] : List (S46)) : List (S46))).bind fun y272 => (if t269.length + y272.length < 5864062014805 then ((some (t269 ++ y272 : List (S46))).bind fun y275 => ((impl_AreOffers.f k a0_0 a0_1 a0_2 y275).bind fun t278 => (if t278 = true then (some (y275, true)) else ((impl_Offer.f l1).bind fun t279 => (some (t279, false)))))) else (none)))) = some (r1, r2) := h
 clear h
 replace H := Option.bind_eq_some_iff.mp H
 obtain ⟨t269, A40, H⟩ := H
 try dsimp only at H
 have A4 := ξp A40
 clear A40
 obtain ⟨y272, hy272⟩ : ∃ y_ : List (S46), y_ = (([(⟨a2_0, a2_1, a2_2⟩ : S46)] : List (S46))) := ⟨_, rfl⟩
 replace H : (if t269.length + y272.length < 5864062014805 then ((some (t269 ++ y272 : List (S46))).bind fun y275 => ((impl_AreOffers.f k a0_0 a0_1 a0_2 y275).bind fun t278 => (if t278 = true then (some (y275, true)) else ((impl_Offer.f l1).bind fun t279 => (some (t279, false)))))) else (none)) = some (r1, r2) := by first | (rw [hy272]; with_reducible exact H) | (have H2_ := (Option.bind_some _ _).symm.trans H; rw [hy272]; with_reducible exact H2_) | (have H2_ := (Option.bind_some _ _).symm.trans H; with_reducible exact H2_) | with_reducible exact H | (rw [hy272]; exact H) | exact H
 have Ny272 := ξp hy272
 clear hy272
 by_cases c5 : t269.length + y272.length < 5864062014805
 ·
  rw [if_pos c5] at H
  have LMc5 := ξp c5
  clear c5
  obtain ⟨y275, hy275⟩ : ∃ y_ : List (S46), y_ = (t269 ++ y272) := ⟨_, rfl⟩
  replace H : ((impl_AreOffers.f k a0_0 a0_1 a0_2 y275).bind fun t278 => (if t278 = true then (some (y275, true)) else ((impl_Offer.f l1).bind fun t279 => (some (t279, false))))) = some (r1, r2) := by first | (rw [hy275]; with_reducible exact H) | (have H2_ := (Option.bind_some _ _).symm.trans H; rw [hy275]; with_reducible exact H2_) | (have H2_ := (Option.bind_some _ _).symm.trans H; with_reducible exact H2_) | with_reducible exact H | (rw [hy275]; exact H) | exact H
  have Ny275 := ξp hy275
  clear hy275
  replace H := Option.bind_eq_some_iff.mp H
  obtain ⟨t278, A60, H⟩ := H
  try dsimp only at H
  have A6 := ξp A60
  clear A60
  by_cases c7 : t278 = true
  ·
   subst c7
   rw [if_pos rfl] at H
   simp only [Option.some.injEq, Prod.mk.injEq] at H
   obtain ⟨rfl, rfl⟩ := H
   go_enter Try.func33, Try.ntmps33
   try go_wp2_with (first | ((with_reducible refine gate_dst (N := 3) rfl ?_); refine box_event ?hg (N := 3) ?hd (cs := #[.int .i64 a0_0, .int .i64 a0_1, .int .i64 a0_2]) (t := 25) ?hr ?_; (case hd => rfl); (case hg => rfl); (case hr => first | (go_simp; done) | (go_simp; rfl)); intro gb267 hg w8 hbox hb; have n0_ := ξp (below_step (by repeat (first | (with_reducible first | exact HB.out | apply ξj | apply ξh | apply ξi) | exact HB.out)) hb); have n1_ := ξp (hbox); have n2_ := ξp ((by rw [hg]; exact (below_size (by repeat (first | (with_reducible first | exact HB.out | apply ξj | apply ξh | apply ξi) | exact HB.out))) : w.heap.size ≤ gb267)); have n3_ := ξp ((by rw [hg]; exact (below_size (by repeat (first | (with_reducible first | exact HB.out | apply ξj | apply ξh | apply ξi) | exact HB.out))) : w.heap.size ≤ gb267)); clear HB; have HB := n0_; have BK267 := n1_; have GW267 := n2_; have GE267 := n3_; clear n0_ n1_ n2_ n3_; clear hb hbox hg) | ((with_reducible refine gate_dst (N := 5) rfl ?_); refine box_event ?hg (N := 5) ?hd (cs := #[.int .i64 a2_0, .int .i64 a2_1, .bool a2_2]) (t := 46) ?hr ?_; (case hd => rfl); (case hg => rfl); (case hr => first | (go_simp; done) | (go_simp; rfl)); intro gb268 hg w9 hbox hb; have n0_ := ξp (ξl (g := gb267) (o := .cells #[.int .i64 a0_0, .int .i64 a0_1, .int .i64 a0_2] 25 (0, 0)) (by (with_reducible repeat (first | refine ξa ?_ _ | refine ξc ?_ | refine ξb ?_ _)); exact BK267.out) hb); have n1_ := ξp (below_step (by repeat (first | (with_reducible first | exact HB.out | apply ξj | apply ξh | apply ξi | refine ξg ?_ GE267.out) | exact HB.out)) hb); have n2_ := ξp (hbox); have n3_ := ξp ((by rw [hg]; exact (below_size (by repeat (first | (with_reducible first | exact HB.out | apply ξj | apply ξh | apply ξi | refine ξg ?_ GE267.out) | exact HB.out))) : w.heap.size ≤ gb268)); have n4_ := ξp ((by rw [hg]; exact (below_size (by repeat (first | (with_reducible first | exact HB.out | apply ξj | apply ξh | apply ξi | refine ξg ?_ GE267.out) | exact HB.out))) : w.heap.size ≤ gb268)); have n5_ := ξp ((by rw [hg]; exact Nat.ne_of_lt (blk_lt (g := gb267) (o := .cells #[.int .i64 a0_0, .int .i64 a0_1, .int .i64 a0_2] 25 (0, 0)) (by (with_reducible repeat (first | refine ξa ?_ _ | refine ξc ?_ | refine ξb ?_ _)); exact BK267.out)) : gb267 ≠ gb268)); have n6_ := ξp ((by rw [hg]; exact Nat.ne_of_gt (blk_lt (g := gb267) (o := .cells #[.int .i64 a0_0, .int .i64 a0_1, .int .i64 a0_2] 25 (0, 0)) (by (with_reducible repeat (first | refine ξa ?_ _ | refine ξc ?_ | refine ξb ?_ _)); exact BK267.out)) : gb268 ≠ gb267)); clear BK267; clear HB; have BK267 := n0_; have HB := n1_; have BK268 := n2_; have GW268 := n3_; have GE268 := n4_; have NB267_268 := n5_; have NB268_267 := n6_; clear n0_ n1_ n2_ n3_ n4_ n5_ n6_; clear hb hbox hg))
   have n0_ := ξp (ξc BK267.out)
   have n1_ := ξp (ξc BK268.out)
   have n2_ := ξp (ξi HB.out)
   clear BK267
   clear BK268
   clear HB
   have BK267 := n0_
   have BK268 := n1_
   have HB := n2_
   clear n0_ n1_ n2_
   refine start_ (n := 6) (S := fun w' => w'.cell? ⟨gb268, 0, none⟩ = some (.int .i64 a2_0) ∧ w'.cell? ⟨gb268, 1, none⟩ = some (.int .i64 a2_1) ∧ w'.cell? ⟨gb268, 2, none⟩ = some (.bool a2_2)) (ds := []) #[false, false, false, false, false, false] (by kernel_rfl) rfl rfl ⟨(ξk BK268.out 0).trans rfl, (ξk BK268.out 1).trans rfl, (ξk BK268.out 2).trans rfl⟩ (fun hHeld => ?_)
   generalize w9.drew = w10 at BK267 BK268 HB hHeld ⊢
   refine pure_ (i := 0) (N := some 9) (v := ?_) (a' := ?_) #[true, false, false, false, false, false] rfl rfl (by kernel_rfl) (fun _ _ _ h => h) (Or.inl ⟨by rfl, ?_⟩) ?_ ?_
   rotate_left; · (intro w'; go_simp; with_reducible rfl)
   rotate_left; · (simp only [Act.put, ξm, ξn, ξo, i64_w, i32_w]; rfl)
   refine take_ (i := 2) (N := some 11) (v := ?_) (a' := ?_) #[true, false, true, false, false, false] rfl rfl (by kernel_rfl) (fun _ _ _ h => h) (Or.inl ⟨by rfl, ?_⟩) hHeld ?_ ?_
   rotate_left
   ·
    rintro w' ⟨s0, s1, s2⟩
    go_simp
    with_reducible rfl
   rotate_left
   ·
    simp only [Act.put, ξm, ξn, ξo, i64_w, i32_w]
    rfl
   refine join_ (σ := Value × Value) 2 #[true, true, true, true, false, false] (fun s_ => [(10, s_.1), (12, s_.2)]) (fun s_ w' => (w'.cell? ⟨gb268, 0, none⟩ = some (.int .i64 a2_0) ∧ w'.cell? ⟨gb268, 1, none⟩ = some (.int .i64 a2_1) ∧ w'.cell? ⟨gb268, 2, none⟩ = some (.bool a2_2)) ∧ (Kd.R k46 46 w' w.heap.size (fun k_ => some k_ ≠ (s_.2 : Value).ownBlock ∧ k_ ≠ gb268) s_.1 t269) ∧ (Kd.R k46 46 w' w.heap.size (fun k_ => some k_ ≠ (s_.1 : Value).ownBlock ∧ k_ ≠ gb268) s_.2 y272) ∧ (w'.heap[gb267]? = some (.cells #[.int .i64 a0_0, .int .i64 a0_1, .int .i64 a0_2] 25 (0, 0))) ∧ (w'.heap[gb268]? = some (.cells #[.int .i64 a2_0, .int .i64 a2_1, .bool a2_2] 46 (0, 0))) ∧ (Below w.heap.size w w')) ?_ ?_
   rotate_left
   ·
    intro hCont
    refine two_ (i := 1) (j := 3) (Ni := some 10) (Nj := some 12) #[true, true, true, false, false, false] #[true, false, true, true, false, false] rfl rfl rfl rfl (by kernel_rfl) (by decide) (by decide) (fun K hK => ?_) (fun K hK => ?_)
    ·
     skip
     refine goes_ Try.func61 (by kernel_rfl) rfl #[.slice A1 l1.length c1] (by rfl) rfl rfl (by (try simp only [List.map_toArray, List.map_cons, List.map_nil]); first | done | rfl | (simp only [List.length_drop, List.length_take]; rfl)) ?_
     with_reducible refine (impl_Offer.calls _ _ l1 t269 _ ?side1 ?side2 A4.out).mono ?_
     (case side1 => repeat (first | exact (Kd.C_below HR1.out HB.out) | (with_reducible refine Kd.C_alloc ?_ _) | (with_reducible refine Kd.C_drewN ?_ _) | (with_reducible refine Kd.C_drew ?_)))
     (case side2 => exact HC1.out)
     rintro e w11 ⟨v270, rfl, ho0, hb⟩
     refine ⟨_, rfl, ?_⟩
     have n0_ := ξp (Kd.R_lower (Kd.R_newB ho0 (g := gb268) (o := .cells #[.int .i64 a2_0, .int .i64 a2_1, .bool a2_2] 46 (0, 0)) (by (with_reducible repeat (first | refine ξa ?_ _ | refine ξc ?_ | refine ξb ?_ _)); exact BK268.out)) (below_size (by repeat (first | (with_reducible first | exact HB.out | apply ξj | apply ξh | apply ξi | refine ξg ?_ GE267.out | refine ξg ?_ GE268.out) | exact HB.out))))
     have n1_ := ξp (ξl (g := gb267) (o := .cells #[.int .i64 a0_0, .int .i64 a0_1, .int .i64 a0_2] 25 (0, 0)) (by (with_reducible repeat (first | refine ξa ?_ _ | refine ξc ?_ | refine ξb ?_ _)); exact BK267.out) hb)
     have n2_ := ξp (ξl (g := gb268) (o := .cells #[.int .i64 a2_0, .int .i64 a2_1, .bool a2_2] 46 (0, 0)) (by (with_reducible repeat (first | refine ξa ?_ _ | refine ξc ?_ | refine ξb ?_ _)); exact BK268.out) hb)
     have n3_ := ξp (below_step (by repeat (first | (with_reducible first | exact HB.out | apply ξj | apply ξh | apply ξi | refine ξg ?_ GE267.out | refine ξg ?_ GE268.out) | exact HB.out)) hb)
     clear BK267
     clear BK268
     clear HB
     have HO271 := n0_
     have BK267 := n1_
     have BK268 := n2_
     have HB := n3_
     clear n0_ n1_ n2_ n3_
     (try clear hb)
     (try clear hb2)
     (try clear hk)
     (try clear hi)
     (try clear ho0)
     refine hK.out _ _ ⟨(ξk BK268.out 0).trans rfl, (ξk BK268.out 1).trans rfl, (ξk BK268.out 2).trans rfl⟩ (fun hHeld => ?_)
     clear hK K
     refine norm_ (a' := ?_) ?_ ?_
     rotate_left
     ·
      show Act.put _ (some 10) _ = _
      simp only [Act.put, ξm, ξn, ξo, i64_w, i32_w]
      rfl
     refine one_ (i := 3) (N := some 12) #[true, true, true, true, false, false] rfl rfl (by kernel_rfl) (by decide) (fun K hK => ?_)
     refine Kd.R_lit_step k46 _ 46 ?hg (N := 12) ?hd (xs := ([(⟨a2_0, a2_1, a2_2⟩ : S46)] : List (S46))) (inner := [.int .i64 a2_0, .int .i64 a2_1, .bool a2_2]) (ok := fun _ => True) (okp := fun _ => True) ?hr ?hp (fun _ hk => hk) trivial (Below.refl _ _) (Nat.le_refl _) (by simp) ?_; (case hd => rfl); (case hg => rfl); (case hr => first | (go_simp; done) | (go_simp; rfl)); (case hp => exact (Reps.c3 (show Kd.M k46 _ _ _ (⟨a2_0, a2_1, a2_2⟩ : S46) [.int .i64 a2_0, .int .i64 a2_1, .bool a2_2] from (k46_mkM _ _ _ (⟨a2_0, a2_1, a2_2⟩ : S46) )) (Reps.none _ _)))
     intro v273 w12 ho13 hb hg_ hnew_
     clear hg_ hnew_
     (first | rw [← Ny272.out] at ho13 | (simp only [Int.reduceToNat] at ho13; rw [← Ny272.out] at ho13))
     have n0_ := ξp (Kd.R_elder' (by (with_reducible repeat (first | apply ξd | apply ξe | apply ξf)); exact HO271.out) (Kd.R_base ho13) hb)
     have n1_ := ξp (Kd.R_lower (Kd.R_newB (Kd.R_new' ho13 (Kd.R_lt (by (with_reducible repeat (first | apply ξd | apply ξe | apply ξf)); exact HO271.out))) (g := gb268) (o := .cells #[.int .i64 a2_0, .int .i64 a2_1, .bool a2_2] 46 (0, 0)) (by (with_reducible repeat (first | refine ξa ?_ _ | refine ξc ?_ | refine ξb ?_ _)); exact BK268.out)) (below_size (by repeat (first | (with_reducible first | exact HB.out | apply ξj | apply ξh | apply ξi | refine ξg ?_ GE267.out | refine ξg ?_ GE268.out) | exact HB.out))))
     have n2_ := ξp (ξl (g := gb267) (o := .cells #[.int .i64 a0_0, .int .i64 a0_1, .int .i64 a0_2] 25 (0, 0)) (by (with_reducible repeat (first | refine ξa ?_ _ | refine ξc ?_ | refine ξb ?_ _)); exact BK267.out) hb)
     have n3_ := ξp (ξl (g := gb268) (o := .cells #[.int .i64 a2_0, .int .i64 a2_1, .bool a2_2] 46 (0, 0)) (by (with_reducible repeat (first | refine ξa ?_ _ | refine ξc ?_ | refine ξb ?_ _)); exact BK268.out) hb)
     have n4_ := ξp (below_step (by repeat (first | (with_reducible first | exact HB.out | apply ξj | apply ξh | apply ξi | refine ξg ?_ GE267.out | refine ξg ?_ GE268.out) | exact HB.out)) hb)
     clear HO271
     clear BK267
     clear BK268
     clear HB
     have HO271 := n0_
     have HO274 := n1_
     have BK267 := n2_
     have BK268 := n3_
     have HB := n4_
     clear n0_ n1_ n2_ n3_ n4_
     clear hb ho13
     refine hK.out _ _ ⟨(ξk BK268.out 0).trans rfl, (ξk BK268.out 1).trans rfl, (ξk BK268.out 2).trans rfl⟩ (fun hHeld => ?_)
     clear hK K
     refine norm_ (a' := ?_) ?_ ?_
     rotate_left
     ·
      show Act.put _ (some 12) _ = _
      simp only [Act.put, ξm, ξn, ξo, i64_w, i32_w]
      rfl
     exact norm_ (by simp only [putAll, Act.put, ξm, ξn, ξo]) (hCont (v270, v273) _ ⟨hHeld, (by (with_reducible repeat (first | apply ξd | apply ξe | apply ξf)); exact Kd.R_mono HO271.out (fun _ hk => ⟨hk.2, hk.1.2⟩)), (by (with_reducible repeat (first | apply ξd | apply ξe | apply ξf)); exact Kd.R_mono HO274.out (fun _ hk => ⟨hk.1.2, hk.2⟩)), (by (with_reducible repeat (first | refine ξa ?_ _ | refine ξc ?_ | refine ξb ?_ _)); exact BK267.out), (by (with_reducible repeat (first | refine ξa ?_ _ | refine ξc ?_ | refine ξb ?_ _)); exact BK268.out), (by repeat (first | (with_reducible first | exact HB.out | apply ξj | apply ξh | apply ξi | refine ξg ?_ GE267.out | refine ξg ?_ GE268.out) | exact HB.out))⟩)
    skip
    refine Kd.R_lit_step k46 _ 46 ?hg (N := 12) ?hd (xs := ([(⟨a2_0, a2_1, a2_2⟩ : S46)] : List (S46))) (inner := [.int .i64 a2_0, .int .i64 a2_1, .bool a2_2]) (ok := fun _ => True) (okp := fun _ => True) ?hr ?hp (fun _ hk => hk) trivial (Below.refl _ _) (Nat.le_refl _) (by simp) ?_; (case hd => rfl); (case hg => rfl); (case hr => first | (go_simp; done) | (go_simp; rfl)); (case hp => exact (Reps.c3 (show Kd.M k46 _ _ _ (⟨a2_0, a2_1, a2_2⟩ : S46) [.int .i64 a2_0, .int .i64 a2_1, .bool a2_2] from (k46_mkM _ _ _ (⟨a2_0, a2_1, a2_2⟩ : S46) )) (Reps.none _ _)))
    intro v273 w11 ho12 hb hg_ hnew_
    clear hg_ hnew_
    (first | rw [← Ny272.out] at ho12 | (simp only [Int.reduceToNat] at ho12; rw [← Ny272.out] at ho12))
    have n0_ := ξp (Kd.R_lower (Kd.R_newB ho12 (g := gb268) (o := .cells #[.int .i64 a2_0, .int .i64 a2_1, .bool a2_2] 46 (0, 0)) (by (with_reducible repeat (first | refine ξa ?_ _ | refine ξc ?_ | refine ξb ?_ _)); exact BK268.out)) (below_size (by repeat (first | (with_reducible first | exact HB.out | apply ξj | apply ξh | apply ξi | refine ξg ?_ GE267.out | refine ξg ?_ GE268.out) | exact HB.out))))
    have n1_ := ξp (ξl (g := gb267) (o := .cells #[.int .i64 a0_0, .int .i64 a0_1, .int .i64 a0_2] 25 (0, 0)) (by (with_reducible repeat (first | refine ξa ?_ _ | refine ξc ?_ | refine ξb ?_ _)); exact BK267.out) hb)
    have n2_ := ξp (ξl (g := gb268) (o := .cells #[.int .i64 a2_0, .int .i64 a2_1, .bool a2_2] 46 (0, 0)) (by (with_reducible repeat (first | refine ξa ?_ _ | refine ξc ?_ | refine ξb ?_ _)); exact BK268.out) hb)
    have n3_ := ξp (below_step (by repeat (first | (with_reducible first | exact HB.out | apply ξj | apply ξh | apply ξi | refine ξg ?_ GE267.out | refine ξg ?_ GE268.out) | exact HB.out)) hb)
    clear BK267
    clear BK268
    clear HB
    have HO274 := n0_
    have BK267 := n1_
    have BK268 := n2_
    have HB := n3_
    clear n0_ n1_ n2_ n3_
    clear hb ho12
    refine hK.out _ _ ⟨(ξk BK268.out 0).trans rfl, (ξk BK268.out 1).trans rfl, (ξk BK268.out 2).trans rfl⟩ (fun hHeld => ?_)
    clear hK K
    refine norm_ (a' := ?_) ?_ ?_
    rotate_left
    ·
     show Act.put _ (some 12) _ = _
     simp only [Act.put, ξm, ξn, ξo, i64_w, i32_w]
     rfl
    refine one_ (i := 1) (N := some 10) #[true, true, true, true, false, false] rfl rfl (by kernel_rfl) (by decide) (fun K hK => ?_)
    refine goes_ Try.func61 (by kernel_rfl) rfl #[.slice A1 l1.length c1] (by rfl) rfl rfl (by (try simp only [List.map_toArray, List.map_cons, List.map_nil]); first | done | rfl | (simp only [List.length_drop, List.length_take]; rfl)) ?_
    with_reducible refine (impl_Offer.calls _ _ l1 t269 _ ?side1 ?side2 A4.out).mono ?_
    (case side1 => repeat (first | exact (Kd.C_below HR1.out HB.out) | (with_reducible refine Kd.C_alloc ?_ _) | (with_reducible refine Kd.C_drewN ?_ _) | (with_reducible refine Kd.C_drew ?_)))
    (case side2 => exact HC1.out)
    rintro e w13 ⟨v270, rfl, ho0, hb⟩
    refine ⟨_, rfl, ?_⟩
    have n0_ := ξp (Kd.R_elder' (by (with_reducible repeat (first | apply ξd | apply ξe | apply ξf)); exact HO274.out) (Kd.R_base ho0) hb)
    have n1_ := ξp (Kd.R_lower (Kd.R_newB (Kd.R_new' ho0 (Kd.R_lt (by (with_reducible repeat (first | apply ξd | apply ξe | apply ξf)); exact HO274.out))) (g := gb268) (o := .cells #[.int .i64 a2_0, .int .i64 a2_1, .bool a2_2] 46 (0, 0)) (by (with_reducible repeat (first | refine ξa ?_ _ | refine ξc ?_ | refine ξb ?_ _)); exact BK268.out)) (below_size (by repeat (first | (with_reducible first | exact HB.out | apply ξj | apply ξh | apply ξi | refine ξg ?_ GE267.out | refine ξg ?_ GE268.out) | exact HB.out))))
    have n2_ := ξp (ξl (g := gb267) (o := .cells #[.int .i64 a0_0, .int .i64 a0_1, .int .i64 a0_2] 25 (0, 0)) (by (with_reducible repeat (first | refine ξa ?_ _ | refine ξc ?_ | refine ξb ?_ _)); exact BK267.out) hb)
    have n3_ := ξp (ξl (g := gb268) (o := .cells #[.int .i64 a2_0, .int .i64 a2_1, .bool a2_2] 46 (0, 0)) (by (with_reducible repeat (first | refine ξa ?_ _ | refine ξc ?_ | refine ξb ?_ _)); exact BK268.out) hb)
    have n4_ := ξp (below_step (by repeat (first | (with_reducible first | exact HB.out | apply ξj | apply ξh | apply ξi | refine ξg ?_ GE267.out | refine ξg ?_ GE268.out) | exact HB.out)) hb)
    clear HO274
    clear BK267
    clear BK268
    clear HB
    have HO274 := n0_
    have HO271 := n1_
    have BK267 := n2_
    have BK268 := n3_
    have HB := n4_
    clear n0_ n1_ n2_ n3_ n4_
    (try clear hb)
    (try clear hb2)
    (try clear hk)
    (try clear hi)
    (try clear ho0)
    refine hK.out _ _ ⟨(ξk BK268.out 0).trans rfl, (ξk BK268.out 1).trans rfl, (ξk BK268.out 2).trans rfl⟩ (fun hHeld => ?_)
    clear hK K
    refine norm_ (a' := ?_) ?_ ?_
    rotate_left
    ·
     show Act.put _ (some 10) _ = _
     simp only [Act.put, ξm, ξn, ξo, i64_w, i32_w]
     rfl
    exact norm_ (by simp only [putAll, Act.put, ξm, ξn, ξo]) (hCont (v270, v273) _ ⟨hHeld, (by (with_reducible repeat (first | apply ξd | apply ξe | apply ξf)); exact Kd.R_mono HO271.out (fun _ hk => ⟨hk.1.2, hk.2⟩)), (by (with_reducible repeat (first | apply ξd | apply ξe | apply ξf)); exact Kd.R_mono HO274.out (fun _ hk => ⟨hk.2, hk.1.2⟩)), (by (with_reducible repeat (first | refine ξa ?_ _ | refine ξc ?_ | refine ξb ?_ _)); exact BK267.out), (by (with_reducible repeat (first | refine ξa ?_ _ | refine ξc ?_ | refine ξb ?_ _)); exact BK268.out), (by repeat (first | (with_reducible first | exact HB.out | apply ξj | apply ξh | apply ξi | refine ξg ?_ GE267.out | refine ξg ?_ GE268.out) | exact HB.out))⟩)
   rintro ⟨v270, v273⟩ w14 ⟨hS_, h0_, h1_, h2_, h3_, h4_⟩
   have n0_ : Aside0 (Kd.R k46 46 w14 w.heap.size (fun k_ => some k_ ≠ (v273 : Value).ownBlock ∧ k_ ≠ gb268) v270 t269) := ⟨h0_⟩
   have n1_ : Aside0 (Kd.R k46 46 w14 w.heap.size (fun k_ => some k_ ≠ (v270 : Value).ownBlock ∧ k_ ≠ gb268) v273 y272) := ⟨h1_⟩
   have n2_ : Aside0 (w14.heap[gb267]? = some (.cells #[.int .i64 a0_0, .int .i64 a0_1, .int .i64 a0_2] 25 (0, 0))) := ⟨h2_⟩
   have n3_ : Aside0 (w14.heap[gb268]? = some (.cells #[.int .i64 a2_0, .int .i64 a2_1, .bool a2_2] 46 (0, 0))) := ⟨h3_⟩
   have n4_ : Aside0 (Below w.heap.size w w14) := ⟨h4_⟩
   clear BK267
   clear BK268
   clear HB
   clear h0_ h1_ h2_ h3_ h4_
   have HO271 := n0_
   have HO274 := n1_
   have BK267 := n2_
   have BK268 := n3_
   have HB := n4_
   clear n0_ n1_ n2_ n3_ n4_
   have hHeld : w14.cell? ⟨gb268, 0, none⟩ = some (.int .i64 a2_0) ∧ w14.cell? ⟨gb268, 1, none⟩ = some (.int .i64 a2_1) ∧ w14.cell? ⟨gb268, 2, none⟩ = some (.bool a2_2) := hS_
   obtain ⟨Ao16, co16, eo16⟩ := Kd.R_slice HO274.out
   (first | subst eo16 | (injection eo16 with f1_ f2_ f3_; have f4_ := f1_.symm; have f5_ := f3_.symm; clear f1_ f2_ f3_; subst f4_; subst f5_))
   refine norm_ (a' := ?_) ?_ ?_
   rotate_left
   ·
    simp only [putAll, Act.put, ξm, ξn, ξo]
    rfl
   refine one_ (i := 4) (N := some 13) #[true, true, true, true, true, false] rfl rfl (by kernel_rfl) (by decide) (fun K hK => ?_)
   refine Kd.R_append_rows_step k46 (w0 := w) w.heap.size (by rfl) (.tmp 10) (.tmp 12) 31 46 (.agg #[(.int .i64 0), (.int .i64 0), (.bool false)]) 24 rfl Try.underlying31 info46 rfl (by decide) (by omega) v270 t269 y272 _ _ _ (fun k_ => some k_ ≠ (.slice Ao16 y272.length co16 : Value).ownBlock ∧ k_ ≠ gb268) (fun _ => False) rfl rfl ?aO ?aR (fun _ _ h => h) (fun _ h => h.elim) ?aF ?aB ?aS ?aL ?_
   (case aR => repeat (first | exact (Kd.R_reads' HO274.out).2.2 | (with_reducible refine Kd.C_alloc ?_ _) | (with_reducible refine Kd.C_drewN ?_ _) | (with_reducible refine Kd.C_drew ?_)))
   (case aB => exact (by repeat (first | (with_reducible first | exact HB.out | apply ξj | apply ξh | apply ξi | refine ξg ?_ GE267.out | refine ξg ?_ GE268.out) | exact HB.out)))
   (case aF => exact (fun k_ hk => ⟨Kd.fresh' (Kd.R_lt (by (with_reducible repeat (first | apply ξd | apply ξe | apply ξf)); exact HO274.out)) k_ hk, Kd.freshB (g := gb268) (o := .cells #[.int .i64 a2_0, .int .i64 a2_1, .bool a2_2] 46 (0, 0)) (by (with_reducible repeat (first | refine ξa ?_ _ | refine ξc ?_ | refine ξb ?_ _)); exact BK268.out) k_ hk⟩))
   (case aO => exact (by (with_reducible repeat (first | apply ξd | apply ξe | apply ξf)); exact HO271.out))
   (case aS => exact (below_size (by repeat (first | (with_reducible first | exact HB.out | apply ξj | apply ξh | apply ξi | refine ξg ?_ GE267.out | refine ξg ?_ GE268.out) | exact HB.out))))
   (case aL => have := LMc5.out; omega)
   intro v276 w15 ho hb hg hat
   rw [← Ny275.out] at ho
   have n0_ := ξp (blk_grown (g := gb267) (o := .cells #[.int .i64 a0_0, .int .i64 a0_1, .int .i64 a0_2] 25 (0, 0)) (by (with_reducible repeat (first | refine ξa ?_ _ | refine ξc ?_ | refine ξb ?_ _)); exact BK267.out) hg (Kd.R_ne HO271.out BK267.out (by decide)))
   have n1_ := ξp (blk_grown (g := gb268) (o := .cells #[.int .i64 a2_0, .int .i64 a2_1, .bool a2_2] 46 (0, 0)) (by (with_reducible repeat (first | refine ξa ?_ _ | refine ξc ?_ | refine ξb ?_ _)); exact BK268.out) hg (Kd.R_away HO271.out (fun _ hk => hk.2)))
   have n2_ := ξp (Kd.R_after (ok := (fun k_ => k_ ≠ gb268)) (by (with_reducible repeat (first | apply ξd | apply ξe | apply ξf)); exact Kd.R_mono HO274.out (fun _ hk => ⟨hk.2, hk.1⟩)) hg hat)
   have n3_ := ξp (hb)
   have n4_ := ξp (ho)
   clear BK267
   clear BK268
   clear HO274
   clear HB
   clear HO271
   have BK267 := n0_
   have BK268 := n1_
   have HO274 := n2_
   have HB := n3_
   have HO277 := n4_
   clear n0_ n1_ n2_ n3_ n4_
   clear ho hb hg hat
   refine hK.out _ _ ⟨(ξk BK268.out 0).trans rfl, (ξk BK268.out 1).trans rfl, (ξk BK268.out 2).trans rfl⟩ (fun hHeld => ?_)
   clear hK K
   refine norm_ (a' := ?_) ?_ ?_
   rotate_left
   ·
    show Act.put _ (some 13) _ = _
    simp only [Act.put, ξm, ξn, ξo, i64_w, i32_w]
    rfl
   refine pure_ (i := 5) (N := some 8) (v := ?_) (a' := ?_) #[true, true, true, true, true, true] rfl rfl (by kernel_rfl) (fun _ _ _ h => h) (Or.inl ⟨by rfl, ?_⟩) ?_ ?_
   rotate_left; · (intro w'; go_simp; with_reducible rfl)
   rotate_left; · (simp only [Act.put, ξm, ξn, ξo, i64_w, i32_w]; rfl)
   refine done_ (by kernel_rfl) ?_
   have hnb17 := NB267_268.out
   have hnc17 := NB268_267.out
   have hcz18_0 : w15.cell? ⟨gb267, 0, none⟩ = some (.int .i64 a0_0) := (ξk BK267.out 0).trans rfl
   have hcz18_1 : w15.cell? ⟨gb267, 1, none⟩ = some (.int .i64 a0_1) := (ξk BK267.out 1).trans rfl
   have hcz18_2 : w15.cell? ⟨gb267, 2, none⟩ = some (.int .i64 a0_2) := (ξk BK267.out 2).trans rfl
   have hfz18_0 := blk_frozen BK267.out 0
   have hfz18_1 := blk_frozen BK267.out 1
   have hfz18_2 := blk_frozen BK267.out 2
   obtain ⟨Ao19, co19, eo19⟩ := Kd.R_slice HO277.out
   subst eo19
   try go_wp2_with (first | ((with_reducible refine gate_callee (f := 30) rfl ?_); refine goesL_ (some 16) rfl rfl Try.func30 (by kernel_rfl) rfl #[.agg #[.int .i64 a0_0, .int .i64 a0_1, .int .i64 a0_2], .slice Ao19 y275.length co19] rfl (by (try simp only [List.map_toArray, List.map_cons, List.map_nil]); first | done | rfl | (simp only [List.length_drop, List.length_take]; rfl)) ?_; (with_reducible refine (impl_AreOffers.calls k a0_0 a0_1 a0_2 _ _ y275 true _ ?side1 ?side2 A6.out).mono ?_); (case side1 => repeat (first | exact (Kd.R_reads' HO277.out).2.2 | (with_reducible refine Kd.C_alloc ?_ _) | (with_reducible refine Kd.C_drewN ?_ _) | (with_reducible refine Kd.C_drew ?_))); (case side2 => exact (Kd.R_reads' HO277.out).2.1); rintro e w20 ⟨rfl, hb⟩; refine ⟨_, rfl, ?_⟩; have n0_ := ξp (Kd.R_below (by (with_reducible repeat (first | apply ξd | apply ξe | apply ξf)); exact HO274.out) hb); have n1_ := ξp (Kd.R_below (by (with_reducible repeat (first | apply ξd | apply ξe | apply ξf)); exact HO277.out) hb); have n2_ := ξp (ξl (g := gb267) (o := .cells #[.int .i64 a0_0, .int .i64 a0_1, .int .i64 a0_2] 25 (0, 0)) (by (with_reducible repeat (first | refine ξa ?_ _ | refine ξc ?_ | refine ξb ?_ _)); exact BK267.out) hb); have n3_ := ξp (ξl (g := gb268) (o := .cells #[.int .i64 a2_0, .int .i64 a2_1, .bool a2_2] 46 (0, 0)) (by (with_reducible repeat (first | refine ξa ?_ _ | refine ξc ?_ | refine ξb ?_ _)); exact BK268.out) hb); have n4_ := ξp (below_step (by repeat (first | (with_reducible first | exact HB.out | apply ξj | apply ξh | apply ξi | refine ξg ?_ GE267.out | refine ξg ?_ GE268.out) | exact HB.out)) hb); clear HO274; clear HO277; clear BK267; clear BK268; clear HB; have HO274 := n0_; have HO277 := n1_; have BK267 := n2_; have BK268 := n3_; have HB := n4_; clear n0_ n1_ n2_ n3_ n4_; (try clear hb); (try clear hb2); (try clear hk); (try clear hi)))
   go_ret2
   exact ⟨_, by first | rfl | (simp [errW_none, errW_some] <;> rfl) | (simp [*, errW_none, errW_some] <;> rfl), by (with_reducible repeat (first | apply ξd | apply ξe | apply ξf)); exact Kd.R_mono HO277.out (fun _ hk => trivial), by repeat (first | (with_reducible first | exact HB.out | apply ξj | apply ξh | apply ξi | refine ξg ?_ GE267.out | refine ξg ?_ GE268.out) | exact HB.out)⟩
  replace c7 := Bool.eq_false_iff.mpr c7
  subst c7
  have H1 : ((impl_Offer.f l1).bind fun t279 => (some (t279, false))) = some (r1, r2) := by rw [if_neg (show ¬ (false = true) by decide)] at H; exact H
  clear H
  have H := H1
  clear H1
  replace H := Option.bind_eq_some_iff.mp H
  obtain ⟨t279, A210, H⟩ := H
  try dsimp only at H
  have A21 := ξp A210
  clear A210
  simp only [Option.some.injEq, Prod.mk.injEq] at H
  obtain ⟨rfl, rfl⟩ := H
  go_enter Try.func33, Try.ntmps33
  try go_wp2_with (first | ((with_reducible refine gate_dst (N := 3) rfl ?_); refine box_event ?hg (N := 3) ?hd (cs := #[.int .i64 a0_0, .int .i64 a0_1, .int .i64 a0_2]) (t := 25) ?hr ?_; (case hd => rfl); (case hg => rfl); (case hr => first | (go_simp; done) | (go_simp; rfl)); intro gb267 hg w22 hbox hb; have n0_ := ξp (below_step (by repeat (first | (with_reducible first | exact HB.out | apply ξj | apply ξh | apply ξi) | exact HB.out)) hb); have n1_ := ξp (hbox); have n2_ := ξp ((by rw [hg]; exact (below_size (by repeat (first | (with_reducible first | exact HB.out | apply ξj | apply ξh | apply ξi) | exact HB.out))) : w.heap.size ≤ gb267)); have n3_ := ξp ((by rw [hg]; exact (below_size (by repeat (first | (with_reducible first | exact HB.out | apply ξj | apply ξh | apply ξi) | exact HB.out))) : w.heap.size ≤ gb267)); clear HB; have HB := n0_; have BK267 := n1_; have GW267 := n2_; have GE267 := n3_; clear n0_ n1_ n2_ n3_; clear hb hbox hg) | ((with_reducible refine gate_dst (N := 5) rfl ?_); refine box_event ?hg (N := 5) ?hd (cs := #[.int .i64 a2_0, .int .i64 a2_1, .bool a2_2]) (t := 46) ?hr ?_; (case hd => rfl); (case hg => rfl); (case hr => first | (go_simp; done) | (go_simp; rfl)); intro gb268 hg w23 hbox hb; have n0_ := ξp (ξl (g := gb267) (o := .cells #[.int .i64 a0_0, .int .i64 a0_1, .int .i64 a0_2] 25 (0, 0)) (by (with_reducible repeat (first | refine ξa ?_ _ | refine ξc ?_ | refine ξb ?_ _)); exact BK267.out) hb); have n1_ := ξp (below_step (by repeat (first | (with_reducible first | exact HB.out | apply ξj | apply ξh | apply ξi | refine ξg ?_ GE267.out) | exact HB.out)) hb); have n2_ := ξp (hbox); have n3_ := ξp ((by rw [hg]; exact (below_size (by repeat (first | (with_reducible first | exact HB.out | apply ξj | apply ξh | apply ξi | refine ξg ?_ GE267.out) | exact HB.out))) : w.heap.size ≤ gb268)); have n4_ := ξp ((by rw [hg]; exact (below_size (by repeat (first | (with_reducible first | exact HB.out | apply ξj | apply ξh | apply ξi | refine ξg ?_ GE267.out) | exact HB.out))) : w.heap.size ≤ gb268)); have n5_ := ξp ((by rw [hg]; exact Nat.ne_of_lt (blk_lt (g := gb267) (o := .cells #[.int .i64 a0_0, .int .i64 a0_1, .int .i64 a0_2] 25 (0, 0)) (by (with_reducible repeat (first | refine ξa ?_ _ | refine ξc ?_ | refine ξb ?_ _)); exact BK267.out)) : gb267 ≠ gb268)); have n6_ := ξp ((by rw [hg]; exact Nat.ne_of_gt (blk_lt (g := gb267) (o := .cells #[.int .i64 a0_0, .int .i64 a0_1, .int .i64 a0_2] 25 (0, 0)) (by (with_reducible repeat (first | refine ξa ?_ _ | refine ξc ?_ | refine ξb ?_ _)); exact BK267.out)) : gb268 ≠ gb267)); clear BK267; clear HB; have BK267 := n0_; have HB := n1_; have BK268 := n2_; have GW268 := n3_; have GE268 := n4_; have NB267_268 := n5_; have NB268_267 := n6_; clear n0_ n1_ n2_ n3_ n4_ n5_ n6_; clear hb hbox hg))
  have n0_ := ξp (ξc BK267.out)
  have n1_ := ξp (ξc BK268.out)
  have n2_ := ξp (ξi HB.out)
  clear BK267
  clear BK268
  clear HB
  have BK267 := n0_
  have BK268 := n1_
  have HB := n2_
  clear n0_ n1_ n2_
  refine start_ (n := 6) (S := fun w' => w'.cell? ⟨gb268, 0, none⟩ = some (.int .i64 a2_0) ∧ w'.cell? ⟨gb268, 1, none⟩ = some (.int .i64 a2_1) ∧ w'.cell? ⟨gb268, 2, none⟩ = some (.bool a2_2)) (ds := []) #[false, false, false, false, false, false] (by kernel_rfl) rfl rfl ⟨(ξk BK268.out 0).trans rfl, (ξk BK268.out 1).trans rfl, (ξk BK268.out 2).trans rfl⟩ (fun hHeld => ?_)
  generalize w23.drew = w24 at BK267 BK268 HB hHeld ⊢
  refine pure_ (i := 0) (N := some 9) (v := ?_) (a' := ?_) #[true, false, false, false, false, false] rfl rfl (by kernel_rfl) (fun _ _ _ h => h) (Or.inl ⟨by rfl, ?_⟩) ?_ ?_
  rotate_left; · (intro w'; go_simp; with_reducible rfl)
  rotate_left; · (simp only [Act.put, ξm, ξn, ξo, i64_w, i32_w]; rfl)
  refine take_ (i := 2) (N := some 11) (v := ?_) (a' := ?_) #[true, false, true, false, false, false] rfl rfl (by kernel_rfl) (fun _ _ _ h => h) (Or.inl ⟨by rfl, ?_⟩) hHeld ?_ ?_
  rotate_left
  ·
   rintro w' ⟨s0, s1, s2⟩
   go_simp
   with_reducible rfl
  rotate_left
  ·
   simp only [Act.put, ξm, ξn, ξo, i64_w, i32_w]
   rfl
  refine join_ (σ := Value × Value) 2 #[true, true, true, true, false, false] (fun s_ => [(10, s_.1), (12, s_.2)]) (fun s_ w' => (w'.cell? ⟨gb268, 0, none⟩ = some (.int .i64 a2_0) ∧ w'.cell? ⟨gb268, 1, none⟩ = some (.int .i64 a2_1) ∧ w'.cell? ⟨gb268, 2, none⟩ = some (.bool a2_2)) ∧ (Kd.R k46 46 w' w.heap.size (fun k_ => some k_ ≠ (s_.2 : Value).ownBlock ∧ k_ ≠ gb268) s_.1 t269) ∧ (Kd.R k46 46 w' w.heap.size (fun k_ => some k_ ≠ (s_.1 : Value).ownBlock ∧ k_ ≠ gb268) s_.2 y272) ∧ (w'.heap[gb267]? = some (.cells #[.int .i64 a0_0, .int .i64 a0_1, .int .i64 a0_2] 25 (0, 0))) ∧ (w'.heap[gb268]? = some (.cells #[.int .i64 a2_0, .int .i64 a2_1, .bool a2_2] 46 (0, 0))) ∧ (Below w.heap.size w w')) ?_ ?_
  rotate_left
  ·
   intro hCont
   refine two_ (i := 1) (j := 3) (Ni := some 10) (Nj := some 12) #[true, true, true, false, false, false] #[true, false, true, true, false, false] rfl rfl rfl rfl (by kernel_rfl) (by decide) (by decide) (fun K hK => ?_) (fun K hK => ?_)
   ·
    skip
    refine goes_ Try.func61 (by kernel_rfl) rfl #[.slice A1 l1.length c1] (by rfl) rfl rfl (by (try simp only [List.map_toArray, List.map_cons, List.map_nil]); first | done | rfl | (simp only [List.length_drop, List.length_take]; rfl)) ?_
    with_reducible refine (impl_Offer.calls _ _ l1 t269 _ ?side1 ?side2 A4.out).mono ?_
    (case side1 => repeat (first | exact (Kd.C_below HR1.out HB.out) | (with_reducible refine Kd.C_alloc ?_ _) | (with_reducible refine Kd.C_drewN ?_ _) | (with_reducible refine Kd.C_drew ?_)))
    (case side2 => exact HC1.out)
    rintro e w25 ⟨v270, rfl, ho0, hb⟩
    refine ⟨_, rfl, ?_⟩
    have n0_ := ξp (Kd.R_lower (Kd.R_newB ho0 (g := gb268) (o := .cells #[.int .i64 a2_0, .int .i64 a2_1, .bool a2_2] 46 (0, 0)) (by (with_reducible repeat (first | refine ξa ?_ _ | refine ξc ?_ | refine ξb ?_ _)); exact BK268.out)) (below_size (by repeat (first | (with_reducible first | exact HB.out | apply ξj | apply ξh | apply ξi | refine ξg ?_ GE267.out | refine ξg ?_ GE268.out) | exact HB.out))))
    have n1_ := ξp (ξl (g := gb267) (o := .cells #[.int .i64 a0_0, .int .i64 a0_1, .int .i64 a0_2] 25 (0, 0)) (by (with_reducible repeat (first | refine ξa ?_ _ | refine ξc ?_ | refine ξb ?_ _)); exact BK267.out) hb)
    have n2_ := ξp (ξl (g := gb268) (o := .cells #[.int .i64 a2_0, .int .i64 a2_1, .bool a2_2] 46 (0, 0)) (by (with_reducible repeat (first | refine ξa ?_ _ | refine ξc ?_ | refine ξb ?_ _)); exact BK268.out) hb)
    have n3_ := ξp (below_step (by repeat (first | (with_reducible first | exact HB.out | apply ξj | apply ξh | apply ξi | refine ξg ?_ GE267.out | refine ξg ?_ GE268.out) | exact HB.out)) hb)
    clear BK267
    clear BK268
    clear HB
    have HO271 := n0_
    have BK267 := n1_
    have BK268 := n2_
    have HB := n3_
    clear n0_ n1_ n2_ n3_
    (try clear hb)
    (try clear hb2)
    (try clear hk)
    (try clear hi)
    (try clear ho0)
    refine hK.out _ _ ⟨(ξk BK268.out 0).trans rfl, (ξk BK268.out 1).trans rfl, (ξk BK268.out 2).trans rfl⟩ (fun hHeld => ?_)
    clear hK K
    refine norm_ (a' := ?_) ?_ ?_
    rotate_left
    ·
     show Act.put _ (some 10) _ = _
     simp only [Act.put, ξm, ξn, ξo, i64_w, i32_w]
     rfl
    refine one_ (i := 3) (N := some 12) #[true, true, true, true, false, false] rfl rfl (by kernel_rfl) (by decide) (fun K hK => ?_)
    refine Kd.R_lit_step k46 _ 46 ?hg (N := 12) ?hd (xs := ([(⟨a2_0, a2_1, a2_2⟩ : S46)] : List (S46))) (inner := [.int .i64 a2_0, .int .i64 a2_1, .bool a2_2]) (ok := fun _ => True) (okp := fun _ => True) ?hr ?hp (fun _ hk => hk) trivial (Below.refl _ _) (Nat.le_refl _) (by simp) ?_; (case hd => rfl); (case hg => rfl); (case hr => first | (go_simp; done) | (go_simp; rfl)); (case hp => exact (Reps.c3 (show Kd.M k46 _ _ _ (⟨a2_0, a2_1, a2_2⟩ : S46) [.int .i64 a2_0, .int .i64 a2_1, .bool a2_2] from (k46_mkM _ _ _ (⟨a2_0, a2_1, a2_2⟩ : S46) )) (Reps.none _ _)))
    intro v273 w26 ho27 hb hg_ hnew_
    clear hg_ hnew_
    (first | rw [← Ny272.out] at ho27 | (simp only [Int.reduceToNat] at ho27; rw [← Ny272.out] at ho27))
    have n0_ := ξp (Kd.R_elder' (by (with_reducible repeat (first | apply ξd | apply ξe | apply ξf)); exact HO271.out) (Kd.R_base ho27) hb)
    have n1_ := ξp (Kd.R_lower (Kd.R_newB (Kd.R_new' ho27 (Kd.R_lt (by (with_reducible repeat (first | apply ξd | apply ξe | apply ξf)); exact HO271.out))) (g := gb268) (o := .cells #[.int .i64 a2_0, .int .i64 a2_1, .bool a2_2] 46 (0, 0)) (by (with_reducible repeat (first | refine ξa ?_ _ | refine ξc ?_ | refine ξb ?_ _)); exact BK268.out)) (below_size (by repeat (first | (with_reducible first | exact HB.out | apply ξj | apply ξh | apply ξi | refine ξg ?_ GE267.out | refine ξg ?_ GE268.out) | exact HB.out))))
    have n2_ := ξp (ξl (g := gb267) (o := .cells #[.int .i64 a0_0, .int .i64 a0_1, .int .i64 a0_2] 25 (0, 0)) (by (with_reducible repeat (first | refine ξa ?_ _ | refine ξc ?_ | refine ξb ?_ _)); exact BK267.out) hb)
    have n3_ := ξp (ξl (g := gb268) (o := .cells #[.int .i64 a2_0, .int .i64 a2_1, .bool a2_2] 46 (0, 0)) (by (with_reducible repeat (first | refine ξa ?_ _ | refine ξc ?_ | refine ξb ?_ _)); exact BK268.out) hb)
    have n4_ := ξp (below_step (by repeat (first | (with_reducible first | exact HB.out | apply ξj | apply ξh | apply ξi | refine ξg ?_ GE267.out | refine ξg ?_ GE268.out) | exact HB.out)) hb)
    clear HO271
    clear BK267
    clear BK268
    clear HB
    have HO271 := n0_
    have HO274 := n1_
    have BK267 := n2_
    have BK268 := n3_
    have HB := n4_
    clear n0_ n1_ n2_ n3_ n4_
    clear hb ho27
    refine hK.out _ _ ⟨(ξk BK268.out 0).trans rfl, (ξk BK268.out 1).trans rfl, (ξk BK268.out 2).trans rfl⟩ (fun hHeld => ?_)
    clear hK K
    refine norm_ (a' := ?_) ?_ ?_
    rotate_left
    ·
     show Act.put _ (some 12) _ = _
     simp only [Act.put, ξm, ξn, ξo, i64_w, i32_w]
     rfl
    exact norm_ (by simp only [putAll, Act.put, ξm, ξn, ξo]) (hCont (v270, v273) _ ⟨hHeld, (by (with_reducible repeat (first | apply ξd | apply ξe | apply ξf)); exact Kd.R_mono HO271.out (fun _ hk => ⟨hk.2, hk.1.2⟩)), (by (with_reducible repeat (first | apply ξd | apply ξe | apply ξf)); exact Kd.R_mono HO274.out (fun _ hk => ⟨hk.1.2, hk.2⟩)), (by (with_reducible repeat (first | refine ξa ?_ _ | refine ξc ?_ | refine ξb ?_ _)); exact BK267.out), (by (with_reducible repeat (first | refine ξa ?_ _ | refine ξc ?_ | refine ξb ?_ _)); exact BK268.out), (by repeat (first | (with_reducible first | exact HB.out | apply ξj | apply ξh | apply ξi | refine ξg ?_ GE267.out | refine ξg ?_ GE268.out) | exact HB.out))⟩)
   skip
   refine Kd.R_lit_step k46 _ 46 ?hg (N := 12) ?hd (xs := ([(⟨a2_0, a2_1, a2_2⟩ : S46)] : List (S46))) (inner := [.int .i64 a2_0, .int .i64 a2_1, .bool a2_2]) (ok := fun _ => True) (okp := fun _ => True) ?hr ?hp (fun _ hk => hk) trivial (Below.refl _ _) (Nat.le_refl _) (by simp) ?_; (case hd => rfl); (case hg => rfl); (case hr => first | (go_simp; done) | (go_simp; rfl)); (case hp => exact (Reps.c3 (show Kd.M k46 _ _ _ (⟨a2_0, a2_1, a2_2⟩ : S46) [.int .i64 a2_0, .int .i64 a2_1, .bool a2_2] from (k46_mkM _ _ _ (⟨a2_0, a2_1, a2_2⟩ : S46) )) (Reps.none _ _)))
   intro v273 w25 ho26 hb hg_ hnew_
   clear hg_ hnew_
   (first | rw [← Ny272.out] at ho26 | (simp only [Int.reduceToNat] at ho26; rw [← Ny272.out] at ho26))
   have n0_ := ξp (Kd.R_lower (Kd.R_newB ho26 (g := gb268) (o := .cells #[.int .i64 a2_0, .int .i64 a2_1, .bool a2_2] 46 (0, 0)) (by (with_reducible repeat (first | refine ξa ?_ _ | refine ξc ?_ | refine ξb ?_ _)); exact BK268.out)) (below_size (by repeat (first | (with_reducible first | exact HB.out | apply ξj | apply ξh | apply ξi | refine ξg ?_ GE267.out | refine ξg ?_ GE268.out) | exact HB.out))))
   have n1_ := ξp (ξl (g := gb267) (o := .cells #[.int .i64 a0_0, .int .i64 a0_1, .int .i64 a0_2] 25 (0, 0)) (by (with_reducible repeat (first | refine ξa ?_ _ | refine ξc ?_ | refine ξb ?_ _)); exact BK267.out) hb)
   have n2_ := ξp (ξl (g := gb268) (o := .cells #[.int .i64 a2_0, .int .i64 a2_1, .bool a2_2] 46 (0, 0)) (by (with_reducible repeat (first | refine ξa ?_ _ | refine ξc ?_ | refine ξb ?_ _)); exact BK268.out) hb)
   have n3_ := ξp (below_step (by repeat (first | (with_reducible first | exact HB.out | apply ξj | apply ξh | apply ξi | refine ξg ?_ GE267.out | refine ξg ?_ GE268.out) | exact HB.out)) hb)
   clear BK267
   clear BK268
   clear HB
   have HO274 := n0_
   have BK267 := n1_
   have BK268 := n2_
   have HB := n3_
   clear n0_ n1_ n2_ n3_
   clear hb ho26
   refine hK.out _ _ ⟨(ξk BK268.out 0).trans rfl, (ξk BK268.out 1).trans rfl, (ξk BK268.out 2).trans rfl⟩ (fun hHeld => ?_)
   clear hK K
   refine norm_ (a' := ?_) ?_ ?_
   rotate_left
   ·
    show Act.put _ (some 12) _ = _
    simp only [Act.put, ξm, ξn, ξo, i64_w, i32_w]
    rfl
   refine one_ (i := 1) (N := some 10) #[true, true, true, true, false, false] rfl rfl (by kernel_rfl) (by decide) (fun K hK => ?_)
   refine goes_ Try.func61 (by kernel_rfl) rfl #[.slice A1 l1.length c1] (by rfl) rfl rfl (by (try simp only [List.map_toArray, List.map_cons, List.map_nil]); first | done | rfl | (simp only [List.length_drop, List.length_take]; rfl)) ?_
   with_reducible refine (impl_Offer.calls _ _ l1 t269 _ ?side1 ?side2 A4.out).mono ?_
   (case side1 => repeat (first | exact (Kd.C_below HR1.out HB.out) | (with_reducible refine Kd.C_alloc ?_ _) | (with_reducible refine Kd.C_drewN ?_ _) | (with_reducible refine Kd.C_drew ?_)))
   (case side2 => exact HC1.out)
   rintro e w27 ⟨v270, rfl, ho0, hb⟩
   refine ⟨_, rfl, ?_⟩
   have n0_ := ξp (Kd.R_elder' (by (with_reducible repeat (first | apply ξd | apply ξe | apply ξf)); exact HO274.out) (Kd.R_base ho0) hb)
   have n1_ := ξp (Kd.R_lower (Kd.R_newB (Kd.R_new' ho0 (Kd.R_lt (by (with_reducible repeat (first | apply ξd | apply ξe | apply ξf)); exact HO274.out))) (g := gb268) (o := .cells #[.int .i64 a2_0, .int .i64 a2_1, .bool a2_2] 46 (0, 0)) (by (with_reducible repeat (first | refine ξa ?_ _ | refine ξc ?_ | refine ξb ?_ _)); exact BK268.out)) (below_size (by repeat (first | (with_reducible first | exact HB.out | apply ξj | apply ξh | apply ξi | refine ξg ?_ GE267.out | refine ξg ?_ GE268.out) | exact HB.out))))
   have n2_ := ξp (ξl (g := gb267) (o := .cells #[.int .i64 a0_0, .int .i64 a0_1, .int .i64 a0_2] 25 (0, 0)) (by (with_reducible repeat (first | refine ξa ?_ _ | refine ξc ?_ | refine ξb ?_ _)); exact BK267.out) hb)
   have n3_ := ξp (ξl (g := gb268) (o := .cells #[.int .i64 a2_0, .int .i64 a2_1, .bool a2_2] 46 (0, 0)) (by (with_reducible repeat (first | refine ξa ?_ _ | refine ξc ?_ | refine ξb ?_ _)); exact BK268.out) hb)
   have n4_ := ξp (below_step (by repeat (first | (with_reducible first | exact HB.out | apply ξj | apply ξh | apply ξi | refine ξg ?_ GE267.out | refine ξg ?_ GE268.out) | exact HB.out)) hb)
   clear HO274
   clear BK267
   clear BK268
   clear HB
   have HO274 := n0_
   have HO271 := n1_
   have BK267 := n2_
   have BK268 := n3_
   have HB := n4_
   clear n0_ n1_ n2_ n3_ n4_
   (try clear hb)
   (try clear hb2)
   (try clear hk)
   (try clear hi)
   (try clear ho0)
   refine hK.out _ _ ⟨(ξk BK268.out 0).trans rfl, (ξk BK268.out 1).trans rfl, (ξk BK268.out 2).trans rfl⟩ (fun hHeld => ?_)
   clear hK K
   refine norm_ (a' := ?_) ?_ ?_
   rotate_left
   ·
    show Act.put _ (some 10) _ = _
    simp only [Act.put, ξm, ξn, ξo, i64_w, i32_w]
    rfl
   exact norm_ (by simp only [putAll, Act.put, ξm, ξn, ξo]) (hCont (v270, v273) _ ⟨hHeld, (by (with_reducible repeat (first | apply ξd | apply ξe | apply ξf)); exact Kd.R_mono HO271.out (fun _ hk => ⟨hk.1.2, hk.2⟩)), (by (with_reducible repeat (first | apply ξd | apply ξe | apply ξf)); exact Kd.R_mono HO274.out (fun _ hk => ⟨hk.2, hk.1.2⟩)), (by (with_reducible repeat (first | refine ξa ?_ _ | refine ξc ?_ | refine ξb ?_ _)); exact BK267.out), (by (with_reducible repeat (first | refine ξa ?_ _ | refine ξc ?_ | refine ξb ?_ _)); exact BK268.out), (by repeat (first | (with_reducible first | exact HB.out | apply ξj | apply ξh | apply ξi | refine ξg ?_ GE267.out | refine ξg ?_ GE268.out) | exact HB.out))⟩)
  rintro ⟨v270, v273⟩ w28 ⟨hS_, h0_, h1_, h2_, h3_, h4_⟩
  have n0_ : Aside0 (Kd.R k46 46 w28 w.heap.size (fun k_ => some k_ ≠ (v273 : Value).ownBlock ∧ k_ ≠ gb268) v270 t269) := ⟨h0_⟩
  have n1_ : Aside0 (Kd.R k46 46 w28 w.heap.size (fun k_ => some k_ ≠ (v270 : Value).ownBlock ∧ k_ ≠ gb268) v273 y272) := ⟨h1_⟩
  have n2_ : Aside0 (w28.heap[gb267]? = some (.cells #[.int .i64 a0_0, .int .i64 a0_1, .int .i64 a0_2] 25 (0, 0))) := ⟨h2_⟩
  have n3_ : Aside0 (w28.heap[gb268]? = some (.cells #[.int .i64 a2_0, .int .i64 a2_1, .bool a2_2] 46 (0, 0))) := ⟨h3_⟩
  have n4_ : Aside0 (Below w.heap.size w w28) := ⟨h4_⟩
  clear BK267
  clear BK268
  clear HB
  clear h0_ h1_ h2_ h3_ h4_
  have HO271 := n0_
  have HO274 := n1_
  have BK267 := n2_
  have BK268 := n3_
  have HB := n4_
  clear n0_ n1_ n2_ n3_ n4_
  have hHeld : w28.cell? ⟨gb268, 0, none⟩ = some (.int .i64 a2_0) ∧ w28.cell? ⟨gb268, 1, none⟩ = some (.int .i64 a2_1) ∧ w28.cell? ⟨gb268, 2, none⟩ = some (.bool a2_2) := hS_
  obtain ⟨Ao30, co30, eo30⟩ := Kd.R_slice HO274.out
  (first | subst eo30 | (injection eo30 with f1_ f2_ f3_; have f4_ := f1_.symm; have f5_ := f3_.symm; clear f1_ f2_ f3_; subst f4_; subst f5_))
  refine norm_ (a' := ?_) ?_ ?_
  rotate_left
  ·
   simp only [putAll, Act.put, ξm, ξn, ξo]
   rfl
  refine one_ (i := 4) (N := some 13) #[true, true, true, true, true, false] rfl rfl (by kernel_rfl) (by decide) (fun K hK => ?_)
  refine Kd.R_append_rows_step k46 (w0 := w) w.heap.size (by rfl) (.tmp 10) (.tmp 12) 31 46 (.agg #[(.int .i64 0), (.int .i64 0), (.bool false)]) 24 rfl Try.underlying31 info46 rfl (by decide) (by omega) v270 t269 y272 _ _ _ (fun k_ => some k_ ≠ (.slice Ao30 y272.length co30 : Value).ownBlock ∧ k_ ≠ gb268) (fun _ => False) rfl rfl ?aO ?aR (fun _ _ h => h) (fun _ h => h.elim) ?aF ?aB ?aS ?aL ?_
  (case aR => repeat (first | exact (Kd.R_reads' HO274.out).2.2 | (with_reducible refine Kd.C_alloc ?_ _) | (with_reducible refine Kd.C_drewN ?_ _) | (with_reducible refine Kd.C_drew ?_)))
  (case aB => exact (by repeat (first | (with_reducible first | exact HB.out | apply ξj | apply ξh | apply ξi | refine ξg ?_ GE267.out | refine ξg ?_ GE268.out) | exact HB.out)))
  (case aF => exact (fun k_ hk => ⟨Kd.fresh' (Kd.R_lt (by (with_reducible repeat (first | apply ξd | apply ξe | apply ξf)); exact HO274.out)) k_ hk, Kd.freshB (g := gb268) (o := .cells #[.int .i64 a2_0, .int .i64 a2_1, .bool a2_2] 46 (0, 0)) (by (with_reducible repeat (first | refine ξa ?_ _ | refine ξc ?_ | refine ξb ?_ _)); exact BK268.out) k_ hk⟩))
  (case aO => exact (by (with_reducible repeat (first | apply ξd | apply ξe | apply ξf)); exact HO271.out))
  (case aS => exact (below_size (by repeat (first | (with_reducible first | exact HB.out | apply ξj | apply ξh | apply ξi | refine ξg ?_ GE267.out | refine ξg ?_ GE268.out) | exact HB.out))))
  (case aL => have := LMc5.out; omega)
  intro v276 w29 ho hb hg hat
  rw [← Ny275.out] at ho
  have n0_ := ξp (blk_grown (g := gb267) (o := .cells #[.int .i64 a0_0, .int .i64 a0_1, .int .i64 a0_2] 25 (0, 0)) (by (with_reducible repeat (first | refine ξa ?_ _ | refine ξc ?_ | refine ξb ?_ _)); exact BK267.out) hg (Kd.R_ne HO271.out BK267.out (by decide)))
  have n1_ := ξp (blk_grown (g := gb268) (o := .cells #[.int .i64 a2_0, .int .i64 a2_1, .bool a2_2] 46 (0, 0)) (by (with_reducible repeat (first | refine ξa ?_ _ | refine ξc ?_ | refine ξb ?_ _)); exact BK268.out) hg (Kd.R_away HO271.out (fun _ hk => hk.2)))
  have n2_ := ξp (Kd.R_after (ok := (fun k_ => k_ ≠ gb268)) (by (with_reducible repeat (first | apply ξd | apply ξe | apply ξf)); exact Kd.R_mono HO274.out (fun _ hk => ⟨hk.2, hk.1⟩)) hg hat)
  have n3_ := ξp (hb)
  have n4_ := ξp (ho)
  clear BK267
  clear BK268
  clear HO274
  clear HB
  clear HO271
  have BK267 := n0_
  have BK268 := n1_
  have HO274 := n2_
  have HB := n3_
  have HO277 := n4_
  clear n0_ n1_ n2_ n3_ n4_
  clear ho hb hg hat
  refine hK.out _ _ ⟨(ξk BK268.out 0).trans rfl, (ξk BK268.out 1).trans rfl, (ξk BK268.out 2).trans rfl⟩ (fun hHeld => ?_)
  clear hK K
  refine norm_ (a' := ?_) ?_ ?_
  rotate_left
  ·
   show Act.put _ (some 13) _ = _
   simp only [Act.put, ξm, ξn, ξo, i64_w, i32_w]
   rfl
  refine pure_ (i := 5) (N := some 8) (v := ?_) (a' := ?_) #[true, true, true, true, true, true] rfl rfl (by kernel_rfl) (fun _ _ _ h => h) (Or.inl ⟨by rfl, ?_⟩) ?_ ?_
  rotate_left; · (intro w'; go_simp; with_reducible rfl)
  rotate_left; · (simp only [Act.put, ξm, ξn, ξo, i64_w, i32_w]; rfl)
  refine done_ (by kernel_rfl) ?_
  have hnb31 := NB267_268.out
  have hnc31 := NB268_267.out
  have hcz32_0 : w29.cell? ⟨gb267, 0, none⟩ = some (.int .i64 a0_0) := (ξk BK267.out 0).trans rfl
  have hcz32_1 : w29.cell? ⟨gb267, 1, none⟩ = some (.int .i64 a0_1) := (ξk BK267.out 1).trans rfl
  have hcz32_2 : w29.cell? ⟨gb267, 2, none⟩ = some (.int .i64 a0_2) := (ξk BK267.out 2).trans rfl
  have hfz32_0 := blk_frozen BK267.out 0
  have hfz32_1 := blk_frozen BK267.out 1
  have hfz32_2 := blk_frozen BK267.out 2
  obtain ⟨Ao33, co33, eo33⟩ := Kd.R_slice HO277.out
  subst eo33
  try go_wp2_with (first | ((with_reducible refine gate_callee (f := 30) rfl ?_); refine goesL_ (some 16) rfl rfl Try.func30 (by kernel_rfl) rfl #[.agg #[.int .i64 a0_0, .int .i64 a0_1, .int .i64 a0_2], .slice Ao33 y275.length co33] rfl (by (try simp only [List.map_toArray, List.map_cons, List.map_nil]); first | done | rfl | (simp only [List.length_drop, List.length_take]; rfl)) ?_; (with_reducible refine (impl_AreOffers.calls k a0_0 a0_1 a0_2 _ _ y275 false _ ?side1 ?side2 A6.out).mono ?_); (case side1 => repeat (first | exact (Kd.R_reads' HO277.out).2.2 | (with_reducible refine Kd.C_alloc ?_ _) | (with_reducible refine Kd.C_drewN ?_ _) | (with_reducible refine Kd.C_drew ?_))); (case side2 => exact (Kd.R_reads' HO277.out).2.1); rintro e w34 ⟨rfl, hb⟩; refine ⟨_, rfl, ?_⟩; have n0_ := ξp (Kd.R_below (by (with_reducible repeat (first | apply ξd | apply ξe | apply ξf)); exact HO274.out) hb); have n1_ := ξp (Kd.R_below (by (with_reducible repeat (first | apply ξd | apply ξe | apply ξf)); exact HO277.out) hb); have n2_ := ξp (ξl (g := gb267) (o := .cells #[.int .i64 a0_0, .int .i64 a0_1, .int .i64 a0_2] 25 (0, 0)) (by (with_reducible repeat (first | refine ξa ?_ _ | refine ξc ?_ | refine ξb ?_ _)); exact BK267.out) hb); have n3_ := ξp (ξl (g := gb268) (o := .cells #[.int .i64 a2_0, .int .i64 a2_1, .bool a2_2] 46 (0, 0)) (by (with_reducible repeat (first | refine ξa ?_ _ | refine ξc ?_ | refine ξb ?_ _)); exact BK268.out) hb); have n4_ := ξp (below_step (by repeat (first | (with_reducible first | exact HB.out | apply ξj | apply ξh | apply ξi | refine ξg ?_ GE267.out | refine ξg ?_ GE268.out) | exact HB.out)) hb); clear HO274; clear HO277; clear BK267; clear BK268; clear HB; have HO274 := n0_; have HO277 := n1_; have BK267 := n2_; have BK268 := n3_; have HB := n4_; clear n0_ n1_ n2_ n3_ n4_; (try clear hb); (try clear hb2); (try clear hk); (try clear hi)) | ((with_reducible refine gate_callee (f := 61) rfl ?_); refine goesL_ (some 19) rfl rfl Try.func61 (by kernel_rfl) rfl #[.slice A1 l1.length c1] rfl (by (try simp only [List.map_toArray, List.map_cons, List.map_nil]); first | done | rfl | (simp only [List.length_drop, List.length_take]; rfl)) ?_; (with_reducible refine (impl_Offer.calls _ _ l1 t279 _ ?side1 ?side2 A21.out).mono ?_); (case side1 => repeat (first | exact (Kd.C_below HR1.out HB.out) | (with_reducible refine Kd.C_alloc ?_ _) | (with_reducible refine Kd.C_drewN ?_ _) | (with_reducible refine Kd.C_drew ?_))); (case side2 => exact HC1.out); rintro e w35 ⟨v280, rfl, ho0, hb⟩; refine ⟨_, rfl, ?_⟩; have n0_ := ξp (Kd.R_elder' (by (with_reducible repeat (first | apply ξd | apply ξe | apply ξf)); exact HO274.out) (Kd.R_base ho0) hb); have n1_ := ξp (Kd.R_elder' (by (with_reducible repeat (first | apply ξd | apply ξe | apply ξf)); exact HO277.out) (Kd.R_base ho0) hb); have n2_ := ξp (Kd.R_lower (Kd.R_newB (Kd.R_new' (Kd.R_new' ho0 (Kd.R_lt (by (with_reducible repeat (first | apply ξd | apply ξe | apply ξf)); exact HO274.out))) (Kd.R_lt (by (with_reducible repeat (first | apply ξd | apply ξe | apply ξf)); exact HO277.out))) (g := gb268) (o := .cells #[.int .i64 a2_0, .int .i64 a2_1, .bool a2_2] 46 (0, 0)) (by (with_reducible repeat (first | refine ξa ?_ _ | refine ξc ?_ | refine ξb ?_ _)); exact BK268.out)) (below_size (by repeat (first | (with_reducible first | exact HB.out | apply ξj | apply ξh | apply ξi | refine ξg ?_ GE267.out | refine ξg ?_ GE268.out) | exact HB.out)))); have n3_ := ξp (ξl (g := gb267) (o := .cells #[.int .i64 a0_0, .int .i64 a0_1, .int .i64 a0_2] 25 (0, 0)) (by (with_reducible repeat (first | refine ξa ?_ _ | refine ξc ?_ | refine ξb ?_ _)); exact BK267.out) hb); have n4_ := ξp (ξl (g := gb268) (o := .cells #[.int .i64 a2_0, .int .i64 a2_1, .bool a2_2] 46 (0, 0)) (by (with_reducible repeat (first | refine ξa ?_ _ | refine ξc ?_ | refine ξb ?_ _)); exact BK268.out) hb); have n5_ := ξp (below_step (by repeat (first | (with_reducible first | exact HB.out | apply ξj | apply ξh | apply ξi | refine ξg ?_ GE267.out | refine ξg ?_ GE268.out) | exact HB.out)) hb); clear HO274; clear HO277; clear BK267; clear BK268; clear HB; have HO274 := n0_; have HO277 := n1_; have HO281 := n2_; have BK267 := n3_; have BK268 := n4_; have HB := n5_; clear n0_ n1_ n2_ n3_ n4_ n5_; (try clear hb); (try clear hb2); (try clear hk); (try clear hi); (try clear ho0)))
  go_ret2
  exact ⟨_, by first | rfl | (simp [errW_none, errW_some] <;> rfl) | (simp [*, errW_none, errW_some] <;> rfl), by (with_reducible repeat (first | apply ξd | apply ξe | apply ξf)); exact Kd.R_mono HO281.out (fun _ hk => trivial), by repeat (first | (with_reducible first | exact HB.out | apply ξj | apply ξh | apply ξi | refine ξg ?_ GE267.out | refine ξg ?_ GE268.out) | exact HB.out)⟩
 rw [if_neg c5] at H
 exact absurd H (by simp)

/-! ### laws_big: function 35 -/
def laws_big.f (l0 : List Int) : Option (Bool) := some (decide ((l0.length : Int) > 1048576))
set_option maxHeartbeats 8000000 in
set_option maxRecDepth 100000 in
theorem laws_big.calls (A0 : Option Addr) (c0 : Nat) (l0 : List Int) (r : Bool) (w : World) (hr0 : Kd.C (Kd.int .u8) w A0 l0.length l0) (hc0 : l0.length ≤ c0) (h : laws_big.f l0 = some r) :
  Calls Try.prog 35 #[.slice A0 l0.length c0] w fun e w' => e = .returned (.bool r) ∧ Drawn0 w w' := by
 have HR0 := ξp hr0
 have HC0 := ξp hc0
 clear hr0 hc0
 have H : (some (decide ((l0.length : Int) > 1048576))) = some r := h
 clear h
 obtain rfl := Option.some.inj H
 go_enter Try.func35, Try.ntmps35
 go_wp2
 go_ret
 exact ⟨by first | rfl | (simp; done) | (simp [*]; done), by repeat (first | exact Drawn0.refl _ | apply Drawn0.step)⟩

/-- A state of type 86 at block g of W; what its slices lead to came in by w0. -/
def IsS86 (w0 W : World) (g : Nat) (f0 : List Int) (f1 : Int) (f2 : Int) : Prop := ∃ A0 c0, W.heap[g]? = some (.cells #[.slice A0 f0.length c0, .int .i64 f1, .int .i64 f2] 86 (0, 0)) ∧ w0.heap.size ≤ g ∧ Kd.C (Kd.int .u8) w0 A0 f0.length f0
theorem IsS86.grown {w0 W : World} {g : Nat} {f0 : List Int} {f1 : Int} {f2 : Int} {W1 : World} {row : Option Nat} (h : IsS86 w0 W g f0 f1 f2) (hw : W.grownBy W1 row) (hne : some g ≠ row) : IsS86 w0 W1 g f0 f1 f2 := by
 obtain ⟨A0, c0, hb, hg, hr0⟩ := h
 exact ⟨A0, c0, blk_grown hb hw hne, hg, hr0⟩
theorem IsS86.own_neN {w0 W : World} {g : Nat} {f0 : List Int} {f1 : Int} {f2 : Int} {α : Type} {d : Kd α} {e : Nat} {base : Nat} {ok : Nat → Prop} {v : Value} {xs : List α} (h : IsS86 w0 W g f0 f1 f2) (ho : Kd.N d e W base ok v xs) (ht : e ≠ 86) : some g ≠ v.ownBlock := by
 obtain ⟨A0, c0, hb, hg, hr0⟩ := h
 exact Kd.N_ne ho hb ht
theorem IsS86.fresh {w0 W : World} {g : Nat} {f0 : List Int} {f1 : Int} {f2 : Int} (h : IsS86 w0 W g f0 f1 f2) : ∀ k, W.heap.size ≤ k → k ≠ g := by
 obtain ⟨A0, c0, hb, hg, hr0⟩ := h
 exact Kd.freshB hb
theorem IsS86.kept {w0 W : World} {g : Nat} {f0 : List Int} {f1 : Int} {f2 : Int} {W1 : World} {S : Nat → Prop} (h : IsS86 w0 W g f0 f1 f2) (hk : Kept W W1 S) (hne : ¬ S g) : IsS86 w0 W1 g f0 f1 f2 := by
 obtain ⟨A0, c0, hb, hg, hr0⟩ := h
 exact ⟨A0, c0, blk_kept hb hk hne, hg, hr0⟩
theorem IsS86.below {w0 W : World} {g : Nat} {f0 : List Int} {f1 : Int} {f2 : Int} {W1 : World} (h : IsS86 w0 W g f0 f1 f2) (hw : Below W.heap.size W W1) : IsS86 w0 W1 g f0 f1 f2 := h.grown (grown_of_below hw none) (by simp)
theorem IsS86.alloc {w0 W : World} {g : Nat} {f0 : List Int} {f1 : Int} {f2 : Int} (h : IsS86 w0 W g f0 f1 f2) (o : Obj) : IsS86 w0 (W.alloc o) g f0 f1 f2 := h.below (ξj (Below.refl _ _) o)
theorem IsS86.drewN {w0 W : World} {g : Nat} {f0 : List Int} {f1 : Int} {f2 : Int} (h : IsS86 w0 W g f0 f1 f2) (m : Nat) : IsS86 w0 (W.drewN m) g f0 f1 f2 := h
theorem IsS86.drew {w0 W : World} {g : Nat} {f0 : List Int} {f1 : Int} {f2 : Int} (h : IsS86 w0 W g f0 f1 f2) : IsS86 w0 W.drew g f0 f1 f2 := h
theorem IsS86.at_ {w0 W : World} {g : Nat} {f0 : List Int} {f1 : Int} {f2 : Int} {w' : World} {m : Nat} (hq : W.drewN m = w') (h : IsS86 w0 W g f0 f1 f2) : IsS86 w0 w' g f0 f1 f2 := by subst hq; exact IsS86.drewN h m
theorem IsS86.apart {w0 W : World} {g : Nat} {f0 : List Int} {f1 : Int} {f2 : Int} {α : Type} {d : Kd α} {e : Nat} {base : Nat} {ok : Nat → Prop} {v : Value} {xs : List α} (h : IsS86 w0 W g f0 f1 f2) (ho : d.R e W base ok v xs) (ht : ∀ q, q ∈ e :: d.E → q ≠ 86) : d.R e W base (fun k => ok k ∧ k ≠ g) v xs := by
 obtain ⟨A0, c0, hb, hg, hr0⟩ := h
 exact Kd.R_types ho hb ht
theorem IsS86.own_ne {w0 W : World} {g : Nat} {f0 : List Int} {f1 : Int} {f2 : Int} {α : Type} {d : Kd α} {e : Nat} {base : Nat} {ok : Nat → Prop} {v : Value} {xs : List α} (h : IsS86 w0 W g f0 f1 f2) (ho : d.R e W base ok v xs) (ht : e ≠ 86) : some g ≠ v.ownBlock := by
 obtain ⟨A0, c0, hb, hg, hr0⟩ := h
 exact Kd.R_ne ho hb ht
theorem IsS86.apartQ {w0 W : World} {g : Nat} {f0 : List Int} {f1 : Int} {f2 : Int} {α : Type} {d : Kd α} {e : Nat} {base : Nat} {ok : Nat → Prop} {v : Value} {xs : List α} (h : IsS86 w0 W g f0 f1 f2) (ho : d.Q e W base ok v xs) (ht : ∀ q, q ∈ e :: d.E → q ≠ 86) : d.Q e W base (fun k => ok k ∧ k ≠ g) v xs := by
 obtain ⟨A0, c0, hb, hg, hr0⟩ := h
 exact Kd.Q_types ho hb ht
theorem IsS86.own_neQ {w0 W : World} {g : Nat} {f0 : List Int} {f1 : Int} {f2 : Int} {α : Type} {d : Kd α} {e : Nat} {base : Nat} {ok : Nat → Prop} {v : Value} {xs : List α} (h : IsS86 w0 W g f0 f1 f2) (ho : d.Q e W base ok v xs) (ht : e ≠ 86) : some g ≠ v.ownBlock := by
 obtain ⟨A0, c0, hb, hg, hr0⟩ := h
 exact Kd.Q_ne ho hb ht
theorem IsS86.apartS {w0 W : World} {g : Nat} {f0 : List Int} {f1 : Int} {f2 : Int} {α : Type} {d : Kd α} {e : Nat} {base : Nat} {ok : Nat → Prop} {v : Value} {xs : List α} (h : IsS86 w0 W g f0 f1 f2) (ho : d.S e W base ok v xs) (ht : ∀ q, q ∈ e :: d.E → q ≠ 86) : d.S e W base (fun k => ok k ∧ k ≠ g) v xs := by
 obtain ⟨A0, c0, hb, hg, hr0⟩ := h
 exact Kd.S_types ho hb ht
theorem IsS86.own_neS {w0 W : World} {g : Nat} {f0 : List Int} {f1 : Int} {f2 : Int} {α : Type} {d : Kd α} {e : Nat} {base : Nat} {ok : Nat → Prop} {v : Value} {xs : List α} (h : IsS86 w0 W g f0 f1 f2) (ho : d.S e W base ok v xs) (ht : e ≠ 86) : some g ≠ v.ownBlock := by
 obtain ⟨A0, c0, hb, hg, hr0⟩ := h
 exact Kd.S_ne ho hb ht
theorem IsS86.lt {w0 W : World} {g : Nat} {f0 : List Int} {f1 : Int} {f2 : Int} (h : IsS86 w0 W g f0 f1 f2) : g < W.heap.size := by
 obtain ⟨A0, c0, hb, hg, hr0⟩ := h
 exact blk_lt hb
theorem IsS86.ge {w0 W : World} {g : Nat} {f0 : List Int} {f1 : Int} {f2 : Int} (h : IsS86 w0 W g f0 f1 f2) : w0.heap.size ≤ g := by
 obtain ⟨A0, c0, hb, hg, hr0⟩ := h
 exact hg
theorem IsS86.ne_blk {w0 W : World} {g : Nat} {f0 : List Int} {f1 : Int} {f2 : Int} {a : Nat} {cs : Array Value} {t : TypeId} {fr : Nat × Nat} (h : IsS86 w0 W g f0 f1 f2) (hb2 : W.heap[a]? = some (.cells cs t fr)) (ht : t ≠ 86) : g ≠ a := by
 obtain ⟨A0, c0, hb, hg, hr0⟩ := h
 rintro rfl
 rw [hb] at hb2
 injection hb2 with hb2
 injection hb2 with _ ht2
 exact ht ht2.symm
theorem IsS86.far {w0 W : World} {g : Nat} {f0 : List Int} {f1 : Int} {f2 : Int} {p : Addr} (h : IsS86 w0 W g f0 f1 f2) (hne : g ≠ p.block) (u : Value) : IsS86 w0 (W.setCell p u) g f0 f1 f2 := by
 obtain ⟨A0, c0, hb, hg, hr0⟩ := h
 exact ⟨A0, c0, blk_far hb hne u, hg, hr0⟩
theorem cellS86_0 {W : World} {g : Nat} {A0 : Option Addr} {c0 : Nat} {f0 : List Int} {f1 : Int} {f2 : Int} (h : W.heap[g]? = some (.cells #[.slice A0 f0.length c0, .int .i64 f1, .int .i64 f2] 86 (0, 0))) : W.cell? ⟨g, 0, none⟩ = some (.slice A0 f0.length c0) := (ξk h 0).trans rfl
theorem cellS86_1 {W : World} {g : Nat} {A0 : Option Addr} {c0 : Nat} {f0 : List Int} {f1 : Int} {f2 : Int} (h : W.heap[g]? = some (.cells #[.slice A0 f0.length c0, .int .i64 f1, .int .i64 f2] 86 (0, 0))) : W.cell? ⟨g, 1, none⟩ = some (.int .i64 f1) := (ξk h 1).trans rfl
theorem IsS86.set_1 {w0 W : World} {g : Nat} {f0 : List Int} {f1 : Int} {f2 : Int} (h : IsS86 w0 W g f0 f1 f2) (x : Int) : IsS86 w0 (W.setCell ⟨g, 1, none⟩ (.int .i64 x)) g f0 x f2 := by
 obtain ⟨A0, c0, hb, hg, hr0⟩ := h
 exact ⟨A0, c0, by simpa using blk_set hb 1 (.int .i64 x), hg, hr0⟩
theorem cellS86_2 {W : World} {g : Nat} {A0 : Option Addr} {c0 : Nat} {f0 : List Int} {f1 : Int} {f2 : Int} (h : W.heap[g]? = some (.cells #[.slice A0 f0.length c0, .int .i64 f1, .int .i64 f2] 86 (0, 0))) : W.cell? ⟨g, 2, none⟩ = some (.int .i64 f2) := (ξk h 2).trans rfl
theorem IsS86.set_2 {w0 W : World} {g : Nat} {f0 : List Int} {f1 : Int} {f2 : Int} (h : IsS86 w0 W g f0 f1 f2) (x : Int) : IsS86 w0 (W.setCell ⟨g, 2, none⟩ (.int .i64 x)) g f0 f1 x := by
 obtain ⟨A0, c0, hb, hg, hr0⟩ := h
 exact ⟨A0, c0, by simpa using blk_set hb 2 (.int .i64 x), hg, hr0⟩
theorem IsS86.new (w0 W : World) (A0 : Option Addr) (c0 : Nat) (f0 : List Int) (f1 : Int) (f2 : Int) (hB : Below w0.heap.size w0 W) (hr0 : Kd.C (Kd.int .u8) w0 A0 f0.length f0) : IsS86 w0 (W.alloc (.cells #[.slice A0 f0.length c0, .int .i64 f1, .int .i64 f2] 86)) W.heap.size f0 f1 f2 := ⟨A0, c0, by simpa using heap_alloc_new W _, hB.size, hr0⟩

/-! ### spec_l1New: function 62 -/
def spec_l1New.l0 : Nat → List Int → Int → Int → Option (List Int × Int × Int)
 | 0, _, _, _ => none
 | k + 1, x0, x3, x4 => if x4 < (x0.length : Int) then (if x4 < 4000 then (if 0 ≤ x4 then (spec_l1New.l0 k x0 (Go.bits .and .i64 (wrap64 ((wrap64 ((wrap64 (x3 * 137)) + (wrap64 (rd x0 x4)))) + 11)) 1073741823) (wrap64 (x4 + 1))) else (none)) else (some (x0, 0, x3))) else (some (x0, 0, x3))
def spec_l1New.f (k : Nat) (l0 : List Int) : Option (List Int × Int × Int) := spec_l1New.l0 k l0 (wrap64 (193017 + (l0.length : Int))) 0
theorem spec_l1New.mono_l : ∀ k, (∀ y0 y1 y2, LeO (spec_l1New.l0 k y0 y1 y2) (spec_l1New.l0 (k + 1) y0 y1 y2))
 | 0 => fun _ _ _ r h => by simp [spec_l1New.l0] at h
 | k + 1 => by
  have ih0 := spec_l1New.mono_l k
  intro y0 y1 y2
  unfold spec_l1New.l0
  repeat' first
  | (with_reducible exact ih0 _ _ _)
  | (with_reducible exact LeO.refl _)
  | (with_reducible exact LeO.none _)
  | (with_reducible refine LeO.ite ?_ ?_)
  | (with_reducible refine LeO.bind ?_ (fun _ => ?_))
  | exact ih0 _ _ _
  | exact LeO.none _
  | refine LeO.ite ?_ ?_
  | refine LeO.bind ?_ (fun _ => ?_)
theorem spec_l1New.mono : ∀ a0 k, LeO (spec_l1New.f k a0) (spec_l1New.f (k + 1) a0) := by
 intro a0 k
 have ih0 := spec_l1New.mono_l k
 unfold spec_l1New.f
 repeat' first
   | (with_reducible exact ih0 _ _ _)
   | (with_reducible exact LeO.refl _)
   | (with_reducible exact LeO.none _)
   | (with_reducible refine LeO.ite ?_ ?_)
   | (with_reducible refine LeO.bind ?_ (fun _ => ?_))
   | exact ih0 _ _ _
   | exact LeO.none _
   | refine LeO.ite ?_ ?_
   | refine LeO.bind ?_ (fun _ => ?_)
set_option maxHeartbeats 8000000 in
set_option maxRecDepth 100000 in
theorem spec_l1New.calls (k : Nat) (A0 : Option Addr) (c0 : Nat) (l0 : List Int) (r1 : List Int) (r2 : Int) (r3 : Int) (w0 w : World) (hB : Below w0.heap.size w0 w) (hr0 : Kd.C (Kd.int .u8) w0 A0 l0.length l0) (hc0 : l0.length ≤ c0) (h : spec_l1New.f k l0 = some (r1, r2, r3)) :
  Calls Try.prog 62 #[.slice A0 l0.length c0] w fun e w' => ∃ g_ : Nat, e = .returned (.pointer (some ⟨g_, 0, none⟩)) ∧ IsS86 w0 w' g_ r1 r2 r3 ∧ Below w0.heap.size w0 w' ∧ Below w.heap.size w w' := by
 have hu86 := Try.underlying86
 have HR0 := ξp hr0
 have HC0 := ξp hc0
 clear hr0 hc0
 have HBW := ξp (Below.refl w.heap.size w)
 have HW0 := ξp hB.size
 have HB := ξp hB
 clear hB
 have H : (spec_l1New.l0 k l0 (wrap64 (193017 + (l0.length : Int))) 0) = some (r1, r2, r3) := h
 clear h
 have H' := ξp H
 clear H
 go_enter Try.func62, Try.ntmps62
 go_wp2
 go_loopg [3, 4] k (fun kq v3 v4 w' => ∃ (x3_1 : Int) (x4_1 : Int), v3 = .int .i64 x3_1 ∧ v4 = .int .i64 x4_1 ∧ Aside0 (spec_l1New.l0 kq l0 x3_1 x4_1 = some (r1, r2, r3)) ∧ Aside0 (kq ≤ k) ∧ Aside0 (Below w0.heap.size w0 w') ∧ Aside0 (Below w.heap.size w w'))
 case atStart => exact ⟨(wrap64 (193017 + (l0.length : Int))), (0), (by first | rfl | (simp; done) | (simp [*]; done)), (by first | rfl | (simp; done) | (simp [*]; done)), H', ⟨Nat.le_refl _⟩, ⟨by repeat (first | (with_reducible first | exact HB.out | apply ξj | apply ξh | apply ξi) | exact HB.out)⟩, ⟨by repeat (first | (with_reducible first | exact HBW.out | apply ξj | apply ξh | apply ξi) | exact HBW.out)⟩⟩
 case round =>
  clear H'
  obtain ⟨x3_1, x4_1, rfl, rfl, HA, HK1, HB, HBW⟩ := hrel
  cases gk with
  | zero => exact absurd HA.out (by simp [spec_l1New.l0])
  | succ k1 =>
   have H := HA.out
   clear HA
   simp only [spec_l1New.l0] at H
   by_cases c2 : x4_1 < (l0.length : Int)
   ·
    rw [if_pos c2] at H
    have c2b0 : decide (x4_1 < (l0.length : Int)) = true := decide_eq_true c2
    clear c2
    by_cases c3 : x4_1 < 4000
    ·
     rw [if_pos c3] at H
     have c3b0 : decide (x4_1 < 4000) = true := decide_eq_true c3
     clear c3
     by_cases c4 : 0 ≤ x4_1
     ·
      rw [if_pos c4] at H
      have c4b0 : decide (0 ≤ x4_1) = true := decide_eq_true c4
      clear c4
      have H' := ξp H
      clear H
      have p282 : 0 ≤ (x4_1 : Int) := of_decide_eq_true (by first | (with_reducible assumption) | assumption)
      have q282 : x4_1 < (l0.length : Int) := of_decide_eq_true (by first | (with_reducible assumption) | assumption)
      obtain ⟨ad282, e282, hx282_0⟩ := Kd.at_int HR0.out x4_1 p282 q282
      cases e282
      replace hx282_0 := pw_cell_below HB.out hx282_0
      replace p282 := eq_true p282
      replace q282 := eq_true q282
      go_wp2
      go_roundg k1
      case measure => have := HK1.out; omega
      case rel => exact ⟨(Go.bits .and .i64 (wrap64 ((wrap64 ((wrap64 (x3_1 * 137)) + (wrap64 (rd l0 x4_1)))) + 11)) 1073741823), (wrap64 (x4_1 + 1)), (by first | rfl | (simp; done) | (simp [*]; done)), (by first | rfl | (simp; done) | (simp [*]; done)), H', ⟨by have := HK1.out; omega⟩, ⟨by repeat (first | (with_reducible first | exact HB.out | apply ξj | apply ξh | apply ξi) | exact HB.out)⟩, ⟨by repeat (first | (with_reducible first | exact HBW.out | apply ξj | apply ξh | apply ξi) | exact HBW.out)⟩⟩
     rw [if_neg c4] at H
     exact absurd H (by simp)
    rw [if_neg c3] at H
    have c3b0 : decide (x4_1 < 4000) = false := decide_eq_false c3
    clear c3
    simp only [Option.some.injEq, Prod.mk.injEq] at H
    obtain ⟨rfl, rfl, rfl⟩ := H
    go_wp2_with (first | ((with_reducible refine gate_dst (N := 31) rfl ?_); refine box_event ?hg (N := 31) ?hd (cs := #[.slice A0 l0.length c0, .int .i64 0, .int .i64 x3_1]) (t := 86) ?hr ?_; (case hd => rfl); (case hg => rfl); (case hr => first | (go_simp; done) | (go_simp; rfl)); intro gb283 hg w5 hbox hb; have n0_ := ξp (below_step HBW.out hb); have n1_ := ξp (below_step (by repeat (first | (with_reducible first | exact HB.out | apply ξj | apply ξh | apply ξi) | exact HB.out)) hb); have n2_ := ξp (hbox); have n3_ := ξp ((by rw [hg]; exact (below_size (by repeat (first | (with_reducible first | exact HBW.out | apply ξj | apply ξh | apply ξi) | exact HBW.out))) : w.heap.size ≤ gb283)); have n4_ := ξp ((Nat.le_trans HW0.out (by rw [hg]; exact (below_size (by repeat (first | (with_reducible first | exact HBW.out | apply ξj | apply ξh | apply ξi) | exact HBW.out))) : w.heap.size ≤ gb283) : w0.heap.size ≤ gb283)); clear HBW; clear HB; have HBW := n0_; have HB := n1_; have BK283 := n2_; have GW283 := n3_; have GE283 := n4_; clear n0_ n1_ n2_ n3_ n4_; clear hb hbox hg))
    go_ret
    exact ⟨_, rfl, (show IsS86 w0 _ gb283 l0 0 x3_1 from ⟨_, _, by (with_reducible repeat (first | refine ξa ?_ _ | refine ξc ?_ | refine ξb ?_ _)); exact BK283.out, GE283.out, HR0.out⟩), by repeat (first | (with_reducible first | exact HB.out | apply ξj | apply ξh | apply ξi | refine ξg ?_ GE283.out) | exact HB.out), by repeat (first | (with_reducible first | exact HBW.out | apply ξj | apply ξh | apply ξi | refine ξg ?_ GW283.out) | exact HBW.out)⟩
   rw [if_neg c2] at H
   have c2b0 : decide (x4_1 < (l0.length : Int)) = false := decide_eq_false c2
   clear c2
   simp only [Option.some.injEq, Prod.mk.injEq] at H
   obtain ⟨rfl, rfl, rfl⟩ := H
   go_wp2_with (first | ((with_reducible refine gate_dst (N := 31) rfl ?_); refine box_event ?hg (N := 31) ?hd (cs := #[.slice A0 l0.length c0, .int .i64 0, .int .i64 x3_1]) (t := 86) ?hr ?_; (case hd => rfl); (case hg => rfl); (case hr => first | (go_simp; done) | (go_simp; rfl)); intro gb284 hg w6 hbox hb; have n0_ := ξp (below_step HBW.out hb); have n1_ := ξp (below_step (by repeat (first | (with_reducible first | exact HB.out | apply ξj | apply ξh | apply ξi) | exact HB.out)) hb); have n2_ := ξp (hbox); have n3_ := ξp ((by rw [hg]; exact (below_size (by repeat (first | (with_reducible first | exact HBW.out | apply ξj | apply ξh | apply ξi) | exact HBW.out))) : w.heap.size ≤ gb284)); have n4_ := ξp ((Nat.le_trans HW0.out (by rw [hg]; exact (below_size (by repeat (first | (with_reducible first | exact HBW.out | apply ξj | apply ξh | apply ξi) | exact HBW.out))) : w.heap.size ≤ gb284) : w0.heap.size ≤ gb284)); clear HBW; clear HB; have HBW := n0_; have HB := n1_; have BK284 := n2_; have GW284 := n3_; have GE284 := n4_; clear n0_ n1_ n2_ n3_ n4_; clear hb hbox hg))
   go_ret
   exact ⟨_, rfl, (show IsS86 w0 _ gb284 l0 0 x3_1 from ⟨_, _, by (with_reducible repeat (first | refine ξa ?_ _ | refine ξc ?_ | refine ξb ?_ _)); exact BK284.out, GE284.out, HR0.out⟩), by repeat (first | (with_reducible first | exact HB.out | apply ξj | apply ξh | apply ξi | refine ξg ?_ GE284.out) | exact HB.out), by repeat (first | (with_reducible first | exact HBW.out | apply ξj | apply ξh | apply ξi | refine ξg ?_ GW284.out) | exact HBW.out)⟩

/-! ### spec_l1In: function 60 -/
def spec_l1In.f (a0 : Int) (a1 : Int) (a2 : Int) : Option (Bool) := if a0 ≥ a1 then (some (decide (a0 ≤ a2))) else (some false)
set_option maxHeartbeats 8000000 in
set_option maxRecDepth 100000 in
theorem spec_l1In.calls (a0 : Int) (a1 : Int) (a2 : Int) (r : Bool) (w : World) (h : spec_l1In.f a0 a1 a2 = some r) :
  Calls Try.prog 60 #[.int .i64 a0, .int .i64 a1, .int .i64 a2] w fun e w' => e = .returned (.bool r) ∧ Drawn0 w w' := by
 have H : (if a0 ≥ a1 then (some (decide (a0 ≤ a2))) else (some false)) = some r := h
 clear h
 by_cases c4 : a0 ≥ a1
 ·
  rw [if_pos c4] at H
  have c4b0 : decide (a1 ≤ a0) = true := decide_eq_true c4
  clear c4
  obtain rfl := Option.some.inj H
  go_enter Try.func60, Try.ntmps60
  go_wp2
  go_ret
  exact ⟨by first | rfl | (simp; done) | (simp [*]; done), by repeat (first | exact Drawn0.refl _ | apply Drawn0.step)⟩
 rw [if_neg c4] at H
 have c4b0 : decide (a1 ≤ a0) = false := decide_eq_false c4
 clear c4
 obtain rfl := Option.some.inj H
 go_enter Try.func60, Try.ntmps60
 go_wp2
 go_ret
 exact ⟨by first | rfl | (simp; done) | (simp [*]; done), by repeat (first | exact Drawn0.refl _ | apply Drawn0.step)⟩

/-! ### spec_IsSlot: function 53 -/
def spec_IsSlot.f (a0_0 : Int) (a0_1 : Int) (a0_2 : Int) : Option (Bool) := (spec_l1In.f a0_0 1 99).bind fun t286 => (if t286 = true then ((spec_l1In.f a0_1 1 1000).bind fun t287 => (if t287 = true then ((spec_l1In.f a0_2 0 (wrap64 (a0_1 + 15))).bind fun t288 => (some t288)) else (some false))) else (some false))
set_option maxHeartbeats 8000000 in
set_option maxRecDepth 100000 in
theorem spec_IsSlot.calls (a0_0 : Int) (a0_1 : Int) (a0_2 : Int) (r : Bool) (w : World) (h : spec_IsSlot.f a0_0 a0_1 a0_2 = some r) :
  Calls Try.prog 53 #[.agg #[.int .i64 a0_0, .int .i64 a0_1, .int .i64 a0_2]] w fun e w' => e = .returned (.bool r) ∧ Below w.heap.size w w' := by
 have hu25 := Try.underlying25
 have HB := ξp (Below.refl w.heap.size w)
 have H : ((spec_l1In.f a0_0 1 99).bind fun t286 => (if t286 = true then ((spec_l1In.f a0_1 1 1000).bind fun t287 => (if t287 = true then ((spec_l1In.f a0_2 0 (wrap64 (a0_1 + 15))).bind fun t288 => (some t288)) else (some false))) else (some false))) = some r := h
 clear h
 replace H := Option.bind_eq_some_iff.mp H
 obtain ⟨t286, A20, H⟩ := H
 try dsimp only at H
 have A2 := ξp A20
 clear A20
 by_cases c3 : t286 = true
 ·
  subst c3
  rw [if_pos rfl] at H
  replace H := Option.bind_eq_some_iff.mp H
  obtain ⟨t287, A40, H⟩ := H
  try dsimp only at H
  have A4 := ξp A40
  clear A40
  by_cases c5 : t287 = true
  ·
   subst c5
   rw [if_pos rfl] at H
   replace H := Option.bind_eq_some_iff.mp H
   obtain ⟨t288, A60, H⟩ := H
   try dsimp only at H
   have A6 := ξp A60
   clear A60
   obtain rfl := Option.some.inj H
   go_enter Try.func53, Try.ntmps53
   go_wp2_with (first | ((with_reducible refine gate_dst (N := 1) rfl ?_); refine box_event ?hg (N := 1) ?hd (cs := #[.int .i64 a0_0, .int .i64 a0_1, .int .i64 a0_2]) (t := 25) ?hr ?_; (case hd => rfl); (case hg => rfl); (case hr => first | (go_simp; done) | (go_simp; rfl)); intro gb285 hg w7 hbox hb; have n0_ := ξp (below_step (by repeat (first | (with_reducible first | exact HB.out | apply ξj | apply ξh | apply ξi) | exact HB.out)) hb); have n1_ := ξp (hbox); have n2_ := ξp ((by rw [hg]; exact (below_size (by repeat (first | (with_reducible first | exact HB.out | apply ξj | apply ξh | apply ξi) | exact HB.out))) : w.heap.size ≤ gb285)); have n3_ := ξp ((by rw [hg]; exact (below_size (by repeat (first | (with_reducible first | exact HB.out | apply ξj | apply ξh | apply ξi) | exact HB.out))) : w.heap.size ≤ gb285)); clear HB; have HB := n0_; have BK285 := n1_; have GW285 := n2_; have GE285 := n3_; clear n0_ n1_ n2_ n3_; clear hb hbox hg; have hcz8_0 : w7.cell? ⟨gb285, 0, none⟩ = some (.int .i64 a0_0) := (ξk BK285.out 0).trans rfl; have hcz8_1 : w7.cell? ⟨gb285, 1, none⟩ = some (.int .i64 a0_1) := (ξk BK285.out 1).trans rfl; have hcz8_2 : w7.cell? ⟨gb285, 2, none⟩ = some (.int .i64 a0_2) := (ξk BK285.out 2).trans rfl; have hfz8_0 := blk_frozen BK285.out 0; have hfz8_1 := blk_frozen BK285.out 1; have hfz8_2 := blk_frozen BK285.out 2) | ((with_reducible refine gate_callee (f := 60) rfl ?_); refine goesL_ (some 5) rfl rfl Try.func60 (by kernel_rfl) rfl #[.int .i64 a0_0, .int .i64 1, .int .i64 99] rfl (by (try simp only [List.map_toArray, List.map_cons, List.map_nil]); first | done | rfl | (simp only [List.length_drop, List.length_take]; rfl)) ?_; (with_reducible refine (spec_l1In.calls a0_0 1 99 true _ A2.out).mono ?_); rintro e w' ⟨rfl, ⟨nd, rfl⟩⟩; refine ⟨_, rfl, ?_⟩) | (go_at_call 60; (with_reducible refine (spec_l1In.calls a0_1 1 1000 true _ A4.out).mono ?_); rintro e w' ⟨rfl, ⟨nd, rfl⟩⟩) | (go_at_call 60; (with_reducible refine (spec_l1In.calls a0_2 0 (wrap64 (a0_1 + 15)) t288 _ A6.out).mono ?_); rintro e w' ⟨rfl, ⟨nd, rfl⟩⟩))
   go_ret
   exact ⟨by first | rfl | (simp [errW_none, errW_some] <;> rfl) | (simp [*, errW_none, errW_some] <;> rfl), by repeat (first | (with_reducible first | exact HB.out | apply ξj | apply ξh | apply ξi | refine ξg ?_ GE285.out) | exact HB.out)⟩
  replace c5 := Bool.eq_false_iff.mpr c5
  subst c5
  have H1 : (some false) = some r := by rw [if_neg (show ¬ (false = true) by decide)] at H; exact H
  clear H
  have H := H1
  clear H1
  obtain rfl := Option.some.inj H
  go_enter Try.func53, Try.ntmps53
  go_wp2_with (first | ((with_reducible refine gate_dst (N := 1) rfl ?_); refine box_event ?hg (N := 1) ?hd (cs := #[.int .i64 a0_0, .int .i64 a0_1, .int .i64 a0_2]) (t := 25) ?hr ?_; (case hd => rfl); (case hg => rfl); (case hr => first | (go_simp; done) | (go_simp; rfl)); intro gb285 hg w9 hbox hb; have n0_ := ξp (below_step (by repeat (first | (with_reducible first | exact HB.out | apply ξj | apply ξh | apply ξi) | exact HB.out)) hb); have n1_ := ξp (hbox); have n2_ := ξp ((by rw [hg]; exact (below_size (by repeat (first | (with_reducible first | exact HB.out | apply ξj | apply ξh | apply ξi) | exact HB.out))) : w.heap.size ≤ gb285)); have n3_ := ξp ((by rw [hg]; exact (below_size (by repeat (first | (with_reducible first | exact HB.out | apply ξj | apply ξh | apply ξi) | exact HB.out))) : w.heap.size ≤ gb285)); clear HB; have HB := n0_; have BK285 := n1_; have GW285 := n2_; have GE285 := n3_; clear n0_ n1_ n2_ n3_; clear hb hbox hg; have hcz10_0 : w9.cell? ⟨gb285, 0, none⟩ = some (.int .i64 a0_0) := (ξk BK285.out 0).trans rfl; have hcz10_1 : w9.cell? ⟨gb285, 1, none⟩ = some (.int .i64 a0_1) := (ξk BK285.out 1).trans rfl; have hcz10_2 : w9.cell? ⟨gb285, 2, none⟩ = some (.int .i64 a0_2) := (ξk BK285.out 2).trans rfl; have hfz10_0 := blk_frozen BK285.out 0; have hfz10_1 := blk_frozen BK285.out 1; have hfz10_2 := blk_frozen BK285.out 2) | ((with_reducible refine gate_callee (f := 60) rfl ?_); refine goesL_ (some 5) rfl rfl Try.func60 (by kernel_rfl) rfl #[.int .i64 a0_0, .int .i64 1, .int .i64 99] rfl (by (try simp only [List.map_toArray, List.map_cons, List.map_nil]); first | done | rfl | (simp only [List.length_drop, List.length_take]; rfl)) ?_; (with_reducible refine (spec_l1In.calls a0_0 1 99 true _ A2.out).mono ?_); rintro e w' ⟨rfl, ⟨nd, rfl⟩⟩; refine ⟨_, rfl, ?_⟩) | (go_at_call 60; (with_reducible refine (spec_l1In.calls a0_1 1 1000 false _ A4.out).mono ?_); rintro e w' ⟨rfl, ⟨nd, rfl⟩⟩))
  go_ret
  exact ⟨by first | rfl | (simp [errW_none, errW_some] <;> rfl) | (simp [*, errW_none, errW_some] <;> rfl), by repeat (first | (with_reducible first | exact HB.out | apply ξj | apply ξh | apply ξi | refine ξg ?_ GE285.out) | exact HB.out)⟩
 replace c3 := Bool.eq_false_iff.mpr c3
 subst c3
 have H1 : (some false) = some r := by rw [if_neg (show ¬ (false = true) by decide)] at H; exact H
 clear H
 have H := H1
 clear H1
 obtain rfl := Option.some.inj H
 go_enter Try.func53, Try.ntmps53
 go_wp2_with (first | ((with_reducible refine gate_dst (N := 1) rfl ?_); refine box_event ?hg (N := 1) ?hd (cs := #[.int .i64 a0_0, .int .i64 a0_1, .int .i64 a0_2]) (t := 25) ?hr ?_; (case hd => rfl); (case hg => rfl); (case hr => first | (go_simp; done) | (go_simp; rfl)); intro gb285 hg w11 hbox hb; have n0_ := ξp (below_step (by repeat (first | (with_reducible first | exact HB.out | apply ξj | apply ξh | apply ξi) | exact HB.out)) hb); have n1_ := ξp (hbox); have n2_ := ξp ((by rw [hg]; exact (below_size (by repeat (first | (with_reducible first | exact HB.out | apply ξj | apply ξh | apply ξi) | exact HB.out))) : w.heap.size ≤ gb285)); have n3_ := ξp ((by rw [hg]; exact (below_size (by repeat (first | (with_reducible first | exact HB.out | apply ξj | apply ξh | apply ξi) | exact HB.out))) : w.heap.size ≤ gb285)); clear HB; have HB := n0_; have BK285 := n1_; have GW285 := n2_; have GE285 := n3_; clear n0_ n1_ n2_ n3_; clear hb hbox hg; have hcz12_0 : w11.cell? ⟨gb285, 0, none⟩ = some (.int .i64 a0_0) := (ξk BK285.out 0).trans rfl; have hcz12_1 : w11.cell? ⟨gb285, 1, none⟩ = some (.int .i64 a0_1) := (ξk BK285.out 1).trans rfl; have hcz12_2 : w11.cell? ⟨gb285, 2, none⟩ = some (.int .i64 a0_2) := (ξk BK285.out 2).trans rfl; have hfz12_0 := blk_frozen BK285.out 0; have hfz12_1 := blk_frozen BK285.out 1; have hfz12_2 := blk_frozen BK285.out 2) | ((with_reducible refine gate_callee (f := 60) rfl ?_); refine goesL_ (some 5) rfl rfl Try.func60 (by kernel_rfl) rfl #[.int .i64 a0_0, .int .i64 1, .int .i64 99] rfl (by (try simp only [List.map_toArray, List.map_cons, List.map_nil]); first | done | rfl | (simp only [List.length_drop, List.length_take]; rfl)) ?_; (with_reducible refine (spec_l1In.calls a0_0 1 99 false _ A2.out).mono ?_); rintro e w' ⟨rfl, ⟨nd, rfl⟩⟩; refine ⟨_, rfl, ?_⟩))
 go_ret
 exact ⟨by first | rfl | (simp [errW_none, errW_some] <;> rfl) | (simp [*, errW_none, errW_some] <;> rfl), by repeat (first | (with_reducible first | exact HB.out | apply ξj | apply ξh | apply ξi | refine ξg ?_ GE285.out) | exact HB.out)⟩

/-! ### spec_MayOffer: function 15 -/
def spec_MayOffer.f (a0_0 : Int) (a0_1 : Int) (a0_2 : Int) (a1 : Int) : Option (Bool) := (spec_IsSlot.f a0_0 a0_1 a0_2).bind fun t290 => (if t290 = true then (if a1 ≥ 60 then (some (decide (a1 ≤ (wrap64 (a0_1 - 60))))) else (some false)) else (some false))
set_option maxHeartbeats 8000000 in
set_option maxRecDepth 100000 in
theorem spec_MayOffer.calls (a0_0 : Int) (a0_1 : Int) (a0_2 : Int) (a1 : Int) (r : Bool) (w : World) (h : spec_MayOffer.f a0_0 a0_1 a0_2 a1 = some r) :
  Calls Try.prog 15 #[.agg #[.int .i64 a0_0, .int .i64 a0_1, .int .i64 a0_2], .int .i64 a1] w fun e w' => e = .returned (.bool r) ∧ Below w.heap.size w w' := by
 have hu25 := Try.underlying25
 have HB := ξp (Below.refl w.heap.size w)
 have H : ((spec_IsSlot.f a0_0 a0_1 a0_2).bind fun t290 => (if t290 = true then (if a1 ≥ 60 then (some (decide (a1 ≤ (wrap64 (a0_1 - 60))))) else (some false)) else (some false))) = some r := h
 clear h
 replace H := Option.bind_eq_some_iff.mp H
 obtain ⟨t290, A30, H⟩ := H
 try dsimp only at H
 have A3 := ξp A30
 clear A30
 by_cases c4 : t290 = true
 ·
  subst c4
  rw [if_pos rfl] at H
  by_cases c5 : a1 ≥ 60
  ·
   rw [if_pos c5] at H
   have c5b0 : decide (60 ≤ a1) = true := decide_eq_true c5
   clear c5
   obtain rfl := Option.some.inj H
   go_enter Try.func15, Try.ntmps15
   go_wp2_with (first | ((with_reducible refine gate_dst (N := 2) rfl ?_); refine box_event ?hg (N := 2) ?hd (cs := #[.int .i64 a0_0, .int .i64 a0_1, .int .i64 a0_2]) (t := 25) ?hr ?_; (case hd => rfl); (case hg => rfl); (case hr => first | (go_simp; done) | (go_simp; rfl)); intro gb289 hg w6 hbox hb; have n0_ := ξp (below_step (by repeat (first | (with_reducible first | exact HB.out | apply ξj | apply ξh | apply ξi) | exact HB.out)) hb); have n1_ := ξp (hbox); have n2_ := ξp ((by rw [hg]; exact (below_size (by repeat (first | (with_reducible first | exact HB.out | apply ξj | apply ξh | apply ξi) | exact HB.out))) : w.heap.size ≤ gb289)); have n3_ := ξp ((by rw [hg]; exact (below_size (by repeat (first | (with_reducible first | exact HB.out | apply ξj | apply ξh | apply ξi) | exact HB.out))) : w.heap.size ≤ gb289)); clear HB; have HB := n0_; have BK289 := n1_; have GW289 := n2_; have GE289 := n3_; clear n0_ n1_ n2_ n3_; clear hb hbox hg; have hcz7_0 : w6.cell? ⟨gb289, 0, none⟩ = some (.int .i64 a0_0) := (ξk BK289.out 0).trans rfl; have hcz7_1 : w6.cell? ⟨gb289, 1, none⟩ = some (.int .i64 a0_1) := (ξk BK289.out 1).trans rfl; have hcz7_2 : w6.cell? ⟨gb289, 2, none⟩ = some (.int .i64 a0_2) := (ξk BK289.out 2).trans rfl; have hfz7_0 := blk_frozen BK289.out 0; have hfz7_1 := blk_frozen BK289.out 1; have hfz7_2 := blk_frozen BK289.out 2) | ((with_reducible refine gate_callee (f := 53) rfl ?_); refine goesL_ (some 6) rfl rfl Try.func53 (by kernel_rfl) rfl #[.agg #[.int .i64 a0_0, .int .i64 a0_1, .int .i64 a0_2]] rfl (by (try simp only [List.map_toArray, List.map_cons, List.map_nil]); first | done | rfl | (simp only [List.length_drop, List.length_take]; rfl)) ?_; (with_reducible refine (spec_IsSlot.calls a0_0 a0_1 a0_2 true _ A3.out).mono ?_); rintro e w8 ⟨rfl, hb⟩; refine ⟨_, rfl, ?_⟩; have n0_ := ξp (ξl (g := gb289) (o := .cells #[.int .i64 a0_0, .int .i64 a0_1, .int .i64 a0_2] 25 (0, 0)) (by (with_reducible repeat (first | refine ξa ?_ _ | refine ξc ?_ | refine ξb ?_ _)); exact BK289.out) hb); have n1_ := ξp (below_step (by repeat (first | (with_reducible first | exact HB.out | apply ξj | apply ξh | apply ξi | refine ξg ?_ GE289.out) | exact HB.out)) hb); clear BK289; clear HB; have BK289 := n0_; have HB := n1_; clear n0_ n1_; (try clear hb); (try clear hb2); (try clear hk); (try clear hi); have hcz9_0 : w8.cell? ⟨gb289, 0, none⟩ = some (.int .i64 a0_0) := (ξk BK289.out 0).trans rfl; have hcz9_1 : w8.cell? ⟨gb289, 1, none⟩ = some (.int .i64 a0_1) := (ξk BK289.out 1).trans rfl; have hcz9_2 : w8.cell? ⟨gb289, 2, none⟩ = some (.int .i64 a0_2) := (ξk BK289.out 2).trans rfl; have hfz9_0 := blk_frozen BK289.out 0; have hfz9_1 := blk_frozen BK289.out 1; have hfz9_2 := blk_frozen BK289.out 2))
   go_ret
   exact ⟨by first | rfl | (simp [errW_none, errW_some] <;> rfl) | (simp [*, errW_none, errW_some] <;> rfl), by repeat (first | (with_reducible first | exact HB.out | apply ξj | apply ξh | apply ξi | refine ξg ?_ GE289.out) | exact HB.out)⟩
  rw [if_neg c5] at H
  have c5b0 : decide (60 ≤ a1) = false := decide_eq_false c5
  clear c5
  obtain rfl := Option.some.inj H
  go_enter Try.func15, Try.ntmps15
  go_wp2_with (first | ((with_reducible refine gate_dst (N := 2) rfl ?_); refine box_event ?hg (N := 2) ?hd (cs := #[.int .i64 a0_0, .int .i64 a0_1, .int .i64 a0_2]) (t := 25) ?hr ?_; (case hd => rfl); (case hg => rfl); (case hr => first | (go_simp; done) | (go_simp; rfl)); intro gb289 hg w10 hbox hb; have n0_ := ξp (below_step (by repeat (first | (with_reducible first | exact HB.out | apply ξj | apply ξh | apply ξi) | exact HB.out)) hb); have n1_ := ξp (hbox); have n2_ := ξp ((by rw [hg]; exact (below_size (by repeat (first | (with_reducible first | exact HB.out | apply ξj | apply ξh | apply ξi) | exact HB.out))) : w.heap.size ≤ gb289)); have n3_ := ξp ((by rw [hg]; exact (below_size (by repeat (first | (with_reducible first | exact HB.out | apply ξj | apply ξh | apply ξi) | exact HB.out))) : w.heap.size ≤ gb289)); clear HB; have HB := n0_; have BK289 := n1_; have GW289 := n2_; have GE289 := n3_; clear n0_ n1_ n2_ n3_; clear hb hbox hg; have hcz11_0 : w10.cell? ⟨gb289, 0, none⟩ = some (.int .i64 a0_0) := (ξk BK289.out 0).trans rfl; have hcz11_1 : w10.cell? ⟨gb289, 1, none⟩ = some (.int .i64 a0_1) := (ξk BK289.out 1).trans rfl; have hcz11_2 : w10.cell? ⟨gb289, 2, none⟩ = some (.int .i64 a0_2) := (ξk BK289.out 2).trans rfl; have hfz11_0 := blk_frozen BK289.out 0; have hfz11_1 := blk_frozen BK289.out 1; have hfz11_2 := blk_frozen BK289.out 2) | ((with_reducible refine gate_callee (f := 53) rfl ?_); refine goesL_ (some 6) rfl rfl Try.func53 (by kernel_rfl) rfl #[.agg #[.int .i64 a0_0, .int .i64 a0_1, .int .i64 a0_2]] rfl (by (try simp only [List.map_toArray, List.map_cons, List.map_nil]); first | done | rfl | (simp only [List.length_drop, List.length_take]; rfl)) ?_; (with_reducible refine (spec_IsSlot.calls a0_0 a0_1 a0_2 true _ A3.out).mono ?_); rintro e w12 ⟨rfl, hb⟩; refine ⟨_, rfl, ?_⟩; have n0_ := ξp (ξl (g := gb289) (o := .cells #[.int .i64 a0_0, .int .i64 a0_1, .int .i64 a0_2] 25 (0, 0)) (by (with_reducible repeat (first | refine ξa ?_ _ | refine ξc ?_ | refine ξb ?_ _)); exact BK289.out) hb); have n1_ := ξp (below_step (by repeat (first | (with_reducible first | exact HB.out | apply ξj | apply ξh | apply ξi | refine ξg ?_ GE289.out) | exact HB.out)) hb); clear BK289; clear HB; have BK289 := n0_; have HB := n1_; clear n0_ n1_; (try clear hb); (try clear hb2); (try clear hk); (try clear hi)))
  go_ret
  exact ⟨by first | rfl | (simp [errW_none, errW_some] <;> rfl) | (simp [*, errW_none, errW_some] <;> rfl), by repeat (first | (with_reducible first | exact HB.out | apply ξj | apply ξh | apply ξi | refine ξg ?_ GE289.out) | exact HB.out)⟩
 replace c4 := Bool.eq_false_iff.mpr c4
 subst c4
 have H1 : (some false) = some r := by rw [if_neg (show ¬ (false = true) by decide)] at H; exact H
 clear H
 have H := H1
 clear H1
 obtain rfl := Option.some.inj H
 go_enter Try.func15, Try.ntmps15
 go_wp2_with (first | ((with_reducible refine gate_dst (N := 2) rfl ?_); refine box_event ?hg (N := 2) ?hd (cs := #[.int .i64 a0_0, .int .i64 a0_1, .int .i64 a0_2]) (t := 25) ?hr ?_; (case hd => rfl); (case hg => rfl); (case hr => first | (go_simp; done) | (go_simp; rfl)); intro gb289 hg w13 hbox hb; have n0_ := ξp (below_step (by repeat (first | (with_reducible first | exact HB.out | apply ξj | apply ξh | apply ξi) | exact HB.out)) hb); have n1_ := ξp (hbox); have n2_ := ξp ((by rw [hg]; exact (below_size (by repeat (first | (with_reducible first | exact HB.out | apply ξj | apply ξh | apply ξi) | exact HB.out))) : w.heap.size ≤ gb289)); have n3_ := ξp ((by rw [hg]; exact (below_size (by repeat (first | (with_reducible first | exact HB.out | apply ξj | apply ξh | apply ξi) | exact HB.out))) : w.heap.size ≤ gb289)); clear HB; have HB := n0_; have BK289 := n1_; have GW289 := n2_; have GE289 := n3_; clear n0_ n1_ n2_ n3_; clear hb hbox hg; have hcz14_0 : w13.cell? ⟨gb289, 0, none⟩ = some (.int .i64 a0_0) := (ξk BK289.out 0).trans rfl; have hcz14_1 : w13.cell? ⟨gb289, 1, none⟩ = some (.int .i64 a0_1) := (ξk BK289.out 1).trans rfl; have hcz14_2 : w13.cell? ⟨gb289, 2, none⟩ = some (.int .i64 a0_2) := (ξk BK289.out 2).trans rfl; have hfz14_0 := blk_frozen BK289.out 0; have hfz14_1 := blk_frozen BK289.out 1; have hfz14_2 := blk_frozen BK289.out 2) | ((with_reducible refine gate_callee (f := 53) rfl ?_); refine goesL_ (some 6) rfl rfl Try.func53 (by kernel_rfl) rfl #[.agg #[.int .i64 a0_0, .int .i64 a0_1, .int .i64 a0_2]] rfl (by (try simp only [List.map_toArray, List.map_cons, List.map_nil]); first | done | rfl | (simp only [List.length_drop, List.length_take]; rfl)) ?_; (with_reducible refine (spec_IsSlot.calls a0_0 a0_1 a0_2 false _ A3.out).mono ?_); rintro e w15 ⟨rfl, hb⟩; refine ⟨_, rfl, ?_⟩; have n0_ := ξp (ξl (g := gb289) (o := .cells #[.int .i64 a0_0, .int .i64 a0_1, .int .i64 a0_2] 25 (0, 0)) (by (with_reducible repeat (first | refine ξa ?_ _ | refine ξc ?_ | refine ξb ?_ _)); exact BK289.out) hb); have n1_ := ξp (below_step (by repeat (first | (with_reducible first | exact HB.out | apply ξj | apply ξh | apply ξi | refine ξg ?_ GE289.out) | exact HB.out)) hb); clear BK289; clear HB; have BK289 := n0_; have HB := n1_; clear n0_ n1_; (try clear hb); (try clear hb2); (try clear hk); (try clear hi)))
 go_ret
 exact ⟨by first | rfl | (simp [errW_none, errW_some] <;> rfl) | (simp [*, errW_none, errW_some] <;> rfl), by repeat (first | (with_reducible first | exact HB.out | apply ξj | apply ξh | apply ξi | refine ξg ?_ GE289.out) | exact HB.out)⟩

end Go.Proofs.Ytimikonnmcgljaa.QFnOffers
