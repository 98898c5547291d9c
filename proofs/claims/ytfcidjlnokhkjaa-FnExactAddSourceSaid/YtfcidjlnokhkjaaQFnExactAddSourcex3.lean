-- Laid by this session's own program (wip/myprint.py), the kit's printer its engine; turned by hand where that fell. Lean checks it.
import Derived.Test.YtfcidjlnokhkjaaQFnExactAddSourcex0
import Derived.Test.YtfcidjlnokhkjaaQFnExactAddSourcex2
namespace Go.Proofs.Ytfcidjlnokhkjaa.QFnExactAddSource
open Go.RowKit Go.Proofs.YtfcidjlnokhkjaaW.PrintWords Go.Proofs.YtfcidjlnokhkjaaW.PrintLast Go.Proofs.YtfcidjlnokhkjaaW.PrintMore
attribute [local go_sem] max2_int min2_int max_two min_two max_three min_three max_four min_four   -- for this text's walks alone
set_option linter.unusedVariables false
set_option linter.unusedSimpArgs false

/-! ### spec_AddSource: function 26 -/
def spec_AddSource.f (k : Nat) (l0 : List (S37)) (a1_0 : Int) (a1_1 : Int) (a1_2 : Int) (a1_3 : Bool) : Option ((List (S37)) × Bool) := (some (([] : List (S37)) : List (S37))).bind fun y140 => (if y140.length + l0.length < 4398046511104 then ((some (y140 ++ l0 : List (S37))).bind fun y143 => ((some (([(⟨a1_0, a1_1, a1_2, a1_3⟩ : S37)] : List (S37)) : List (S37))).bind fun y146 => (if y143.length + y146.length < 4398046511104 then ((some (y143 ++ y146 : List (S37))).bind fun y149 => ((spec_AreSources.f k y149).bind fun t152 => (if t152 = true then (some (y149, true)) else ((some (([] : List (S37)) : List (S37))).bind fun y153 => (if y153.length + l0.length < 4398046511104 then (some ((y153 ++ l0), false)) else (none)))))) else (none)))) else (none))
theorem spec_AddSource.mono : ∀ a0 a1 a2 a3 a4 k, LeO (spec_AddSource.f k a0 a1 a2 a3 a4) (spec_AddSource.f (k + 1) a0 a1 a2 a3 a4) := by
 intro a0 a1 a2 a3 a4 k
 unfold spec_AddSource.f
 repeat' first
   | (with_reducible exact spec_AreSources.mono _ _)
   | (with_reducible exact LeO.refl _)
   | (with_reducible exact LeO.none _)
   | (with_reducible refine LeO.ite ?_ ?_)
   | (with_reducible refine LeO.bind ?_ (fun _ => ?_))
   | exact spec_AreSources.mono _ _
   | exact LeO.none _
   | refine LeO.ite ?_ ?_
   | refine LeO.bind ?_ (fun _ => ?_)
set_option linter.defProp false
def εa := @blk_drewN
def εb := @blk_alloc
def εc := @blk_drew
def εd := @Kd.R_alloc
def εe := @Kd.R_drewN
def εf := @Kd.R_drew
def εg := @below_set
def εh := @pw_below_drewN
def εi := @below_drew1
def εj := @below_alloc
def εk := @blk_cell
def εm := @List.setIfInBounds_toArray
def εn := @List.set_cons_zero
def εo := @List.set_cons_succ
def εp := @Aside0.mk
def εt := @Kd.R_mono
set_option maxHeartbeats 8000000 in
set_option maxRecDepth 100000 in
theorem spec_AddSource.calls (k : Nat) (A0 : Option Addr) (c0 : Nat) (l0 : List (S37)) (a1_0 : Int) (a1_1 : Int) (a1_2 : Int) (a1_3 : Bool) (r1 : List (S37)) (r2 : Bool) (w : World) (hr0 : Kd.C k37 w A0 l0.length l0) (hc0 : l0.length ≤ c0) (h : spec_AddSource.f k l0 a1_0 a1_1 a1_2 a1_3 = some (r1, r2)) :
  Calls Try.prog 26 #[.slice A0 l0.length c0, .agg #[.int .i64 a1_0, .int .i64 a1_1, .int .i64 a1_2, .bool a1_3]] w fun e w' => ∃ v0_ : Value, e = .returned (.tuple #[v0_, .bool r2]) ∧ Kd.R k37 37 w' w.heap.size (fun _ => True) v0_ r1 ∧ Below w.heap.size w w' := by
 have hu37 := Try.underlying37
 have HR0 := εp hr0
 have HC0 := εp hc0
 clear hr0 hc0
 have HB := εp (Below.refl w.heap.size w)
 have H : ((some (([] : List (S37)) : List (S37))).bind fun y140 => (if y140.length + l0.length < 4398046511104 then ((some (y140 ++ l0 : List (S37))).bind fun y143 => ((some (([(⟨a1_0, a1_1, a1_2, a1_3⟩ : S37)] : List (S37)) : List (S37))).bind fun y146 => (if y143.length + y146.length < 4398046511104 then ((some (y143 ++ y146 : List (S37))).bind fun y149 => ((spec_AreSources.f k y149).bind fun t152 => (if t152 = true then (some (y149, true)) else ((some (([] : List (S37)) : List (S37))).bind fun y153 => (if y153.length + l0.length < 4398046511104 then (some ((y153 ++ l0), false)) else (none)))))) else (none)))) else (none))) = some (r1, r2) := h
 clear h
 obtain ⟨y140, hy140⟩ : ∃ y_ : List (S37), y_ = (([] : List (S37))) := ⟨_, rfl⟩
 replace H : (if y140.length + l0.length < 4398046511104 then ((some (y140 ++ l0 : List (S37))).bind fun y143 => ((some (([(⟨a1_0, a1_1, a1_2, a1_3⟩ : S37)] : List (S37)) : List (S37))).bind fun y146 => (if y143.length + y146.length < 4398046511104 then ((some (y143 ++ y146 : List (S37))).bind fun y149 => ((spec_AreSources.f k y149).bind fun t152 => (if t152 = true then (some (y149, true)) else ((some (([] : List (S37)) : List (S37))).bind fun y153 => (if y153.length + l0.length < 4398046511104 then (some ((y153 ++ l0), false)) else (none)))))) else (none)))) else (none)) = some (r1, r2) := by first | (rw [hy140]; with_reducible exact H) | (have H2_ := (Option.bind_some _ _).symm.trans H; rw [hy140]; with_reducible exact H2_) | (have H2_ := (Option.bind_some _ _).symm.trans H; with_reducible exact H2_) | with_reducible exact H | (rw [hy140]; exact H) | exact H
 have Ny140 := εp hy140
 clear hy140
 by_cases c3 : y140.length + l0.length < 4398046511104
 ·
  rw [if_pos c3] at H
  have LMc3 := εp c3
  clear c3
  obtain ⟨y143, hy143⟩ : ∃ y_ : List (S37), y_ = (y140 ++ l0) := ⟨_, rfl⟩
  replace H : ((some (([(⟨a1_0, a1_1, a1_2, a1_3⟩ : S37)] : List (S37)) : List (S37))).bind fun y146 => (if y143.length + y146.length < 4398046511104 then ((some (y143 ++ y146 : List (S37))).bind fun y149 => ((spec_AreSources.f k y149).bind fun t152 => (if t152 = true then (some (y149, true)) else ((some (([] : List (S37)) : List (S37))).bind fun y153 => (if y153.length + l0.length < 4398046511104 then (some ((y153 ++ l0), false)) else (none)))))) else (none))) = some (r1, r2) := by first | (rw [hy143]; with_reducible exact H) | (have H2_ := (Option.bind_some _ _).symm.trans H; rw [hy143]; with_reducible exact H2_) | (have H2_ := (Option.bind_some _ _).symm.trans H; with_reducible exact H2_) | with_reducible exact H | (rw [hy143]; exact H) | exact H
  have Ny143 := εp hy143
  clear hy143
  obtain ⟨y146, hy146⟩ : ∃ y_ : List (S37), y_ = (([(⟨a1_0, a1_1, a1_2, a1_3⟩ : S37)] : List (S37))) := ⟨_, rfl⟩
  replace H : (if y143.length + y146.length < 4398046511104 then ((some (y143 ++ y146 : List (S37))).bind fun y149 => ((spec_AreSources.f k y149).bind fun t152 => (if t152 = true then (some (y149, true)) else ((some (([] : List (S37)) : List (S37))).bind fun y153 => (if y153.length + l0.length < 4398046511104 then (some ((y153 ++ l0), false)) else (none)))))) else (none)) = some (r1, r2) := by first | (rw [hy146]; with_reducible exact H) | (have H2_ := (Option.bind_some _ _).symm.trans H; rw [hy146]; with_reducible exact H2_) | (have H2_ := (Option.bind_some _ _).symm.trans H; with_reducible exact H2_) | with_reducible exact H | (rw [hy146]; exact H) | exact H
  have Ny146 := εp hy146
  clear hy146
  by_cases c4 : y143.length + y146.length < 4398046511104
  ·
   rw [if_pos c4] at H
   have LMc4 := εp c4
   clear c4
   obtain ⟨y149, hy149⟩ : ∃ y_ : List (S37), y_ = (y143 ++ y146) := ⟨_, rfl⟩
   replace H : ((spec_AreSources.f k y149).bind fun t152 => (if t152 = true then (some (y149, true)) else ((some (([] : List (S37)) : List (S37))).bind fun y153 => (if y153.length + l0.length < 4398046511104 then (some ((y153 ++ l0), false)) else (none))))) = some (r1, r2) := by first | (rw [hy149]; with_reducible exact H) | (have H2_ := (Option.bind_some _ _).symm.trans H; rw [hy149]; with_reducible exact H2_) | (have H2_ := (Option.bind_some _ _).symm.trans H; with_reducible exact H2_) | with_reducible exact H | (rw [hy149]; exact H) | exact H
   have Ny149 := εp hy149
   clear hy149
   replace H := Option.bind_eq_some_iff.mp H
   obtain ⟨t152, A50, H⟩ := H
   replace H : (if t152 = true then (some (y149, true)) else ((some (([] : List (S37)) : List (S37))).bind fun y153 => (if y153.length + l0.length < 4398046511104 then (some ((y153 ++ l0), false)) else (none)))) = some (r1, r2) := H
   have A5 := εp A50
   clear A50
   by_cases c6 : t152 = true
   ·
    subst c6
    have H1 : (some (y149, true)) = some (r1, r2) := by rw [if_pos rfl] at H; exact H
    clear H
    have H := H1
    clear H1
    simp only [Option.some.injEq, Prod.mk.injEq] at H
    obtain ⟨rfl, rfl⟩ := H
    go_enter Try.func26, Try.ntmps26
    try go_wp2_with (first | ((with_reducible refine gate_dst (N := 3) rfl ?_); refine box_event ?hg (N := 3) ?hd (cs := #[.int .i64 a1_0, .int .i64 a1_1, .int .i64 a1_2, .bool a1_3]) (t := 37) ?hr ?_; (case hd => rfl); (case hg => rfl); (case hr => first | (go_simp; done) | (go_simp; rfl)); intro gb139 hg w7 hbox hb; have n0_ := εp (below_step (by repeat (first | (with_reducible first | exact HB.out | apply εj | apply εh | apply εi) | exact HB.out)) hb); have n1_ := εp (hbox); have n2_ := εp ((by rw [hg]; exact (below_size (by repeat (first | (with_reducible first | exact HB.out | apply εj | apply εh | apply εi) | exact HB.out))) : w.heap.size ≤ gb139)); have n3_ := εp ((by rw [hg]; exact (below_size (by repeat (first | (with_reducible first | exact HB.out | apply εj | apply εh | apply εi) | exact HB.out))) : w.heap.size ≤ gb139)); clear HB; have HB := n0_; have BK139 := n1_; have GW139 := n2_; have GE139 := n3_; clear n0_ n1_ n2_ n3_; clear hb hbox hg))
    have n0_ := εp (εc BK139.out)
    have n1_ := εp (εi HB.out)
    clear BK139
    clear HB
    have BK139 := n0_
    have HB := n1_
    clear n0_ n1_
    refine start_ (n := 7) (S := fun w' => w'.cell? ⟨gb139, 0, none⟩ = some (.int .i64 a1_0) ∧ w'.cell? ⟨gb139, 1, none⟩ = some (.int .i64 a1_1) ∧ w'.cell? ⟨gb139, 2, none⟩ = some (.int .i64 a1_2) ∧ w'.cell? ⟨gb139, 3, none⟩ = some (.bool a1_3)) (ds := []) #[false, false, false, false, false, false, false] (by kernel_rfl) rfl rfl ⟨(εk BK139.out 0).trans rfl, (εk BK139.out 1).trans rfl, (εk BK139.out 2).trans rfl, (εk BK139.out 3).trans rfl⟩ (fun hHeld => ?_)
    generalize w7.drew = w8 at BK139 HB hHeld ⊢
    refine pure_ (i := 1) (N := some 8) (v := ?_) (a' := ?_) #[false, true, false, false, false, false, false] rfl rfl (by kernel_rfl) (fun _ _ _ h => h) (Or.inl ⟨by rfl, ?_⟩) ?_ ?_
    rotate_left; · (intro w'; go_simp; with_reducible rfl)
    rotate_left; · (simp only [Act.put, εm, εn, εo, i64_w, i32_w]; rfl)
    refine take_ (i := 3) (N := some 10) (v := ?_) (a' := ?_) #[false, true, false, true, false, false, false] rfl rfl (by kernel_rfl) (fun _ _ _ h => h) (Or.inl ⟨by rfl, ?_⟩) hHeld ?_ ?_
    rotate_left
    ·
     rintro w' ⟨s0, s1, s2, s3⟩
     go_simp
     with_reducible rfl
    rotate_left
    ·
     simp only [Act.put, εm, εn, εo, i64_w, i32_w]
     rfl
    refine join_ (σ := Value × Value × Value) 2 #[true, true, true, true, true, false, false] (fun s_ => [(7, s_.1), (9, s_.2.1), (11, s_.2.2)]) (fun s_ w' => (w'.cell? ⟨gb139, 0, none⟩ = some (.int .i64 a1_0) ∧ w'.cell? ⟨gb139, 1, none⟩ = some (.int .i64 a1_1) ∧ w'.cell? ⟨gb139, 2, none⟩ = some (.int .i64 a1_2) ∧ w'.cell? ⟨gb139, 3, none⟩ = some (.bool a1_3)) ∧ (Kd.R k37 37 w' w.heap.size (fun k_ => some k_ ≠ (s_.2.2 : Value).ownBlock ∧ k_ ≠ gb139) s_.2.1 y143) ∧ (Kd.R k37 37 w' w.heap.size (fun k_ => some k_ ≠ (s_.2.1 : Value).ownBlock ∧ k_ ≠ gb139) s_.2.2 y146) ∧ (w'.heap[gb139]? = some (.cells #[.int .i64 a1_0, .int .i64 a1_1, .int .i64 a1_2, .bool a1_3] 37 (0, 0))) ∧ (Below w.heap.size w w')) ?_ ?_
    rotate_left
    ·
     intro hCont
     refine two_ (i := 0) (j := 4) (Ni := some 7) (Nj := some 11) #[true, true, false, true, false, false, false] #[false, true, false, true, true, false, false] rfl rfl rfl rfl (by kernel_rfl) (by decide) (by decide) (fun K hK => ?_) (fun K hK => ?_)
     ·
      skip
      refine Kd.R_lit_step k37 _ 37 ?hg (N := 7) ?hd (xs := ([] : List (S37))) (inner := []) (ok := fun _ => True) (okp := fun _ => True) ?hr ?hp (fun _ hk => hk) trivial (Below.refl _ _) (Nat.le_refl _) (by simp) ?_; (case hd => rfl); (case hg => rfl); (case hr => first | (go_simp; done) | (go_simp; rfl)); (case hp => exact (Reps.none _ _))
      intro v141 w9 ho10 hb hg_ hnew_
      clear hg_ hnew_
      (first | rw [← Ny140.out] at ho10 | (simp only [Int.reduceToNat] at ho10; rw [← Ny140.out] at ho10))
      have n0_ := εp (Kd.R_lower (Kd.R_newB ho10 (g := gb139) (o := .cells #[.int .i64 a1_0, .int .i64 a1_1, .int .i64 a1_2, .bool a1_3] 37 (0, 0)) (by (with_reducible repeat (first | refine εa ?_ _ | refine εc ?_ | refine εb ?_ _)); exact BK139.out)) (below_size (by repeat (first | (with_reducible first | exact HB.out | apply εj | apply εh | apply εi | refine εg ?_ GE139.out) | exact HB.out))))
      have n1_ := εp (blk_below (g := gb139) (o := .cells #[.int .i64 a1_0, .int .i64 a1_1, .int .i64 a1_2, .bool a1_3] 37 (0, 0)) (by (with_reducible repeat (first | refine εa ?_ _ | refine εc ?_ | refine εb ?_ _)); exact BK139.out) hb)
      have n2_ := εp (below_step (by repeat (first | (with_reducible first | exact HB.out | apply εj | apply εh | apply εi | refine εg ?_ GE139.out) | exact HB.out)) hb)
      clear BK139
      clear HB
      have HO142 := n0_
      have BK139 := n1_
      have HB := n2_
      clear n0_ n1_ n2_
      clear hb ho10
      refine hK.out _ _ ⟨(εk BK139.out 0).trans rfl, (εk BK139.out 1).trans rfl, (εk BK139.out 2).trans rfl, (εk BK139.out 3).trans rfl⟩ (fun hHeld => ?_)
      clear hK K
      refine norm_ (a' := ?_) ?_ ?_
      rotate_left
      ·
       show Act.put _ (some 7) _ = _
       simp only [Act.put, εm, εn, εo, i64_w, i32_w]
       rfl
      refine two_ (i := 2) (j := 4) (Ni := some 9) (Nj := some 11) #[true, true, true, true, false, false, false] #[true, true, false, true, true, false, false] rfl rfl rfl rfl (by kernel_rfl) (by decide) (by decide) (fun K hK => ?_) (fun K hK => ?_)
      ·
       skip
       refine Kd.R_append_rows_step k37 (w0 := w) w.heap.size (by rfl) (.tmp 7) (.tmp 8) 25 37 (.agg #[(.int .i64 0), (.int .i64 0), (.int .i64 0), (.bool false)]) 32 rfl Try.underlying25 info37 rfl (by decide) (by omega) v141 y140 l0 _ _ _ (fun k_ => k_ ≠ gb139) (fun _ => False) rfl rfl ?aO ?aR (fun _ _ h => h) (fun _ h => h.elim) ?aF ?aB ?aS ?aL ?_
       (case aR => repeat (first | exact (Kd.C_below HR0.out HB.out) | (with_reducible refine Kd.C_alloc ?_ _) | (with_reducible refine Kd.C_drewN ?_ _) | (with_reducible refine Kd.C_drew ?_)))
       (case aB => exact (by repeat (first | (with_reducible first | exact HB.out | apply εj | apply εh | apply εi | refine εg ?_ GE139.out) | exact HB.out)))
       (case aF => exact (fun k_ hk => Kd.freshB (g := gb139) (o := .cells #[.int .i64 a1_0, .int .i64 a1_1, .int .i64 a1_2, .bool a1_3] 37 (0, 0)) (by (with_reducible repeat (first | refine εa ?_ _ | refine εc ?_ | refine εb ?_ _)); exact BK139.out) k_ hk))
       (case aO => exact (by (with_reducible repeat (first | apply εd | apply εe | apply εf)); exact εt HO142.out (fun _ hk => hk.2)))
       (case aS => exact (below_size (by repeat (first | (with_reducible first | exact HB.out | apply εj | apply εh | apply εi | refine εg ?_ GE139.out) | exact HB.out))))
       (case aL => have := LMc3.out; omega)
       intro v144 w11 ho hb hg hat
       rw [← Ny143.out] at ho
       have n0_ := εp (blk_grown (g := gb139) (o := .cells #[.int .i64 a1_0, .int .i64 a1_1, .int .i64 a1_2, .bool a1_3] 37 (0, 0)) (by (with_reducible repeat (first | refine εa ?_ _ | refine εc ?_ | refine εb ?_ _)); exact BK139.out) hg (Kd.R_away HO142.out (fun _ hk => hk.2)))
       have n1_ := εp (hb)
       have n2_ := εp (ho)
       clear BK139
       clear HB
       clear HO142
       have BK139 := n0_
       have HB := n1_
       have HO145 := n2_
       clear n0_ n1_ n2_
       clear ho hb hg hat
       refine hK.out _ _ ⟨(εk BK139.out 0).trans rfl, (εk BK139.out 1).trans rfl, (εk BK139.out 2).trans rfl, (εk BK139.out 3).trans rfl⟩ (fun hHeld => ?_)
       clear hK K
       refine norm_ (a' := ?_) ?_ ?_
       rotate_left
       ·
        show Act.put _ (some 9) _ = _
        simp only [Act.put, εm, εn, εo, i64_w, i32_w]
        rfl
       refine one_ (i := 4) (N := some 11) #[true, true, true, true, true, false, false] rfl rfl (by kernel_rfl) (by decide) (fun K hK => ?_)
       refine Kd.R_lit_step k37 _ 37 ?hg (N := 11) ?hd (xs := ([(⟨a1_0, a1_1, a1_2, a1_3⟩ : S37)] : List (S37))) (inner := [.int .i64 a1_0, .int .i64 a1_1, .int .i64 a1_2, .bool a1_3]) (ok := fun _ => True) (okp := fun _ => True) ?hr ?hp (fun _ hk => hk) trivial (Below.refl _ _) (Nat.le_refl _) (by simp) ?_; (case hd => rfl); (case hg => rfl); (case hr => first | (go_simp; done) | (go_simp; rfl)); (case hp => exact (Reps.c4 (show Kd.M k37 _ _ _ (⟨a1_0, a1_1, a1_2, a1_3⟩ : S37) [.int .i64 a1_0, .int .i64 a1_1, .int .i64 a1_2, .bool a1_3] from (k37_mkM _ _ _ (⟨a1_0, a1_1, a1_2, a1_3⟩ : S37) )) (Reps.none _ _)))
       intro v147 w12 ho13 hb hg_ hnew_
       clear hg_ hnew_
       (first | rw [← Ny146.out] at ho13 | (simp only [Int.reduceToNat] at ho13; rw [← Ny146.out] at ho13))
       have n0_ := εp (Kd.R_elder' (by (with_reducible repeat (first | apply εd | apply εe | apply εf)); exact HO145.out) (Kd.R_base ho13) hb)
       have n1_ := εp (Kd.R_lower (Kd.R_newB (Kd.R_new' ho13 (Kd.R_lt (by (with_reducible repeat (first | apply εd | apply εe | apply εf)); exact HO145.out))) (g := gb139) (o := .cells #[.int .i64 a1_0, .int .i64 a1_1, .int .i64 a1_2, .bool a1_3] 37 (0, 0)) (by (with_reducible repeat (first | refine εa ?_ _ | refine εc ?_ | refine εb ?_ _)); exact BK139.out)) (below_size (by repeat (first | (with_reducible first | exact HB.out | apply εj | apply εh | apply εi | refine εg ?_ GE139.out) | exact HB.out))))
       have n2_ := εp (blk_below (g := gb139) (o := .cells #[.int .i64 a1_0, .int .i64 a1_1, .int .i64 a1_2, .bool a1_3] 37 (0, 0)) (by (with_reducible repeat (first | refine εa ?_ _ | refine εc ?_ | refine εb ?_ _)); exact BK139.out) hb)
       have n3_ := εp (below_step (by repeat (first | (with_reducible first | exact HB.out | apply εj | apply εh | apply εi | refine εg ?_ GE139.out) | exact HB.out)) hb)
       clear HO145
       clear BK139
       clear HB
       have HO145 := n0_
       have HO148 := n1_
       have BK139 := n2_
       have HB := n3_
       clear n0_ n1_ n2_ n3_
       clear hb ho13
       refine hK.out _ _ ⟨(εk BK139.out 0).trans rfl, (εk BK139.out 1).trans rfl, (εk BK139.out 2).trans rfl, (εk BK139.out 3).trans rfl⟩ (fun hHeld => ?_)
       clear hK K
       refine norm_ (a' := ?_) ?_ ?_
       rotate_left
       ·
        show Act.put _ (some 11) _ = _
        simp only [Act.put, εm, εn, εo, i64_w, i32_w]
        rfl
       exact norm_ (by simp only [putAll, Act.put, εm, εn, εo]) (hCont (v141, v144, v147) _ ⟨hHeld, (by (with_reducible repeat (first | apply εd | apply εe | apply εf)); exact εt HO145.out (fun _ hk => ⟨hk.2, hk.1⟩)), (by (with_reducible repeat (first | apply εd | apply εe | apply εf)); exact εt HO148.out (fun _ hk => ⟨hk.1.2, hk.2⟩)), (by (with_reducible repeat (first | refine εa ?_ _ | refine εc ?_ | refine εb ?_ _)); exact BK139.out), (by repeat (first | (with_reducible first | exact HB.out | apply εj | apply εh | apply εi | refine εg ?_ GE139.out) | exact HB.out))⟩)
      skip
      refine Kd.R_lit_step k37 _ 37 ?hg (N := 11) ?hd (xs := ([(⟨a1_0, a1_1, a1_2, a1_3⟩ : S37)] : List (S37))) (inner := [.int .i64 a1_0, .int .i64 a1_1, .int .i64 a1_2, .bool a1_3]) (ok := fun _ => True) (okp := fun _ => True) ?hr ?hp (fun _ hk => hk) trivial (Below.refl _ _) (Nat.le_refl _) (by simp) ?_; (case hd => rfl); (case hg => rfl); (case hr => first | (go_simp; done) | (go_simp; rfl)); (case hp => exact (Reps.c4 (show Kd.M k37 _ _ _ (⟨a1_0, a1_1, a1_2, a1_3⟩ : S37) [.int .i64 a1_0, .int .i64 a1_1, .int .i64 a1_2, .bool a1_3] from (k37_mkM _ _ _ (⟨a1_0, a1_1, a1_2, a1_3⟩ : S37) )) (Reps.none _ _)))
      intro v147 w11 ho12 hb hg_ hnew_
      clear hg_ hnew_
      (first | rw [← Ny146.out] at ho12 | (simp only [Int.reduceToNat] at ho12; rw [← Ny146.out] at ho12))
      have n0_ := εp (Kd.R_elder' (by (with_reducible repeat (first | apply εd | apply εe | apply εf)); exact HO142.out) (Kd.R_base ho12) hb)
      have n1_ := εp (Kd.R_lower (Kd.R_newB (Kd.R_new' ho12 (Kd.R_lt (by (with_reducible repeat (first | apply εd | apply εe | apply εf)); exact HO142.out))) (g := gb139) (o := .cells #[.int .i64 a1_0, .int .i64 a1_1, .int .i64 a1_2, .bool a1_3] 37 (0, 0)) (by (with_reducible repeat (first | refine εa ?_ _ | refine εc ?_ | refine εb ?_ _)); exact BK139.out)) (below_size (by repeat (first | (with_reducible first | exact HB.out | apply εj | apply εh | apply εi | refine εg ?_ GE139.out) | exact HB.out))))
      have n2_ := εp (blk_below (g := gb139) (o := .cells #[.int .i64 a1_0, .int .i64 a1_1, .int .i64 a1_2, .bool a1_3] 37 (0, 0)) (by (with_reducible repeat (first | refine εa ?_ _ | refine εc ?_ | refine εb ?_ _)); exact BK139.out) hb)
      have n3_ := εp (below_step (by repeat (first | (with_reducible first | exact HB.out | apply εj | apply εh | apply εi | refine εg ?_ GE139.out) | exact HB.out)) hb)
      clear HO142
      clear BK139
      clear HB
      have HO142 := n0_
      have HO148 := n1_
      have BK139 := n2_
      have HB := n3_
      clear n0_ n1_ n2_ n3_
      clear hb ho12
      refine hK.out _ _ ⟨(εk BK139.out 0).trans rfl, (εk BK139.out 1).trans rfl, (εk BK139.out 2).trans rfl, (εk BK139.out 3).trans rfl⟩ (fun hHeld => ?_)
      clear hK K
      refine norm_ (a' := ?_) ?_ ?_
      rotate_left
      ·
       show Act.put _ (some 11) _ = _
       simp only [Act.put, εm, εn, εo, i64_w, i32_w]
       rfl
      refine one_ (i := 2) (N := some 9) #[true, true, true, true, true, false, false] rfl rfl (by kernel_rfl) (by decide) (fun K hK => ?_)
      refine Kd.R_append_rows_step k37 (w0 := w) w.heap.size (by rfl) (.tmp 7) (.tmp 8) 25 37 (.agg #[(.int .i64 0), (.int .i64 0), (.int .i64 0), (.bool false)]) 32 rfl Try.underlying25 info37 rfl (by decide) (by omega) v141 y140 l0 _ _ _ (fun k_ => some k_ ≠ (v147 : Value).ownBlock ∧ k_ ≠ gb139) (fun _ => False) rfl rfl ?aO ?aR (fun _ _ h => h) (fun _ h => h.elim) ?aF ?aB ?aS ?aL ?_
      (case aR => repeat (first | exact (Kd.C_below HR0.out HB.out) | (with_reducible refine Kd.C_alloc ?_ _) | (with_reducible refine Kd.C_drewN ?_ _) | (with_reducible refine Kd.C_drew ?_)))
      (case aB => exact (by repeat (first | (with_reducible first | exact HB.out | apply εj | apply εh | apply εi | refine εg ?_ GE139.out) | exact HB.out)))
      (case aF => exact (fun k_ hk => ⟨Kd.fresh' (Kd.R_lt (by (with_reducible repeat (first | apply εd | apply εe | apply εf)); exact HO148.out)) k_ hk, Kd.freshB (g := gb139) (o := .cells #[.int .i64 a1_0, .int .i64 a1_1, .int .i64 a1_2, .bool a1_3] 37 (0, 0)) (by (with_reducible repeat (first | refine εa ?_ _ | refine εc ?_ | refine εb ?_ _)); exact BK139.out) k_ hk⟩))
      (case aO => exact (by (with_reducible repeat (first | apply εd | apply εe | apply εf)); exact εt HO142.out (fun _ hk => ⟨hk.2, hk.1.2⟩)))
      (case aS => exact (below_size (by repeat (first | (with_reducible first | exact HB.out | apply εj | apply εh | apply εi | refine εg ?_ GE139.out) | exact HB.out))))
      (case aL => have := LMc3.out; omega)
      intro v144 w13 ho hb hg hat
      rw [← Ny143.out] at ho
      have n0_ := εp (blk_grown (g := gb139) (o := .cells #[.int .i64 a1_0, .int .i64 a1_1, .int .i64 a1_2, .bool a1_3] 37 (0, 0)) (by (with_reducible repeat (first | refine εa ?_ _ | refine εc ?_ | refine εb ?_ _)); exact BK139.out) hg (Kd.R_away HO142.out (fun _ hk => hk.1.2)))
      have n1_ := εp (Kd.R_after (ok := (fun k_ => k_ ≠ gb139)) (by (with_reducible repeat (first | apply εd | apply εe | apply εf)); exact εt HO148.out (fun _ hk => ⟨hk.2, hk.1.2⟩)) hg hat)
      have n2_ := εp (hb)
      have n3_ := εp (ho)
      clear BK139
      clear HO148
      clear HB
      clear HO142
      have BK139 := n0_
      have HO148 := n1_
      have HB := n2_
      have HO145 := n3_
      clear n0_ n1_ n2_ n3_
      clear ho hb hg hat
      refine hK.out _ _ ⟨(εk BK139.out 0).trans rfl, (εk BK139.out 1).trans rfl, (εk BK139.out 2).trans rfl, (εk BK139.out 3).trans rfl⟩ (fun hHeld => ?_)
      clear hK K
      refine norm_ (a' := ?_) ?_ ?_
      rotate_left
      ·
       show Act.put _ (some 9) _ = _
       simp only [Act.put, εm, εn, εo, i64_w, i32_w]
       rfl
      exact norm_ (by simp only [putAll, Act.put, εm, εn, εo]) (hCont (v141, v144, v147) _ ⟨hHeld, (by (with_reducible repeat (first | apply εd | apply εe | apply εf)); exact HO145.out), (by (with_reducible repeat (first | apply εd | apply εe | apply εf)); exact εt HO148.out (fun _ hk => ⟨hk.2, hk.1⟩)), (by (with_reducible repeat (first | refine εa ?_ _ | refine εc ?_ | refine εb ?_ _)); exact BK139.out), (by repeat (first | (with_reducible first | exact HB.out | apply εj | apply εh | apply εi | refine εg ?_ GE139.out) | exact HB.out))⟩)
     skip
     refine Kd.R_lit_step k37 _ 37 ?hg (N := 11) ?hd (xs := ([(⟨a1_0, a1_1, a1_2, a1_3⟩ : S37)] : List (S37))) (inner := [.int .i64 a1_0, .int .i64 a1_1, .int .i64 a1_2, .bool a1_3]) (ok := fun _ => True) (okp := fun _ => True) ?hr ?hp (fun _ hk => hk) trivial (Below.refl _ _) (Nat.le_refl _) (by simp) ?_; (case hd => rfl); (case hg => rfl); (case hr => first | (go_simp; done) | (go_simp; rfl)); (case hp => exact (Reps.c4 (show Kd.M k37 _ _ _ (⟨a1_0, a1_1, a1_2, a1_3⟩ : S37) [.int .i64 a1_0, .int .i64 a1_1, .int .i64 a1_2, .bool a1_3] from (k37_mkM _ _ _ (⟨a1_0, a1_1, a1_2, a1_3⟩ : S37) )) (Reps.none _ _)))
     intro v147 w9 ho10 hb hg_ hnew_
     clear hg_ hnew_
     (first | rw [← Ny146.out] at ho10 | (simp only [Int.reduceToNat] at ho10; rw [← Ny146.out] at ho10))
     have n0_ := εp (Kd.R_lower (Kd.R_newB ho10 (g := gb139) (o := .cells #[.int .i64 a1_0, .int .i64 a1_1, .int .i64 a1_2, .bool a1_3] 37 (0, 0)) (by (with_reducible repeat (first | refine εa ?_ _ | refine εc ?_ | refine εb ?_ _)); exact BK139.out)) (below_size (by repeat (first | (with_reducible first | exact HB.out | apply εj | apply εh | apply εi | refine εg ?_ GE139.out) | exact HB.out))))
     have n1_ := εp (blk_below (g := gb139) (o := .cells #[.int .i64 a1_0, .int .i64 a1_1, .int .i64 a1_2, .bool a1_3] 37 (0, 0)) (by (with_reducible repeat (first | refine εa ?_ _ | refine εc ?_ | refine εb ?_ _)); exact BK139.out) hb)
     have n2_ := εp (below_step (by repeat (first | (with_reducible first | exact HB.out | apply εj | apply εh | apply εi | refine εg ?_ GE139.out) | exact HB.out)) hb)
     clear BK139
     clear HB
     have HO148 := n0_
     have BK139 := n1_
     have HB := n2_
     clear n0_ n1_ n2_
     clear hb ho10
     refine hK.out _ _ ⟨(εk BK139.out 0).trans rfl, (εk BK139.out 1).trans rfl, (εk BK139.out 2).trans rfl, (εk BK139.out 3).trans rfl⟩ (fun hHeld => ?_)
     clear hK K
     refine norm_ (a' := ?_) ?_ ?_
     rotate_left
     ·
      show Act.put _ (some 11) _ = _
      simp only [Act.put, εm, εn, εo, i64_w, i32_w]
      rfl
     refine one_ (i := 0) (N := some 7) #[true, true, false, true, true, false, false] rfl rfl (by kernel_rfl) (by decide) (fun K hK => ?_)
     refine Kd.R_lit_step k37 _ 37 ?hg (N := 7) ?hd (xs := ([] : List (S37))) (inner := []) (ok := fun _ => True) (okp := fun _ => True) ?hr ?hp (fun _ hk => hk) trivial (Below.refl _ _) (Nat.le_refl _) (by simp) ?_; (case hd => rfl); (case hg => rfl); (case hr => first | (go_simp; done) | (go_simp; rfl)); (case hp => exact (Reps.none _ _))
     intro v141 w11 ho12 hb hg_ hnew_
     clear hg_ hnew_
     (first | rw [← Ny140.out] at ho12 | (simp only [Int.reduceToNat] at ho12; rw [← Ny140.out] at ho12))
     have n0_ := εp (Kd.R_elder' (by (with_reducible repeat (first | apply εd | apply εe | apply εf)); exact HO148.out) (Kd.R_base ho12) hb)
     have n1_ := εp (Kd.R_lower (Kd.R_newB (Kd.R_new' ho12 (Kd.R_lt (by (with_reducible repeat (first | apply εd | apply εe | apply εf)); exact HO148.out))) (g := gb139) (o := .cells #[.int .i64 a1_0, .int .i64 a1_1, .int .i64 a1_2, .bool a1_3] 37 (0, 0)) (by (with_reducible repeat (first | refine εa ?_ _ | refine εc ?_ | refine εb ?_ _)); exact BK139.out)) (below_size (by repeat (first | (with_reducible first | exact HB.out | apply εj | apply εh | apply εi | refine εg ?_ GE139.out) | exact HB.out))))
     have n2_ := εp (blk_below (g := gb139) (o := .cells #[.int .i64 a1_0, .int .i64 a1_1, .int .i64 a1_2, .bool a1_3] 37 (0, 0)) (by (with_reducible repeat (first | refine εa ?_ _ | refine εc ?_ | refine εb ?_ _)); exact BK139.out) hb)
     have n3_ := εp (below_step (by repeat (first | (with_reducible first | exact HB.out | apply εj | apply εh | apply εi | refine εg ?_ GE139.out) | exact HB.out)) hb)
     clear HO148
     clear BK139
     clear HB
     have HO148 := n0_
     have HO142 := n1_
     have BK139 := n2_
     have HB := n3_
     clear n0_ n1_ n2_ n3_
     clear hb ho12
     refine hK.out _ _ ⟨(εk BK139.out 0).trans rfl, (εk BK139.out 1).trans rfl, (εk BK139.out 2).trans rfl, (εk BK139.out 3).trans rfl⟩ (fun hHeld => ?_)
     clear hK K
     refine norm_ (a' := ?_) ?_ ?_
     rotate_left
     ·
      show Act.put _ (some 7) _ = _
      simp only [Act.put, εm, εn, εo, i64_w, i32_w]
      rfl
     refine one_ (i := 2) (N := some 9) #[true, true, true, true, true, false, false] rfl rfl (by kernel_rfl) (by decide) (fun K hK => ?_)
     refine Kd.R_append_rows_step k37 (w0 := w) w.heap.size (by rfl) (.tmp 7) (.tmp 8) 25 37 (.agg #[(.int .i64 0), (.int .i64 0), (.int .i64 0), (.bool false)]) 32 rfl Try.underlying25 info37 rfl (by decide) (by omega) v141 y140 l0 _ _ _ (fun k_ => some k_ ≠ (v147 : Value).ownBlock ∧ k_ ≠ gb139) (fun _ => False) rfl rfl ?aO ?aR (fun _ _ h => h) (fun _ h => h.elim) ?aF ?aB ?aS ?aL ?_
     (case aR => repeat (first | exact (Kd.C_below HR0.out HB.out) | (with_reducible refine Kd.C_alloc ?_ _) | (with_reducible refine Kd.C_drewN ?_ _) | (with_reducible refine Kd.C_drew ?_)))
     (case aB => exact (by repeat (first | (with_reducible first | exact HB.out | apply εj | apply εh | apply εi | refine εg ?_ GE139.out) | exact HB.out)))
     (case aF => exact (fun k_ hk => ⟨Kd.fresh' (Kd.R_lt (by (with_reducible repeat (first | apply εd | apply εe | apply εf)); exact HO148.out)) k_ hk, Kd.freshB (g := gb139) (o := .cells #[.int .i64 a1_0, .int .i64 a1_1, .int .i64 a1_2, .bool a1_3] 37 (0, 0)) (by (with_reducible repeat (first | refine εa ?_ _ | refine εc ?_ | refine εb ?_ _)); exact BK139.out) k_ hk⟩))
     (case aO => exact (by (with_reducible repeat (first | apply εd | apply εe | apply εf)); exact εt HO142.out (fun _ hk => ⟨hk.1.2, hk.2⟩)))
     (case aS => exact (below_size (by repeat (first | (with_reducible first | exact HB.out | apply εj | apply εh | apply εi | refine εg ?_ GE139.out) | exact HB.out))))
     (case aL => have := LMc3.out; omega)
     intro v144 w13 ho hb hg hat
     rw [← Ny143.out] at ho
     have n0_ := εp (blk_grown (g := gb139) (o := .cells #[.int .i64 a1_0, .int .i64 a1_1, .int .i64 a1_2, .bool a1_3] 37 (0, 0)) (by (with_reducible repeat (first | refine εa ?_ _ | refine εc ?_ | refine εb ?_ _)); exact BK139.out) hg (Kd.R_away HO142.out (fun _ hk => hk.2)))
     have n1_ := εp (Kd.R_after (ok := (fun k_ => k_ ≠ gb139)) (by (with_reducible repeat (first | apply εd | apply εe | apply εf)); exact εt HO148.out (fun _ hk => ⟨hk.1.2, hk.2⟩)) hg hat)
     have n2_ := εp (hb)
     have n3_ := εp (ho)
     clear BK139
     clear HO148
     clear HB
     clear HO142
     have BK139 := n0_
     have HO148 := n1_
     have HB := n2_
     have HO145 := n3_
     clear n0_ n1_ n2_ n3_
     clear ho hb hg hat
     refine hK.out _ _ ⟨(εk BK139.out 0).trans rfl, (εk BK139.out 1).trans rfl, (εk BK139.out 2).trans rfl, (εk BK139.out 3).trans rfl⟩ (fun hHeld => ?_)
     clear hK K
     refine norm_ (a' := ?_) ?_ ?_
     rotate_left
     ·
      show Act.put _ (some 9) _ = _
      simp only [Act.put, εm, εn, εo, i64_w, i32_w]
      rfl
     exact norm_ (by simp only [putAll, Act.put, εm, εn, εo]) (hCont (v141, v144, v147) _ ⟨hHeld, (by (with_reducible repeat (first | apply εd | apply εe | apply εf)); exact HO145.out), (by (with_reducible repeat (first | apply εd | apply εe | apply εf)); exact εt HO148.out (fun _ hk => ⟨hk.2, hk.1⟩)), (by (with_reducible repeat (first | refine εa ?_ _ | refine εc ?_ | refine εb ?_ _)); exact BK139.out), (by repeat (first | (with_reducible first | exact HB.out | apply εj | apply εh | apply εi | refine εg ?_ GE139.out) | exact HB.out))⟩)
    rintro ⟨v141, v144, v147⟩ w14 ⟨hS_, h0_, h1_, h2_, h3_⟩
    have n0_ : Aside0 (Kd.R k37 37 w14 w.heap.size (fun k_ => some k_ ≠ (v147 : Value).ownBlock ∧ k_ ≠ gb139) v144 y143) := ⟨h0_⟩
    have n1_ : Aside0 (Kd.R k37 37 w14 w.heap.size (fun k_ => some k_ ≠ (v144 : Value).ownBlock ∧ k_ ≠ gb139) v147 y146) := ⟨h1_⟩
    have n2_ : Aside0 (w14.heap[gb139]? = some (.cells #[.int .i64 a1_0, .int .i64 a1_1, .int .i64 a1_2, .bool a1_3] 37 (0, 0))) := ⟨h2_⟩
    have n3_ : Aside0 (Below w.heap.size w w14) := ⟨h3_⟩
    clear BK139
    clear HB
    clear h0_ h1_ h2_ h3_
    have HO145 := n0_
    have HO148 := n1_
    have BK139 := n2_
    have HB := n3_
    clear n0_ n1_ n2_ n3_
    have hHeld : w14.cell? ⟨gb139, 0, none⟩ = some (.int .i64 a1_0) ∧ w14.cell? ⟨gb139, 1, none⟩ = some (.int .i64 a1_1) ∧ w14.cell? ⟨gb139, 2, none⟩ = some (.int .i64 a1_2) ∧ w14.cell? ⟨gb139, 3, none⟩ = some (.bool a1_3) := hS_
    obtain ⟨Ao16, co16, eo16⟩ := Kd.R_slice HO148.out
    (first | subst eo16 | (injection eo16 with f1_ f2_ f3_; have f4_ := f1_.symm; have f5_ := f3_.symm; clear f1_ f2_ f3_; subst f4_; subst f5_))
    refine norm_ (a' := ?_) ?_ ?_
    rotate_left
    ·
     simp only [putAll, Act.put, εm, εn, εo]
     rfl
    refine one_ (i := 5) (N := some 12) #[true, true, true, true, true, true, false] rfl rfl (by kernel_rfl) (by decide) (fun K hK => ?_)
    refine Kd.R_append_rows_step k37 (w0 := w) w.heap.size (by rfl) (.tmp 9) (.tmp 11) 25 37 (.agg #[(.int .i64 0), (.int .i64 0), (.int .i64 0), (.bool false)]) 32 rfl Try.underlying25 info37 rfl (by decide) (by omega) v144 y143 y146 _ _ _ (fun k_ => some k_ ≠ (.slice Ao16 y146.length co16 : Value).ownBlock ∧ k_ ≠ gb139) (fun _ => False) rfl rfl ?aO ?aR (fun _ _ h => h) (fun _ h => h.elim) ?aF ?aB ?aS ?aL ?_
    (case aR => repeat (first | exact (Kd.R_reads' HO148.out).2.2 | (with_reducible refine Kd.C_alloc ?_ _) | (with_reducible refine Kd.C_drewN ?_ _) | (with_reducible refine Kd.C_drew ?_)))
    (case aB => exact (by repeat (first | (with_reducible first | exact HB.out | apply εj | apply εh | apply εi | refine εg ?_ GE139.out) | exact HB.out)))
    (case aF => exact (fun k_ hk => ⟨Kd.fresh' (Kd.R_lt (by (with_reducible repeat (first | apply εd | apply εe | apply εf)); exact HO148.out)) k_ hk, Kd.freshB (g := gb139) (o := .cells #[.int .i64 a1_0, .int .i64 a1_1, .int .i64 a1_2, .bool a1_3] 37 (0, 0)) (by (with_reducible repeat (first | refine εa ?_ _ | refine εc ?_ | refine εb ?_ _)); exact BK139.out) k_ hk⟩))
    (case aO => exact (by (with_reducible repeat (first | apply εd | apply εe | apply εf)); exact HO145.out))
    (case aS => exact (below_size (by repeat (first | (with_reducible first | exact HB.out | apply εj | apply εh | apply εi | refine εg ?_ GE139.out) | exact HB.out))))
    (case aL => have := LMc4.out; omega)
    intro v150 w15 ho hb hg hat
    rw [← Ny149.out] at ho
    have n0_ := εp (blk_grown (g := gb139) (o := .cells #[.int .i64 a1_0, .int .i64 a1_1, .int .i64 a1_2, .bool a1_3] 37 (0, 0)) (by (with_reducible repeat (first | refine εa ?_ _ | refine εc ?_ | refine εb ?_ _)); exact BK139.out) hg (Kd.R_away HO145.out (fun _ hk => hk.2)))
    have n1_ := εp (Kd.R_after (ok := (fun k_ => k_ ≠ gb139)) (by (with_reducible repeat (first | apply εd | apply εe | apply εf)); exact εt HO148.out (fun _ hk => ⟨hk.2, hk.1⟩)) hg hat)
    have n2_ := εp (hb)
    have n3_ := εp (ho)
    clear BK139
    clear HO148
    clear HB
    clear HO145
    have BK139 := n0_
    have HO148 := n1_
    have HB := n2_
    have HO151 := n3_
    clear n0_ n1_ n2_ n3_
    clear ho hb hg hat
    refine hK.out _ _ ⟨(εk BK139.out 0).trans rfl, (εk BK139.out 1).trans rfl, (εk BK139.out 2).trans rfl, (εk BK139.out 3).trans rfl⟩ (fun hHeld => ?_)
    clear hK K
    refine norm_ (a' := ?_) ?_ ?_
    rotate_left
    ·
     show Act.put _ (some 12) _ = _
     simp only [Act.put, εm, εn, εo, i64_w, i32_w]
     rfl
    refine pure_ (i := 6) (N := some 6) (v := ?_) (a' := ?_) #[true, true, true, true, true, true, true] rfl rfl (by kernel_rfl) (fun _ _ _ h => h) (Or.inl ⟨by rfl, ?_⟩) ?_ ?_
    rotate_left; · (intro w'; go_simp; with_reducible rfl)
    rotate_left; · (simp only [Act.put, εm, εn, εo, i64_w, i32_w]; rfl)
    refine done_ (by kernel_rfl) ?_
    obtain ⟨Ao17, co17, eo17⟩ := Kd.R_slice HO151.out
    subst eo17
    try go_wp2_with (first | ((with_reducible refine gate_callee (f := 16) rfl ?_); refine goesL_ (some 14) rfl rfl Try.func16 (by kernel_rfl) rfl #[.slice Ao17 y149.length co17] rfl (by (try simp only [List.map_toArray, List.map_cons, List.map_nil]); first | done | rfl | (simp only [List.length_drop, List.length_take]; rfl)) ?_; (with_reducible refine (spec_AreSources.calls k _ _ y149 true _ ?side1 ?side2 A5.out).mono ?_); (case side1 => repeat (first | exact (Kd.R_reads' HO151.out).2.2 | (with_reducible refine Kd.C_alloc ?_ _) | (with_reducible refine Kd.C_drewN ?_ _) | (with_reducible refine Kd.C_drew ?_))); (case side2 => exact (Kd.R_reads' HO151.out).2.1); rintro e w18 ⟨rfl, hb⟩; refine ⟨_, rfl, ?_⟩; have n0_ := εp (Kd.R_below (by (with_reducible repeat (first | apply εd | apply εe | apply εf)); exact HO148.out) hb); have n1_ := εp (Kd.R_below (by (with_reducible repeat (first | apply εd | apply εe | apply εf)); exact HO151.out) hb); have n2_ := εp (blk_below (g := gb139) (o := .cells #[.int .i64 a1_0, .int .i64 a1_1, .int .i64 a1_2, .bool a1_3] 37 (0, 0)) (by (with_reducible repeat (first | refine εa ?_ _ | refine εc ?_ | refine εb ?_ _)); exact BK139.out) hb); have n3_ := εp (below_step (by repeat (first | (with_reducible first | exact HB.out | apply εj | apply εh | apply εi | refine εg ?_ GE139.out) | exact HB.out)) hb); clear HO148; clear HO151; clear BK139; clear HB; have HO148 := n0_; have HO151 := n1_; have BK139 := n2_; have HB := n3_; clear n0_ n1_ n2_ n3_; (try clear hb); (try clear hb2); (try clear hk); (try clear hi)))
    go_ret2
    exact ⟨_, by first | rfl | (simp [errW_none, errW_some] <;> rfl) | (simp [*, errW_none, errW_some] <;> rfl), by (with_reducible repeat (first | apply εd | apply εe | apply εf)); exact εt HO151.out (fun _ hk => trivial), by repeat (first | (with_reducible first | exact HB.out | apply εj | apply εh | apply εi | refine εg ?_ GE139.out) | exact HB.out)⟩
   replace c6 := Bool.eq_false_iff.mpr c6
   subst c6
   have H1 : ((some (([] : List (S37)) : List (S37))).bind fun y153 => (if y153.length + l0.length < 4398046511104 then (some ((y153 ++ l0), false)) else (none))) = some (r1, r2) := by rw [if_neg (show ¬ (false = true) by decide)] at H; exact H
   clear H
   have H := H1
   clear H1
   obtain ⟨y153, hy153⟩ : ∃ y_ : List (S37), y_ = (([] : List (S37))) := ⟨_, rfl⟩
   replace H : (if y153.length + l0.length < 4398046511104 then (some ((y153 ++ l0), false)) else (none)) = some (r1, r2) := by first | (rw [hy153]; with_reducible exact H) | (have H2_ := (Option.bind_some _ _).symm.trans H; rw [hy153]; with_reducible exact H2_) | (have H2_ := (Option.bind_some _ _).symm.trans H; with_reducible exact H2_) | with_reducible exact H | (rw [hy153]; exact H) | exact H
   have Ny153 := εp hy153
   clear hy153
   by_cases c19 : y153.length + l0.length < 4398046511104
   ·
    rw [if_pos c19] at H
    have LMc19 := εp c19
    clear c19
    obtain ⟨y156, hy156⟩ : ∃ y_ : List (S37), y_ = (y153 ++ l0) := ⟨_, rfl⟩
    replace H : (some (y156, false)) = some (r1, r2) := by first | (rw [hy156]; with_reducible exact H) | (have H2_ := (Option.bind_some _ _).symm.trans H; rw [hy156]; with_reducible exact H2_) | (have H2_ := (Option.bind_some _ _).symm.trans H; with_reducible exact H2_) | with_reducible exact H | (rw [hy156]; exact H) | exact H
    have Ny156 := εp hy156
    clear hy156
    simp only [Option.some.injEq, Prod.mk.injEq] at H
    obtain ⟨rfl, rfl⟩ := H
    go_enter Try.func26, Try.ntmps26
    try go_wp2_with (first | ((with_reducible refine gate_dst (N := 3) rfl ?_); refine box_event ?hg (N := 3) ?hd (cs := #[.int .i64 a1_0, .int .i64 a1_1, .int .i64 a1_2, .bool a1_3]) (t := 37) ?hr ?_; (case hd => rfl); (case hg => rfl); (case hr => first | (go_simp; done) | (go_simp; rfl)); intro gb139 hg w20 hbox hb; have n0_ := εp (below_step (by repeat (first | (with_reducible first | exact HB.out | apply εj | apply εh | apply εi) | exact HB.out)) hb); have n1_ := εp (hbox); have n2_ := εp ((by rw [hg]; exact (below_size (by repeat (first | (with_reducible first | exact HB.out | apply εj | apply εh | apply εi) | exact HB.out))) : w.heap.size ≤ gb139)); have n3_ := εp ((by rw [hg]; exact (below_size (by repeat (first | (with_reducible first | exact HB.out | apply εj | apply εh | apply εi) | exact HB.out))) : w.heap.size ≤ gb139)); clear HB; have HB := n0_; have BK139 := n1_; have GW139 := n2_; have GE139 := n3_; clear n0_ n1_ n2_ n3_; clear hb hbox hg))
    have n0_ := εp (εc BK139.out)
    have n1_ := εp (εi HB.out)
    clear BK139
    clear HB
    have BK139 := n0_
    have HB := n1_
    clear n0_ n1_
    refine start_ (n := 7) (S := fun w' => w'.cell? ⟨gb139, 0, none⟩ = some (.int .i64 a1_0) ∧ w'.cell? ⟨gb139, 1, none⟩ = some (.int .i64 a1_1) ∧ w'.cell? ⟨gb139, 2, none⟩ = some (.int .i64 a1_2) ∧ w'.cell? ⟨gb139, 3, none⟩ = some (.bool a1_3)) (ds := []) #[false, false, false, false, false, false, false] (by kernel_rfl) rfl rfl ⟨(εk BK139.out 0).trans rfl, (εk BK139.out 1).trans rfl, (εk BK139.out 2).trans rfl, (εk BK139.out 3).trans rfl⟩ (fun hHeld => ?_)
    generalize w20.drew = w21 at BK139 HB hHeld ⊢
    refine pure_ (i := 1) (N := some 8) (v := ?_) (a' := ?_) #[false, true, false, false, false, false, false] rfl rfl (by kernel_rfl) (fun _ _ _ h => h) (Or.inl ⟨by rfl, ?_⟩) ?_ ?_
    rotate_left; · (intro w'; go_simp; with_reducible rfl)
    rotate_left; · (simp only [Act.put, εm, εn, εo, i64_w, i32_w]; rfl)
    refine take_ (i := 3) (N := some 10) (v := ?_) (a' := ?_) #[false, true, false, true, false, false, false] rfl rfl (by kernel_rfl) (fun _ _ _ h => h) (Or.inl ⟨by rfl, ?_⟩) hHeld ?_ ?_
    rotate_left
    ·
     rintro w' ⟨s0, s1, s2, s3⟩
     go_simp
     with_reducible rfl
    rotate_left
    ·
     simp only [Act.put, εm, εn, εo, i64_w, i32_w]
     rfl
    refine join_ (σ := Value × Value × Value) 2 #[true, true, true, true, true, false, false] (fun s_ => [(7, s_.1), (9, s_.2.1), (11, s_.2.2)]) (fun s_ w' => (w'.cell? ⟨gb139, 0, none⟩ = some (.int .i64 a1_0) ∧ w'.cell? ⟨gb139, 1, none⟩ = some (.int .i64 a1_1) ∧ w'.cell? ⟨gb139, 2, none⟩ = some (.int .i64 a1_2) ∧ w'.cell? ⟨gb139, 3, none⟩ = some (.bool a1_3)) ∧ (Kd.R k37 37 w' w.heap.size (fun k_ => some k_ ≠ (s_.2.2 : Value).ownBlock ∧ k_ ≠ gb139) s_.2.1 y143) ∧ (Kd.R k37 37 w' w.heap.size (fun k_ => some k_ ≠ (s_.2.1 : Value).ownBlock ∧ k_ ≠ gb139) s_.2.2 y146) ∧ (w'.heap[gb139]? = some (.cells #[.int .i64 a1_0, .int .i64 a1_1, .int .i64 a1_2, .bool a1_3] 37 (0, 0))) ∧ (Below w.heap.size w w')) ?_ ?_
    rotate_left
    ·
     intro hCont
     refine two_ (i := 0) (j := 4) (Ni := some 7) (Nj := some 11) #[true, true, false, true, false, false, false] #[false, true, false, true, true, false, false] rfl rfl rfl rfl (by kernel_rfl) (by decide) (by decide) (fun K hK => ?_) (fun K hK => ?_)
     ·
      skip
      refine Kd.R_lit_step k37 _ 37 ?hg (N := 7) ?hd (xs := ([] : List (S37))) (inner := []) (ok := fun _ => True) (okp := fun _ => True) ?hr ?hp (fun _ hk => hk) trivial (Below.refl _ _) (Nat.le_refl _) (by simp) ?_; (case hd => rfl); (case hg => rfl); (case hr => first | (go_simp; done) | (go_simp; rfl)); (case hp => exact (Reps.none _ _))
      intro v141 w22 ho23 hb hg_ hnew_
      clear hg_ hnew_
      (first | rw [← Ny140.out] at ho23 | (simp only [Int.reduceToNat] at ho23; rw [← Ny140.out] at ho23))
      have n0_ := εp (Kd.R_lower (Kd.R_newB ho23 (g := gb139) (o := .cells #[.int .i64 a1_0, .int .i64 a1_1, .int .i64 a1_2, .bool a1_3] 37 (0, 0)) (by (with_reducible repeat (first | refine εa ?_ _ | refine εc ?_ | refine εb ?_ _)); exact BK139.out)) (below_size (by repeat (first | (with_reducible first | exact HB.out | apply εj | apply εh | apply εi | refine εg ?_ GE139.out) | exact HB.out))))
      have n1_ := εp (blk_below (g := gb139) (o := .cells #[.int .i64 a1_0, .int .i64 a1_1, .int .i64 a1_2, .bool a1_3] 37 (0, 0)) (by (with_reducible repeat (first | refine εa ?_ _ | refine εc ?_ | refine εb ?_ _)); exact BK139.out) hb)
      have n2_ := εp (below_step (by repeat (first | (with_reducible first | exact HB.out | apply εj | apply εh | apply εi | refine εg ?_ GE139.out) | exact HB.out)) hb)
      clear BK139
      clear HB
      have HO142 := n0_
      have BK139 := n1_
      have HB := n2_
      clear n0_ n1_ n2_
      clear hb ho23
      refine hK.out _ _ ⟨(εk BK139.out 0).trans rfl, (εk BK139.out 1).trans rfl, (εk BK139.out 2).trans rfl, (εk BK139.out 3).trans rfl⟩ (fun hHeld => ?_)
      clear hK K
      refine norm_ (a' := ?_) ?_ ?_
      rotate_left
      ·
       show Act.put _ (some 7) _ = _
       simp only [Act.put, εm, εn, εo, i64_w, i32_w]
       rfl
      refine two_ (i := 2) (j := 4) (Ni := some 9) (Nj := some 11) #[true, true, true, true, false, false, false] #[true, true, false, true, true, false, false] rfl rfl rfl rfl (by kernel_rfl) (by decide) (by decide) (fun K hK => ?_) (fun K hK => ?_)
      ·
       skip
       refine Kd.R_append_rows_step k37 (w0 := w) w.heap.size (by rfl) (.tmp 7) (.tmp 8) 25 37 (.agg #[(.int .i64 0), (.int .i64 0), (.int .i64 0), (.bool false)]) 32 rfl Try.underlying25 info37 rfl (by decide) (by omega) v141 y140 l0 _ _ _ (fun k_ => k_ ≠ gb139) (fun _ => False) rfl rfl ?aO ?aR (fun _ _ h => h) (fun _ h => h.elim) ?aF ?aB ?aS ?aL ?_
       (case aR => repeat (first | exact (Kd.C_below HR0.out HB.out) | (with_reducible refine Kd.C_alloc ?_ _) | (with_reducible refine Kd.C_drewN ?_ _) | (with_reducible refine Kd.C_drew ?_)))
       (case aB => exact (by repeat (first | (with_reducible first | exact HB.out | apply εj | apply εh | apply εi | refine εg ?_ GE139.out) | exact HB.out)))
       (case aF => exact (fun k_ hk => Kd.freshB (g := gb139) (o := .cells #[.int .i64 a1_0, .int .i64 a1_1, .int .i64 a1_2, .bool a1_3] 37 (0, 0)) (by (with_reducible repeat (first | refine εa ?_ _ | refine εc ?_ | refine εb ?_ _)); exact BK139.out) k_ hk))
       (case aO => exact (by (with_reducible repeat (first | apply εd | apply εe | apply εf)); exact εt HO142.out (fun _ hk => hk.2)))
       (case aS => exact (below_size (by repeat (first | (with_reducible first | exact HB.out | apply εj | apply εh | apply εi | refine εg ?_ GE139.out) | exact HB.out))))
       (case aL => have := LMc3.out; omega)
       intro v144 w24 ho hb hg hat
       rw [← Ny143.out] at ho
       have n0_ := εp (blk_grown (g := gb139) (o := .cells #[.int .i64 a1_0, .int .i64 a1_1, .int .i64 a1_2, .bool a1_3] 37 (0, 0)) (by (with_reducible repeat (first | refine εa ?_ _ | refine εc ?_ | refine εb ?_ _)); exact BK139.out) hg (Kd.R_away HO142.out (fun _ hk => hk.2)))
       have n1_ := εp (hb)
       have n2_ := εp (ho)
       clear BK139
       clear HB
       clear HO142
       have BK139 := n0_
       have HB := n1_
       have HO145 := n2_
       clear n0_ n1_ n2_
       clear ho hb hg hat
       refine hK.out _ _ ⟨(εk BK139.out 0).trans rfl, (εk BK139.out 1).trans rfl, (εk BK139.out 2).trans rfl, (εk BK139.out 3).trans rfl⟩ (fun hHeld => ?_)
       clear hK K
       refine norm_ (a' := ?_) ?_ ?_
       rotate_left
       ·
        show Act.put _ (some 9) _ = _
        simp only [Act.put, εm, εn, εo, i64_w, i32_w]
        rfl
       refine one_ (i := 4) (N := some 11) #[true, true, true, true, true, false, false] rfl rfl (by kernel_rfl) (by decide) (fun K hK => ?_)
       refine Kd.R_lit_step k37 _ 37 ?hg (N := 11) ?hd (xs := ([(⟨a1_0, a1_1, a1_2, a1_3⟩ : S37)] : List (S37))) (inner := [.int .i64 a1_0, .int .i64 a1_1, .int .i64 a1_2, .bool a1_3]) (ok := fun _ => True) (okp := fun _ => True) ?hr ?hp (fun _ hk => hk) trivial (Below.refl _ _) (Nat.le_refl _) (by simp) ?_; (case hd => rfl); (case hg => rfl); (case hr => first | (go_simp; done) | (go_simp; rfl)); (case hp => exact (Reps.c4 (show Kd.M k37 _ _ _ (⟨a1_0, a1_1, a1_2, a1_3⟩ : S37) [.int .i64 a1_0, .int .i64 a1_1, .int .i64 a1_2, .bool a1_3] from (k37_mkM _ _ _ (⟨a1_0, a1_1, a1_2, a1_3⟩ : S37) )) (Reps.none _ _)))
       intro v147 w25 ho26 hb hg_ hnew_
       clear hg_ hnew_
       (first | rw [← Ny146.out] at ho26 | (simp only [Int.reduceToNat] at ho26; rw [← Ny146.out] at ho26))
       have n0_ := εp (Kd.R_elder' (by (with_reducible repeat (first | apply εd | apply εe | apply εf)); exact HO145.out) (Kd.R_base ho26) hb)
       have n1_ := εp (Kd.R_lower (Kd.R_newB (Kd.R_new' ho26 (Kd.R_lt (by (with_reducible repeat (first | apply εd | apply εe | apply εf)); exact HO145.out))) (g := gb139) (o := .cells #[.int .i64 a1_0, .int .i64 a1_1, .int .i64 a1_2, .bool a1_3] 37 (0, 0)) (by (with_reducible repeat (first | refine εa ?_ _ | refine εc ?_ | refine εb ?_ _)); exact BK139.out)) (below_size (by repeat (first | (with_reducible first | exact HB.out | apply εj | apply εh | apply εi | refine εg ?_ GE139.out) | exact HB.out))))
       have n2_ := εp (blk_below (g := gb139) (o := .cells #[.int .i64 a1_0, .int .i64 a1_1, .int .i64 a1_2, .bool a1_3] 37 (0, 0)) (by (with_reducible repeat (first | refine εa ?_ _ | refine εc ?_ | refine εb ?_ _)); exact BK139.out) hb)
       have n3_ := εp (below_step (by repeat (first | (with_reducible first | exact HB.out | apply εj | apply εh | apply εi | refine εg ?_ GE139.out) | exact HB.out)) hb)
       clear HO145
       clear BK139
       clear HB
       have HO145 := n0_
       have HO148 := n1_
       have BK139 := n2_
       have HB := n3_
       clear n0_ n1_ n2_ n3_
       clear hb ho26
       refine hK.out _ _ ⟨(εk BK139.out 0).trans rfl, (εk BK139.out 1).trans rfl, (εk BK139.out 2).trans rfl, (εk BK139.out 3).trans rfl⟩ (fun hHeld => ?_)
       clear hK K
       refine norm_ (a' := ?_) ?_ ?_
       rotate_left
       ·
        show Act.put _ (some 11) _ = _
        simp only [Act.put, εm, εn, εo, i64_w, i32_w]
        rfl
       exact norm_ (by simp only [putAll, Act.put, εm, εn, εo]) (hCont (v141, v144, v147) _ ⟨hHeld, (by (with_reducible repeat (first | apply εd | apply εe | apply εf)); exact εt HO145.out (fun _ hk => ⟨hk.2, hk.1⟩)), (by (with_reducible repeat (first | apply εd | apply εe | apply εf)); exact εt HO148.out (fun _ hk => ⟨hk.1.2, hk.2⟩)), (by (with_reducible repeat (first | refine εa ?_ _ | refine εc ?_ | refine εb ?_ _)); exact BK139.out), (by repeat (first | (with_reducible first | exact HB.out | apply εj | apply εh | apply εi | refine εg ?_ GE139.out) | exact HB.out))⟩)
      skip
      refine Kd.R_lit_step k37 _ 37 ?hg (N := 11) ?hd (xs := ([(⟨a1_0, a1_1, a1_2, a1_3⟩ : S37)] : List (S37))) (inner := [.int .i64 a1_0, .int .i64 a1_1, .int .i64 a1_2, .bool a1_3]) (ok := fun _ => True) (okp := fun _ => True) ?hr ?hp (fun _ hk => hk) trivial (Below.refl _ _) (Nat.le_refl _) (by simp) ?_; (case hd => rfl); (case hg => rfl); (case hr => first | (go_simp; done) | (go_simp; rfl)); (case hp => exact (Reps.c4 (show Kd.M k37 _ _ _ (⟨a1_0, a1_1, a1_2, a1_3⟩ : S37) [.int .i64 a1_0, .int .i64 a1_1, .int .i64 a1_2, .bool a1_3] from (k37_mkM _ _ _ (⟨a1_0, a1_1, a1_2, a1_3⟩ : S37) )) (Reps.none _ _)))
      intro v147 w24 ho25 hb hg_ hnew_
      clear hg_ hnew_
      (first | rw [← Ny146.out] at ho25 | (simp only [Int.reduceToNat] at ho25; rw [← Ny146.out] at ho25))
      have n0_ := εp (Kd.R_elder' (by (with_reducible repeat (first | apply εd | apply εe | apply εf)); exact HO142.out) (Kd.R_base ho25) hb)
      have n1_ := εp (Kd.R_lower (Kd.R_newB (Kd.R_new' ho25 (Kd.R_lt (by (with_reducible repeat (first | apply εd | apply εe | apply εf)); exact HO142.out))) (g := gb139) (o := .cells #[.int .i64 a1_0, .int .i64 a1_1, .int .i64 a1_2, .bool a1_3] 37 (0, 0)) (by (with_reducible repeat (first | refine εa ?_ _ | refine εc ?_ | refine εb ?_ _)); exact BK139.out)) (below_size (by repeat (first | (with_reducible first | exact HB.out | apply εj | apply εh | apply εi | refine εg ?_ GE139.out) | exact HB.out))))
      have n2_ := εp (blk_below (g := gb139) (o := .cells #[.int .i64 a1_0, .int .i64 a1_1, .int .i64 a1_2, .bool a1_3] 37 (0, 0)) (by (with_reducible repeat (first | refine εa ?_ _ | refine εc ?_ | refine εb ?_ _)); exact BK139.out) hb)
      have n3_ := εp (below_step (by repeat (first | (with_reducible first | exact HB.out | apply εj | apply εh | apply εi | refine εg ?_ GE139.out) | exact HB.out)) hb)
      clear HO142
      clear BK139
      clear HB
      have HO142 := n0_
      have HO148 := n1_
      have BK139 := n2_
      have HB := n3_
      clear n0_ n1_ n2_ n3_
      clear hb ho25
      refine hK.out _ _ ⟨(εk BK139.out 0).trans rfl, (εk BK139.out 1).trans rfl, (εk BK139.out 2).trans rfl, (εk BK139.out 3).trans rfl⟩ (fun hHeld => ?_)
      clear hK K
      refine norm_ (a' := ?_) ?_ ?_
      rotate_left
      ·
       show Act.put _ (some 11) _ = _
       simp only [Act.put, εm, εn, εo, i64_w, i32_w]
       rfl
      refine one_ (i := 2) (N := some 9) #[true, true, true, true, true, false, false] rfl rfl (by kernel_rfl) (by decide) (fun K hK => ?_)
      refine Kd.R_append_rows_step k37 (w0 := w) w.heap.size (by rfl) (.tmp 7) (.tmp 8) 25 37 (.agg #[(.int .i64 0), (.int .i64 0), (.int .i64 0), (.bool false)]) 32 rfl Try.underlying25 info37 rfl (by decide) (by omega) v141 y140 l0 _ _ _ (fun k_ => some k_ ≠ (v147 : Value).ownBlock ∧ k_ ≠ gb139) (fun _ => False) rfl rfl ?aO ?aR (fun _ _ h => h) (fun _ h => h.elim) ?aF ?aB ?aS ?aL ?_
      (case aR => repeat (first | exact (Kd.C_below HR0.out HB.out) | (with_reducible refine Kd.C_alloc ?_ _) | (with_reducible refine Kd.C_drewN ?_ _) | (with_reducible refine Kd.C_drew ?_)))
      (case aB => exact (by repeat (first | (with_reducible first | exact HB.out | apply εj | apply εh | apply εi | refine εg ?_ GE139.out) | exact HB.out)))
      (case aF => exact (fun k_ hk => ⟨Kd.fresh' (Kd.R_lt (by (with_reducible repeat (first | apply εd | apply εe | apply εf)); exact HO148.out)) k_ hk, Kd.freshB (g := gb139) (o := .cells #[.int .i64 a1_0, .int .i64 a1_1, .int .i64 a1_2, .bool a1_3] 37 (0, 0)) (by (with_reducible repeat (first | refine εa ?_ _ | refine εc ?_ | refine εb ?_ _)); exact BK139.out) k_ hk⟩))
      (case aO => exact (by (with_reducible repeat (first | apply εd | apply εe | apply εf)); exact εt HO142.out (fun _ hk => ⟨hk.2, hk.1.2⟩)))
      (case aS => exact (below_size (by repeat (first | (with_reducible first | exact HB.out | apply εj | apply εh | apply εi | refine εg ?_ GE139.out) | exact HB.out))))
      (case aL => have := LMc3.out; omega)
      intro v144 w26 ho hb hg hat
      rw [← Ny143.out] at ho
      have n0_ := εp (blk_grown (g := gb139) (o := .cells #[.int .i64 a1_0, .int .i64 a1_1, .int .i64 a1_2, .bool a1_3] 37 (0, 0)) (by (with_reducible repeat (first | refine εa ?_ _ | refine εc ?_ | refine εb ?_ _)); exact BK139.out) hg (Kd.R_away HO142.out (fun _ hk => hk.1.2)))
      have n1_ := εp (Kd.R_after (ok := (fun k_ => k_ ≠ gb139)) (by (with_reducible repeat (first | apply εd | apply εe | apply εf)); exact εt HO148.out (fun _ hk => ⟨hk.2, hk.1.2⟩)) hg hat)
      have n2_ := εp (hb)
      have n3_ := εp (ho)
      clear BK139
      clear HO148
      clear HB
      clear HO142
      have BK139 := n0_
      have HO148 := n1_
      have HB := n2_
      have HO145 := n3_
      clear n0_ n1_ n2_ n3_
      clear ho hb hg hat
      refine hK.out _ _ ⟨(εk BK139.out 0).trans rfl, (εk BK139.out 1).trans rfl, (εk BK139.out 2).trans rfl, (εk BK139.out 3).trans rfl⟩ (fun hHeld => ?_)
      clear hK K
      refine norm_ (a' := ?_) ?_ ?_
      rotate_left
      ·
       show Act.put _ (some 9) _ = _
       simp only [Act.put, εm, εn, εo, i64_w, i32_w]
       rfl
      exact norm_ (by simp only [putAll, Act.put, εm, εn, εo]) (hCont (v141, v144, v147) _ ⟨hHeld, (by (with_reducible repeat (first | apply εd | apply εe | apply εf)); exact HO145.out), (by (with_reducible repeat (first | apply εd | apply εe | apply εf)); exact εt HO148.out (fun _ hk => ⟨hk.2, hk.1⟩)), (by (with_reducible repeat (first | refine εa ?_ _ | refine εc ?_ | refine εb ?_ _)); exact BK139.out), (by repeat (first | (with_reducible first | exact HB.out | apply εj | apply εh | apply εi | refine εg ?_ GE139.out) | exact HB.out))⟩)
     skip
     refine Kd.R_lit_step k37 _ 37 ?hg (N := 11) ?hd (xs := ([(⟨a1_0, a1_1, a1_2, a1_3⟩ : S37)] : List (S37))) (inner := [.int .i64 a1_0, .int .i64 a1_1, .int .i64 a1_2, .bool a1_3]) (ok := fun _ => True) (okp := fun _ => True) ?hr ?hp (fun _ hk => hk) trivial (Below.refl _ _) (Nat.le_refl _) (by simp) ?_; (case hd => rfl); (case hg => rfl); (case hr => first | (go_simp; done) | (go_simp; rfl)); (case hp => exact (Reps.c4 (show Kd.M k37 _ _ _ (⟨a1_0, a1_1, a1_2, a1_3⟩ : S37) [.int .i64 a1_0, .int .i64 a1_1, .int .i64 a1_2, .bool a1_3] from (k37_mkM _ _ _ (⟨a1_0, a1_1, a1_2, a1_3⟩ : S37) )) (Reps.none _ _)))
     intro v147 w22 ho23 hb hg_ hnew_
     clear hg_ hnew_
     (first | rw [← Ny146.out] at ho23 | (simp only [Int.reduceToNat] at ho23; rw [← Ny146.out] at ho23))
     have n0_ := εp (Kd.R_lower (Kd.R_newB ho23 (g := gb139) (o := .cells #[.int .i64 a1_0, .int .i64 a1_1, .int .i64 a1_2, .bool a1_3] 37 (0, 0)) (by (with_reducible repeat (first | refine εa ?_ _ | refine εc ?_ | refine εb ?_ _)); exact BK139.out)) (below_size (by repeat (first | (with_reducible first | exact HB.out | apply εj | apply εh | apply εi | refine εg ?_ GE139.out) | exact HB.out))))
     have n1_ := εp (blk_below (g := gb139) (o := .cells #[.int .i64 a1_0, .int .i64 a1_1, .int .i64 a1_2, .bool a1_3] 37 (0, 0)) (by (with_reducible repeat (first | refine εa ?_ _ | refine εc ?_ | refine εb ?_ _)); exact BK139.out) hb)
     have n2_ := εp (below_step (by repeat (first | (with_reducible first | exact HB.out | apply εj | apply εh | apply εi | refine εg ?_ GE139.out) | exact HB.out)) hb)
     clear BK139
     clear HB
     have HO148 := n0_
     have BK139 := n1_
     have HB := n2_
     clear n0_ n1_ n2_
     clear hb ho23
     refine hK.out _ _ ⟨(εk BK139.out 0).trans rfl, (εk BK139.out 1).trans rfl, (εk BK139.out 2).trans rfl, (εk BK139.out 3).trans rfl⟩ (fun hHeld => ?_)
     clear hK K
     refine norm_ (a' := ?_) ?_ ?_
     rotate_left
     ·
      show Act.put _ (some 11) _ = _
      simp only [Act.put, εm, εn, εo, i64_w, i32_w]
      rfl
     refine one_ (i := 0) (N := some 7) #[true, true, false, true, true, false, false] rfl rfl (by kernel_rfl) (by decide) (fun K hK => ?_)
     refine Kd.R_lit_step k37 _ 37 ?hg (N := 7) ?hd (xs := ([] : List (S37))) (inner := []) (ok := fun _ => True) (okp := fun _ => True) ?hr ?hp (fun _ hk => hk) trivial (Below.refl _ _) (Nat.le_refl _) (by simp) ?_; (case hd => rfl); (case hg => rfl); (case hr => first | (go_simp; done) | (go_simp; rfl)); (case hp => exact (Reps.none _ _))
     intro v141 w24 ho25 hb hg_ hnew_
     clear hg_ hnew_
     (first | rw [← Ny140.out] at ho25 | (simp only [Int.reduceToNat] at ho25; rw [← Ny140.out] at ho25))
     have n0_ := εp (Kd.R_elder' (by (with_reducible repeat (first | apply εd | apply εe | apply εf)); exact HO148.out) (Kd.R_base ho25) hb)
     have n1_ := εp (Kd.R_lower (Kd.R_newB (Kd.R_new' ho25 (Kd.R_lt (by (with_reducible repeat (first | apply εd | apply εe | apply εf)); exact HO148.out))) (g := gb139) (o := .cells #[.int .i64 a1_0, .int .i64 a1_1, .int .i64 a1_2, .bool a1_3] 37 (0, 0)) (by (with_reducible repeat (first | refine εa ?_ _ | refine εc ?_ | refine εb ?_ _)); exact BK139.out)) (below_size (by repeat (first | (with_reducible first | exact HB.out | apply εj | apply εh | apply εi | refine εg ?_ GE139.out) | exact HB.out))))
     have n2_ := εp (blk_below (g := gb139) (o := .cells #[.int .i64 a1_0, .int .i64 a1_1, .int .i64 a1_2, .bool a1_3] 37 (0, 0)) (by (with_reducible repeat (first | refine εa ?_ _ | refine εc ?_ | refine εb ?_ _)); exact BK139.out) hb)
     have n3_ := εp (below_step (by repeat (first | (with_reducible first | exact HB.out | apply εj | apply εh | apply εi | refine εg ?_ GE139.out) | exact HB.out)) hb)
     clear HO148
     clear BK139
     clear HB
     have HO148 := n0_
     have HO142 := n1_
     have BK139 := n2_
     have HB := n3_
     clear n0_ n1_ n2_ n3_
     clear hb ho25
     refine hK.out _ _ ⟨(εk BK139.out 0).trans rfl, (εk BK139.out 1).trans rfl, (εk BK139.out 2).trans rfl, (εk BK139.out 3).trans rfl⟩ (fun hHeld => ?_)
     clear hK K
     refine norm_ (a' := ?_) ?_ ?_
     rotate_left
     ·
      show Act.put _ (some 7) _ = _
      simp only [Act.put, εm, εn, εo, i64_w, i32_w]
      rfl
     refine one_ (i := 2) (N := some 9) #[true, true, true, true, true, false, false] rfl rfl (by kernel_rfl) (by decide) (fun K hK => ?_)
     refine Kd.R_append_rows_step k37 (w0 := w) w.heap.size (by rfl) (.tmp 7) (.tmp 8) 25 37 (.agg #[(.int .i64 0), (.int .i64 0), (.int .i64 0), (.bool false)]) 32 rfl Try.underlying25 info37 rfl (by decide) (by omega) v141 y140 l0 _ _ _ (fun k_ => some k_ ≠ (v147 : Value).ownBlock ∧ k_ ≠ gb139) (fun _ => False) rfl rfl ?aO ?aR (fun _ _ h => h) (fun _ h => h.elim) ?aF ?aB ?aS ?aL ?_
     (case aR => repeat (first | exact (Kd.C_below HR0.out HB.out) | (with_reducible refine Kd.C_alloc ?_ _) | (with_reducible refine Kd.C_drewN ?_ _) | (with_reducible refine Kd.C_drew ?_)))
     (case aB => exact (by repeat (first | (with_reducible first | exact HB.out | apply εj | apply εh | apply εi | refine εg ?_ GE139.out) | exact HB.out)))
     (case aF => exact (fun k_ hk => ⟨Kd.fresh' (Kd.R_lt (by (with_reducible repeat (first | apply εd | apply εe | apply εf)); exact HO148.out)) k_ hk, Kd.freshB (g := gb139) (o := .cells #[.int .i64 a1_0, .int .i64 a1_1, .int .i64 a1_2, .bool a1_3] 37 (0, 0)) (by (with_reducible repeat (first | refine εa ?_ _ | refine εc ?_ | refine εb ?_ _)); exact BK139.out) k_ hk⟩))
     (case aO => exact (by (with_reducible repeat (first | apply εd | apply εe | apply εf)); exact εt HO142.out (fun _ hk => ⟨hk.1.2, hk.2⟩)))
     (case aS => exact (below_size (by repeat (first | (with_reducible first | exact HB.out | apply εj | apply εh | apply εi | refine εg ?_ GE139.out) | exact HB.out))))
     (case aL => have := LMc3.out; omega)
     intro v144 w26 ho hb hg hat
     rw [← Ny143.out] at ho
     have n0_ := εp (blk_grown (g := gb139) (o := .cells #[.int .i64 a1_0, .int .i64 a1_1, .int .i64 a1_2, .bool a1_3] 37 (0, 0)) (by (with_reducible repeat (first | refine εa ?_ _ | refine εc ?_ | refine εb ?_ _)); exact BK139.out) hg (Kd.R_away HO142.out (fun _ hk => hk.2)))
     have n1_ := εp (Kd.R_after (ok := (fun k_ => k_ ≠ gb139)) (by (with_reducible repeat (first | apply εd | apply εe | apply εf)); exact εt HO148.out (fun _ hk => ⟨hk.1.2, hk.2⟩)) hg hat)
     have n2_ := εp (hb)
     have n3_ := εp (ho)
     clear BK139
     clear HO148
     clear HB
     clear HO142
     have BK139 := n0_
     have HO148 := n1_
     have HB := n2_
     have HO145 := n3_
     clear n0_ n1_ n2_ n3_
     clear ho hb hg hat
     refine hK.out _ _ ⟨(εk BK139.out 0).trans rfl, (εk BK139.out 1).trans rfl, (εk BK139.out 2).trans rfl, (εk BK139.out 3).trans rfl⟩ (fun hHeld => ?_)
     clear hK K
     refine norm_ (a' := ?_) ?_ ?_
     rotate_left
     ·
      show Act.put _ (some 9) _ = _
      simp only [Act.put, εm, εn, εo, i64_w, i32_w]
      rfl
     exact norm_ (by simp only [putAll, Act.put, εm, εn, εo]) (hCont (v141, v144, v147) _ ⟨hHeld, (by (with_reducible repeat (first | apply εd | apply εe | apply εf)); exact HO145.out), (by (with_reducible repeat (first | apply εd | apply εe | apply εf)); exact εt HO148.out (fun _ hk => ⟨hk.2, hk.1⟩)), (by (with_reducible repeat (first | refine εa ?_ _ | refine εc ?_ | refine εb ?_ _)); exact BK139.out), (by repeat (first | (with_reducible first | exact HB.out | apply εj | apply εh | apply εi | refine εg ?_ GE139.out) | exact HB.out))⟩)
    rintro ⟨v141, v144, v147⟩ w27 ⟨hS_, h0_, h1_, h2_, h3_⟩
    have n0_ : Aside0 (Kd.R k37 37 w27 w.heap.size (fun k_ => some k_ ≠ (v147 : Value).ownBlock ∧ k_ ≠ gb139) v144 y143) := ⟨h0_⟩
    have n1_ : Aside0 (Kd.R k37 37 w27 w.heap.size (fun k_ => some k_ ≠ (v144 : Value).ownBlock ∧ k_ ≠ gb139) v147 y146) := ⟨h1_⟩
    have n2_ : Aside0 (w27.heap[gb139]? = some (.cells #[.int .i64 a1_0, .int .i64 a1_1, .int .i64 a1_2, .bool a1_3] 37 (0, 0))) := ⟨h2_⟩
    have n3_ : Aside0 (Below w.heap.size w w27) := ⟨h3_⟩
    clear BK139
    clear HB
    clear h0_ h1_ h2_ h3_
    have HO145 := n0_
    have HO148 := n1_
    have BK139 := n2_
    have HB := n3_
    clear n0_ n1_ n2_ n3_
    have hHeld : w27.cell? ⟨gb139, 0, none⟩ = some (.int .i64 a1_0) ∧ w27.cell? ⟨gb139, 1, none⟩ = some (.int .i64 a1_1) ∧ w27.cell? ⟨gb139, 2, none⟩ = some (.int .i64 a1_2) ∧ w27.cell? ⟨gb139, 3, none⟩ = some (.bool a1_3) := hS_
    obtain ⟨Ao29, co29, eo29⟩ := Kd.R_slice HO148.out
    (first | subst eo29 | (injection eo29 with f1_ f2_ f3_; have f4_ := f1_.symm; have f5_ := f3_.symm; clear f1_ f2_ f3_; subst f4_; subst f5_))
    refine norm_ (a' := ?_) ?_ ?_
    rotate_left
    ·
     simp only [putAll, Act.put, εm, εn, εo]
     rfl
    refine one_ (i := 5) (N := some 12) #[true, true, true, true, true, true, false] rfl rfl (by kernel_rfl) (by decide) (fun K hK => ?_)
    refine Kd.R_append_rows_step k37 (w0 := w) w.heap.size (by rfl) (.tmp 9) (.tmp 11) 25 37 (.agg #[(.int .i64 0), (.int .i64 0), (.int .i64 0), (.bool false)]) 32 rfl Try.underlying25 info37 rfl (by decide) (by omega) v144 y143 y146 _ _ _ (fun k_ => some k_ ≠ (.slice Ao29 y146.length co29 : Value).ownBlock ∧ k_ ≠ gb139) (fun _ => False) rfl rfl ?aO ?aR (fun _ _ h => h) (fun _ h => h.elim) ?aF ?aB ?aS ?aL ?_
    (case aR => repeat (first | exact (Kd.R_reads' HO148.out).2.2 | (with_reducible refine Kd.C_alloc ?_ _) | (with_reducible refine Kd.C_drewN ?_ _) | (with_reducible refine Kd.C_drew ?_)))
    (case aB => exact (by repeat (first | (with_reducible first | exact HB.out | apply εj | apply εh | apply εi | refine εg ?_ GE139.out) | exact HB.out)))
    (case aF => exact (fun k_ hk => ⟨Kd.fresh' (Kd.R_lt (by (with_reducible repeat (first | apply εd | apply εe | apply εf)); exact HO148.out)) k_ hk, Kd.freshB (g := gb139) (o := .cells #[.int .i64 a1_0, .int .i64 a1_1, .int .i64 a1_2, .bool a1_3] 37 (0, 0)) (by (with_reducible repeat (first | refine εa ?_ _ | refine εc ?_ | refine εb ?_ _)); exact BK139.out) k_ hk⟩))
    (case aO => exact (by (with_reducible repeat (first | apply εd | apply εe | apply εf)); exact HO145.out))
    (case aS => exact (below_size (by repeat (first | (with_reducible first | exact HB.out | apply εj | apply εh | apply εi | refine εg ?_ GE139.out) | exact HB.out))))
    (case aL => have := LMc4.out; omega)
    intro v150 w28 ho hb hg hat
    rw [← Ny149.out] at ho
    have n0_ := εp (blk_grown (g := gb139) (o := .cells #[.int .i64 a1_0, .int .i64 a1_1, .int .i64 a1_2, .bool a1_3] 37 (0, 0)) (by (with_reducible repeat (first | refine εa ?_ _ | refine εc ?_ | refine εb ?_ _)); exact BK139.out) hg (Kd.R_away HO145.out (fun _ hk => hk.2)))
    have n1_ := εp (Kd.R_after (ok := (fun k_ => k_ ≠ gb139)) (by (with_reducible repeat (first | apply εd | apply εe | apply εf)); exact εt HO148.out (fun _ hk => ⟨hk.2, hk.1⟩)) hg hat)
    have n2_ := εp (hb)
    have n3_ := εp (ho)
    clear BK139
    clear HO148
    clear HB
    clear HO145
    have BK139 := n0_
    have HO148 := n1_
    have HB := n2_
    have HO151 := n3_
    clear n0_ n1_ n2_ n3_
    clear ho hb hg hat
    refine hK.out _ _ ⟨(εk BK139.out 0).trans rfl, (εk BK139.out 1).trans rfl, (εk BK139.out 2).trans rfl, (εk BK139.out 3).trans rfl⟩ (fun hHeld => ?_)
    clear hK K
    refine norm_ (a' := ?_) ?_ ?_
    rotate_left
    ·
     show Act.put _ (some 12) _ = _
     simp only [Act.put, εm, εn, εo, i64_w, i32_w]
     rfl
    refine pure_ (i := 6) (N := some 6) (v := ?_) (a' := ?_) #[true, true, true, true, true, true, true] rfl rfl (by kernel_rfl) (fun _ _ _ h => h) (Or.inl ⟨by rfl, ?_⟩) ?_ ?_
    rotate_left; · (intro w'; go_simp; with_reducible rfl)
    rotate_left; · (simp only [Act.put, εm, εn, εo, i64_w, i32_w]; rfl)
    refine done_ (by kernel_rfl) ?_
    obtain ⟨Ao30, co30, eo30⟩ := Kd.R_slice HO151.out
    subst eo30
    try go_wp2_with (first | ((with_reducible refine gate_callee (f := 16) rfl ?_); refine goesL_ (some 14) rfl rfl Try.func16 (by kernel_rfl) rfl #[.slice Ao30 y149.length co30] rfl (by (try simp only [List.map_toArray, List.map_cons, List.map_nil]); first | done | rfl | (simp only [List.length_drop, List.length_take]; rfl)) ?_; (with_reducible refine (spec_AreSources.calls k _ _ y149 false _ ?side1 ?side2 A5.out).mono ?_); (case side1 => repeat (first | exact (Kd.R_reads' HO151.out).2.2 | (with_reducible refine Kd.C_alloc ?_ _) | (with_reducible refine Kd.C_drewN ?_ _) | (with_reducible refine Kd.C_drew ?_))); (case side2 => exact (Kd.R_reads' HO151.out).2.1); rintro e w31 ⟨rfl, hb⟩; refine ⟨_, rfl, ?_⟩; have n0_ := εp (Kd.R_below (by (with_reducible repeat (first | apply εd | apply εe | apply εf)); exact HO148.out) hb); have n1_ := εp (Kd.R_below (by (with_reducible repeat (first | apply εd | apply εe | apply εf)); exact HO151.out) hb); have n2_ := εp (blk_below (g := gb139) (o := .cells #[.int .i64 a1_0, .int .i64 a1_1, .int .i64 a1_2, .bool a1_3] 37 (0, 0)) (by (with_reducible repeat (first | refine εa ?_ _ | refine εc ?_ | refine εb ?_ _)); exact BK139.out) hb); have n3_ := εp (below_step (by repeat (first | (with_reducible first | exact HB.out | apply εj | apply εh | apply εi | refine εg ?_ GE139.out) | exact HB.out)) hb); clear HO148; clear HO151; clear BK139; clear HB; have HO148 := n0_; have HO151 := n1_; have BK139 := n2_; have HB := n3_; clear n0_ n1_ n2_ n3_; (try clear hb); (try clear hb2); (try clear hk); (try clear hi)) | ((with_reducible refine gate_dst (N := 16) rfl ?_); refine Kd.R_lit k37 _ 37 ?hg (N := 16) ?hd (xs := ([] : List (S37))) (inner := []) (ok := fun _ => True) (okp := fun _ => True) ?hr ?hp (fun _ hk => hk) trivial (Below.refl _ _) (Nat.le_refl _) (by simp) ?_; (case hd => rfl); (case hg => rfl); (case hr => first | (go_simp; done) | (go_simp; rfl)); (case hp => exact (Reps.none _ _)); intro v154 w32 ho33 hb hg_ hnew_; clear hg_ hnew_; (first | rw [← Ny153.out] at ho33 | (simp only [Int.reduceToNat] at ho33; rw [← Ny153.out] at ho33)); have n0_ := εp (Kd.R_elder' (by (with_reducible repeat (first | apply εd | apply εe | apply εf)); exact HO148.out) (Kd.R_base ho33) hb); have n1_ := εp (Kd.R_elder' (by (with_reducible repeat (first | apply εd | apply εe | apply εf)); exact HO151.out) (Kd.R_base ho33) hb); have n2_ := εp (Kd.R_lower (Kd.R_newB (Kd.R_new' (Kd.R_new' ho33 (Kd.R_lt (by (with_reducible repeat (first | apply εd | apply εe | apply εf)); exact HO148.out))) (Kd.R_lt (by (with_reducible repeat (first | apply εd | apply εe | apply εf)); exact HO151.out))) (g := gb139) (o := .cells #[.int .i64 a1_0, .int .i64 a1_1, .int .i64 a1_2, .bool a1_3] 37 (0, 0)) (by (with_reducible repeat (first | refine εa ?_ _ | refine εc ?_ | refine εb ?_ _)); exact BK139.out)) (below_size (by repeat (first | (with_reducible first | exact HB.out | apply εj | apply εh | apply εi | refine εg ?_ GE139.out) | exact HB.out)))); have n3_ := εp (blk_below (g := gb139) (o := .cells #[.int .i64 a1_0, .int .i64 a1_1, .int .i64 a1_2, .bool a1_3] 37 (0, 0)) (by (with_reducible repeat (first | refine εa ?_ _ | refine εc ?_ | refine εb ?_ _)); exact BK139.out) hb); have n4_ := εp (below_step (by repeat (first | (with_reducible first | exact HB.out | apply εj | apply εh | apply εi | refine εg ?_ GE139.out) | exact HB.out)) hb); clear HO148; clear HO151; clear BK139; clear HB; have HO148 := n0_; have HO151 := n1_; have HO155 := n2_; have BK139 := n3_; have HB := n4_; clear n0_ n1_ n2_ n3_ n4_; clear hb ho33) | ((with_reducible refine gate_builtin (b := .append) (xs := #[.tmp 16, .tmp 17]) rfl ?_); at_builtin; refine Kd.R_append_rows k37 (w0 := w) w.heap.size rfl (.tmp 16) (.tmp 17) 25 37 (.agg #[(.int .i64 0), (.int .i64 0), (.int .i64 0), (.bool false)]) 32 rfl Try.underlying25 info37 rfl (by decide) (by omega) v154 y153 l0 _ _ _ (fun k_ => some k_ ≠ (.slice Ao29 y146.length co29 : Value).ownBlock ∧ some k_ ≠ (.slice Ao30 y149.length co30 : Value).ownBlock ∧ k_ ≠ gb139) (fun _ => False) rfl rfl ?aO ?aR (fun _ _ h => h) (fun _ h => h.elim) ?aF ?aB ?aS ?aL ?_; (case aR => repeat (first | exact (Kd.C_below HR0.out HB.out) | (with_reducible refine Kd.C_alloc ?_ _) | (with_reducible refine Kd.C_drewN ?_ _) | (with_reducible refine Kd.C_drew ?_))); (case aB => exact (by repeat (first | (with_reducible first | exact HB.out | apply εj | apply εh | apply εi | refine εg ?_ GE139.out) | exact HB.out))); (case aF => exact (fun k_ hk => ⟨Kd.fresh' (Kd.R_lt (by (with_reducible repeat (first | apply εd | apply εe | apply εf)); exact HO148.out)) k_ hk, Kd.fresh' (Kd.R_lt (by (with_reducible repeat (first | apply εd | apply εe | apply εf)); exact HO151.out)) k_ hk, Kd.freshB (g := gb139) (o := .cells #[.int .i64 a1_0, .int .i64 a1_1, .int .i64 a1_2, .bool a1_3] 37 (0, 0)) (by (with_reducible repeat (first | refine εa ?_ _ | refine εc ?_ | refine εb ?_ _)); exact BK139.out) k_ hk⟩)); (case aO => exact (by (with_reducible repeat (first | apply εd | apply εe | apply εf)); exact εt HO155.out (fun _ hk => ⟨hk.1.1.2, ⟨hk.1.2, hk.2⟩⟩))); (case aS => exact (below_size (by repeat (first | (with_reducible first | exact HB.out | apply εj | apply εh | apply εi | refine εg ?_ GE139.out) | exact HB.out)))); (case aL => have := LMc19.out; omega); intro v157 w34 ho hb hg hat; rw [← Ny156.out] at ho; have n0_ := εp (blk_grown (g := gb139) (o := .cells #[.int .i64 a1_0, .int .i64 a1_1, .int .i64 a1_2, .bool a1_3] 37 (0, 0)) (by (with_reducible repeat (first | refine εa ?_ _ | refine εc ?_ | refine εb ?_ _)); exact BK139.out) hg (Kd.R_away HO155.out (fun _ hk => hk.2))); have n1_ := εp (Kd.R_after (ok := (fun k_ => some k_ ≠ (.slice Ao30 y149.length co30 : Value).ownBlock ∧ k_ ≠ gb139)) (by (with_reducible repeat (first | apply εd | apply εe | apply εf)); exact εt HO148.out (fun _ hk => ⟨⟨hk.1.2, hk.1.1⟩, hk.2⟩)) hg hat); have n2_ := εp (Kd.R_after (ok := (fun k_ => some k_ ≠ (.slice Ao29 y146.length co29 : Value).ownBlock ∧ k_ ≠ gb139)) (by (with_reducible repeat (first | apply εd | apply εe | apply εf)); exact HO151.out) hg hat); have n3_ := εp (hb); have n4_ := εp (ho); clear BK139; clear HO148; clear HO151; clear HB; clear HO155; have BK139 := n0_; have HO148 := n1_; have HO151 := n2_; have HB := n3_; have HO158 := n4_; clear n0_ n1_ n2_ n3_ n4_; clear ho hb hg hat))
    go_ret2
    exact ⟨_, by first | rfl | (simp [errW_none, errW_some] <;> rfl) | (simp [*, errW_none, errW_some] <;> rfl), by (with_reducible repeat (first | apply εd | apply εe | apply εf)); exact εt HO158.out (fun _ hk => trivial), by repeat (first | (with_reducible first | exact HB.out | apply εj | apply εh | apply εi | refine εg ?_ GE139.out) | exact HB.out)⟩
   rw [if_neg c19] at H
   exact absurd H (by simp)
  rw [if_neg c4] at H
  exact absurd H (by simp)
 rw [if_neg c3] at H
 exact absurd H (by simp)

/-! ### impl_InRange: function 64 -/
def impl_InRange.f (a0 : Int) (a1 : Int) (a2 : Int) : Option (Bool) := if a1 ≤ a0 then (some (decide (a0 ≤ a2))) else (some false)
set_option maxHeartbeats 8000000 in
set_option maxRecDepth 100000 in
theorem impl_InRange.calls (a0 : Int) (a1 : Int) (a2 : Int) (r : Bool) (w : World) (h : impl_InRange.f a0 a1 a2 = some r) :
  Calls Try.prog 64 #[.int .i64 a0, .int .i64 a1, .int .i64 a2] w fun e w' => e = .returned (.bool r) ∧ Drawn0 w w' := by
 have H : (if a1 ≤ a0 then (some (decide (a0 ≤ a2))) else (some false)) = some r := h
 clear h
 by_cases c4 : a1 ≤ a0
 ·
  rw [if_pos c4] at H
  have c4b0 : decide (a1 ≤ a0) = true := decide_eq_true c4
  clear c4
  obtain rfl := Option.some.inj H
  go_enter Try.func64, Try.ntmps64
  go_wp2
  go_ret
  exact ⟨by first | rfl | (simp; done) | (simp [*]; done), by repeat (first | exact Drawn0.refl _ | apply Drawn0.step)⟩
 rw [if_neg c4] at H
 have c4b0 : decide (a1 ≤ a0) = false := decide_eq_false c4
 clear c4
 obtain rfl := Option.some.inj H
 go_enter Try.func64, Try.ntmps64
 go_wp2
 go_ret
 exact ⟨by first | rfl | (simp; done) | (simp [*]; done), by repeat (first | exact Drawn0.refl _ | apply Drawn0.step)⟩

-- NOT PRINTED: function 88 (impl_Source_88)

/-! ### impl_sourceAt: function 65 -/
def impl_sourceAt.l0 : Nat → List (S37) → Int → Int → Option (Int)
 | 0, _, _, _ => none
 | k + 1, x0, x1, x5 => if x5 < (x0.length : Int) then (if 0 ≤ x5 then (if ((rd_T37 x0 x5).f0) = x1 then (some x5) else (impl_sourceAt.l0 k x0 x1 (wrap64 (x5 + 1)))) else (none)) else (some (-1))
def impl_sourceAt.f (k : Nat) (l0 : List (S37)) (a1 : Int) : Option (Int) := impl_sourceAt.l0 k l0 a1 0
theorem impl_sourceAt.mono_l : ∀ k, (∀ y0 y1 y2, LeO (impl_sourceAt.l0 k y0 y1 y2) (impl_sourceAt.l0 (k + 1) y0 y1 y2))
 | 0 => fun _ _ _ r h => by simp [impl_sourceAt.l0] at h
 | k + 1 => by
  have ih0 := impl_sourceAt.mono_l k
  intro y0 y1 y2
  unfold impl_sourceAt.l0
  repeat' first
  | (with_reducible exact ih0 _ _ _)
  | (with_reducible exact LeO.refl _)
  | (with_reducible exact LeO.none _)
  | (with_reducible refine LeO.ite ?_ ?_)
  | (with_reducible refine LeO.bind ?_ (fun _ => ?_))
  | exact ih0 _ _ _
  | exact LeO.none _
  | refine LeO.ite ?_ ?_
  | refine LeO.bind ?_ (fun _ => ?_)
theorem impl_sourceAt.mono : ∀ a0 a1 k, LeO (impl_sourceAt.f k a0 a1) (impl_sourceAt.f (k + 1) a0 a1) := by
 intro a0 a1 k
 have ih0 := impl_sourceAt.mono_l k
 unfold impl_sourceAt.f
 repeat' first
   | (with_reducible exact ih0 _ _ _)
   | (with_reducible exact LeO.refl _)
   | (with_reducible exact LeO.none _)
   | (with_reducible refine LeO.ite ?_ ?_)
   | (with_reducible refine LeO.bind ?_ (fun _ => ?_))
   | exact ih0 _ _ _
   | exact LeO.none _
   | refine LeO.ite ?_ ?_
   | refine LeO.bind ?_ (fun _ => ?_)
/-- the closure that sourceAt hands on: 'x.Id == id', id in the cell that it captures -/
theorem sourceAt_closure (x0 x1 x2 : Int) (x3 : Bool) (id : Int) (v : Bool) (hv : (x0 == id) = v) (B : Nat) (W : World) (hB : B < W.heap.size) (hc : W.cell? ⟨B, 0, none⟩ = some (.int .i64 id)) :
  Calls Try.prog 89 #[.agg #[.int .i64 x0, .int .i64 x1, .int .i64 x2, .bool x3], .pointer (some ⟨B, 0, none⟩)] W fun e w' => e = .returned (.bool v) ∧ Below W.heap.size W w' := by
 have hne : B ≠ W.heap.size := Nat.ne_of_lt hB
 subst hv
 go_enter Try.func89, Try.ntmps89
 go_wp2
 go_ret
 exact ⟨by first | rfl | (simp; done), (Below.refl _ W).alloc (Nat.le_refl _) _⟩
set_option maxHeartbeats 8000000 in
/-- slices.IndexFunc at that closure -/
theorem sourceAt_index (k : Nat) (A0 : Option Addr) (c0 : Nat) (l0 : List (S37)) (a1 : Int) (r : Int) (w : World) (B : Nat) (hB : B < w.heap.size) (hcell : w.cell? ⟨B, 0, none⟩ = some (.int .i64 a1)) (hr0 : Kd.C k37 w A0 l0.length l0) (h : impl_sourceAt.l0 k l0 a1 0 = some r) :
  Calls Try.prog 88 #[.slice A0 l0.length c0, .func (.func 89) #[] #[.pointer (some ⟨B, 0, none⟩)]] w fun e w' => e = .returned (.int .i64 r) ∧ Below w.heap.size w w' := by
 have HR0 := εp hr0
 have HC := εp hcell
 have HN := εp hB
 clear hr0 hcell hB
 have HB := εp (Below.refl w.heap.size w)
 have H' := εp h
 clear h
 go_enter Try.func88, Try.ntmps88
 go_wp2
 go_loopg [5, 8] k (fun kq _ v8 w' => ∃ (x8 : Int), v8 = .int .i64 x8 ∧ Aside0 (impl_sourceAt.l0 kq l0 a1 x8 = some r) ∧ Aside0 (kq ≤ k) ∧ Aside0 (Below w.heap.size w w'))
 case atStart => exact ⟨(0), (by first | rfl | (simp; done) | (simp [*]; done)), H', ⟨Nat.le_refl _⟩, HB⟩
 case round =>
  clear H'
  obtain ⟨x8, rfl, HA, HK1, HB⟩ := hrel
  cases gk with
  | zero => exact absurd HA.out (by simp [impl_sourceAt.l0])
  | succ k1 =>
   have H := HA.out
   clear HA
   simp only [impl_sourceAt.l0] at H
   by_cases c3 : x8 < (l0.length : Int)
   ·
    rw [if_pos c3] at H
    have c3b0 : decide (x8 < (l0.length : Int)) = true := decide_eq_true c3
    by_cases c4 : 0 ≤ x8
    ·
     rw [if_pos c4] at H
     have c4b0 : decide (0 ≤ x8) = true := decide_eq_true c4
     obtain ⟨ad, e1, hx_0, hx_1, hx_2, hx_3⟩ := at_T37 HR0.out x8 c4 c3
     cases e1
     replace hx_0 := (HB.out.cell (World.block_lt_of_cell? w _ hx_0)).trans hx_0
     replace hx_1 := (HB.out.cell (World.block_lt_of_cell? w _ hx_1)).trans hx_1
     replace hx_2 := (HB.out.cell (World.block_lt_of_cell? w _ hx_2)).trans hx_2
     replace hx_3 := (HB.out.cell (World.block_lt_of_cell? w _ hx_3)).trans hx_3
     have hcw : wr.cell? ⟨B, 0, none⟩ = some (.int .i64 a1) := (HB.out.cell HN.out).trans HC.out
     have hBw : B < wr.heap.size := Nat.lt_of_lt_of_le HN.out HB.out.size
     replace c3 := eq_true c3
     replace c4 := eq_true c4
     by_cases c5 : ((rd_T37 l0 x8).f0) = a1
     ·
      rw [if_pos c5] at H
      obtain rfl := Option.some.inj H
      have hcl := sourceAt_closure (rd_T37 l0 x8).f0 (rd_T37 l0 x8).f1 (rd_T37 l0 x8).f2 (rd_T37 l0 x8).f3 a1 true (beq_iff_eq.mpr c5) B wr hBw hcw
      clear c5 hcw hBw
      go_wp2_with (go_at_call 89; refine hcl.mono ?_; rintro e w' ⟨rfl, hb'⟩)
      go_ret
      exact ⟨by first | rfl | (simp; done), HB.out.trans (hb'.mono HB.out.size)⟩
     rw [if_neg c5] at H
     have H' := εp H
     clear H
     have hcl := sourceAt_closure (rd_T37 l0 x8).f0 (rd_T37 l0 x8).f1 (rd_T37 l0 x8).f2 (rd_T37 l0 x8).f3 a1 false (beq_eq_false_iff_ne.mpr c5) B wr hBw hcw
     clear c5 hcw hBw
     go_wp2_with (go_at_call 89; refine hcl.mono ?_; rintro e w' ⟨rfl, hb'⟩)
     go_roundg k1
     case measure => have := HK1.out; omega
     case rel => exact ⟨(wrap64 (x8 + 1)), (by first | rfl | (simp; done) | (simp [*]; done)), H', ⟨by have := HK1.out; omega⟩, ⟨HB.out.trans (hb'.mono HB.out.size)⟩⟩
    rw [if_neg c4] at H
    exact absurd H (by simp)
   rw [if_neg c3] at H
   have c3b0 : decide (x8 < (l0.length : Int)) = false := decide_eq_false c3
   clear c3
   obtain rfl := Option.some.inj H
   go_wp2
   go_ret
   exact ⟨by first | rfl | (simp; done) | (simp [*]; done), HB.out⟩
set_option maxHeartbeats 8000000 in
theorem impl_sourceAt.calls (k : Nat) (A0 : Option Addr) (c0 : Nat) (l0 : List (S37)) (a1 : Int) (r : Int) (w : World) (hr0 : Kd.C k37 w A0 l0.length l0) (hc0 : l0.length ≤ c0) (h : impl_sourceAt.f k l0 a1 = some r) :
  Calls Try.prog 65 #[.slice A0 l0.length c0, .int .i64 a1] w fun e w' => e = .returned (.int .i64 r) ∧ Below w.heap.size w w' := by
 have hb : Below w.heap.size w (w.alloc (.cells #[.int .i64 a1] 3)) := (Below.refl _ w).alloc (Nat.le_refl _) _
 have hcon := sourceAt_index k A0 c0 l0 a1 r (w.alloc (.cells #[.int .i64 a1] 3)) w.heap.size (by simp) (by simp) (Kd.C_below hr0 hb) h
 clear hr0 h
 go_enter Try.func65, Try.ntmps65
 go_wp2_with (go_at_call 88; refine hcon.mono ?_; rintro e w' ⟨rfl, hb'⟩)
 go_ret
 exact ⟨rfl, hb.trans (hb'.mono (by simp))⟩
end Go.Proofs.Ytfcidjlnokhkjaa.QFnExactAddSource
