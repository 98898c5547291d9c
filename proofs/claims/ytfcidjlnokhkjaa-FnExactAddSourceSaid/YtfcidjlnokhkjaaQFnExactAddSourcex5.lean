-- Laid by this session's own program (wip/myprint.py), the kit's printer its engine; turned by hand where that fell. Lean checks it.
import Derived.Test.YtfcidjlnokhkjaaQFnExactAddSourcex0
import Derived.Test.YtfcidjlnokhkjaaQFnExactAddSourcex4
import Derived.Lib.SliceRun
namespace Go.Proofs.Ytfcidjlnokhkjaa.QFnExactAddSource
open Go.RowKit Go.Proofs.YtfcidjlnokhkjaaW.PrintWords Go.Proofs.YtfcidjlnokhkjaaW.PrintLast Go.Proofs.YtfcidjlnokhkjaaW.PrintMore
attribute [local go_sem] max2_int min2_int max_two min_two max_three min_three max_four min_four   -- for this text's walks alone
set_option linter.unusedVariables false
set_option linter.unusedSimpArgs false

/-! ### impl_Source_67: function 67 -/
def impl_Source_67.f (l0 : List (S37)) : Option ((List (S37))) := (some (([] : List (S37)) : List (S37))).bind fun y176 => (if y176.length + l0.length < 4398046511104 then (some (y176 ++ l0)) else (none))
set_option linter.defProp false
def ηa := @blk_drewN
def ηb := @blk_alloc
def ηc := @blk_drew
def ηd := @Kd.R_alloc
def ηe := @Kd.R_drewN
def ηf := @Kd.R_drew
def ηg := @below_set
def ηh := @pw_below_drewN
def ηi := @below_drew1
def ηj := @below_alloc
def ηk := @blk_cell
def ηm := @List.setIfInBounds_toArray
def ηn := @List.set_cons_zero
def ηo := @List.set_cons_succ
def ηp := @Aside0.mk
set_option maxHeartbeats 8000000 in
set_option maxRecDepth 100000 in
theorem impl_Source_67.calls (A0 : Option Addr) (c0 : Nat) (l0 : List (S37)) (r : List (S37)) (w : World) (hr0 : Kd.C k37 w A0 l0.length l0) (hc0 : l0.length ≤ c0) (h : impl_Source_67.f l0 = some r) :
  Calls Try.prog 67 #[.slice A0 l0.length c0] w fun e w' => ∃ v0_ : Value, e = .returned (v0_) ∧ Kd.R k37 37 w' w.heap.size (fun _ => True) v0_ r ∧ Below w.heap.size w w' := by
 have HR0 := ηp hr0
 have HC0 := ηp hc0
 clear hr0 hc0
 have HB := ηp (Below.refl w.heap.size w)
 have H : ((some (([] : List (S37)) : List (S37))).bind fun y176 => (if y176.length + l0.length < 4398046511104 then (some (y176 ++ l0)) else (none))) = some r := h
 clear h
 obtain ⟨y176, hy176⟩ : ∃ y_ : List (S37), y_ = (([] : List (S37))) := ⟨_, rfl⟩
 replace H : (if y176.length + l0.length < 4398046511104 then (some (y176 ++ l0)) else (none)) = some r := by first | (rw [hy176]; with_reducible exact H) | (have H2_ := (Option.bind_some _ _).symm.trans H; rw [hy176]; with_reducible exact H2_) | (have H2_ := (Option.bind_some _ _).symm.trans H; with_reducible exact H2_) | with_reducible exact H | (rw [hy176]; exact H) | exact H
 have Ny176 := ηp hy176
 clear hy176
 by_cases c2 : y176.length + l0.length < 4398046511104
 ·
  rw [if_pos c2] at H
  have LMc2 := ηp c2
  clear c2
  obtain ⟨y179, hy179⟩ : ∃ y_ : List (S37), y_ = (y176 ++ l0) := ⟨_, rfl⟩
  replace H : (some y179) = some r := by first | (rw [hy179]; with_reducible exact H) | (have H2_ := (Option.bind_some _ _).symm.trans H; rw [hy179]; with_reducible exact H2_) | (have H2_ := (Option.bind_some _ _).symm.trans H; with_reducible exact H2_) | with_reducible exact H | (rw [hy179]; exact H) | exact H
  have Ny179 := ηp hy179
  clear hy179
  obtain rfl := Option.some.inj H
  rcases A0 with _ | ad0
  ·
   have hn0 : l0 = [] := by
    rcases l0 with _ | ⟨x_, l_⟩
    ·
     rfl
    obtain ⟨_, he_, _⟩ := HR0.out.2.2 (by simp)
    cases he_
   have he0 := fun w => Lib.run_eql_slice_nil (P := Try.prog) w 25 37 none l0.length c0 0 0 Try.underlying25
   have Hr := ηp (show y179 = [] by rw [Ny179.out, Ny176.out, hn0]; rfl)
   clear hn0
   go_enter Try.func67, Try.ntmps67
   go_wp2
   go_ret
   exact ⟨_, rfl, by rw [Hr.out]; exact Kd.R_nil _ _ _ _ _, by repeat (first | (with_reducible first | exact HB.out | apply ηj | apply ηh | apply ηi) | exact HB.out)⟩
  have he0 := fun w => Lib.run_eql_slice_nil (P := Try.prog) w 25 37 (some ad0) l0.length c0 0 0 Try.underlying25
  go_enter Try.func67, Try.ntmps67
  go_wp2_with (first | ((with_reducible refine gate_dst (N := 5) rfl ?_); refine Kd.R_lit k37 _ 37 ?hg (N := 5) ?hd (xs := ([] : List (S37))) (inner := []) (ok := fun _ => True) (okp := fun _ => True) ?hr ?hp (fun _ hk => hk) trivial (Below.refl _ _) (Nat.le_refl _) (by simp) ?_; (case hd => rfl); (case hg => rfl); (case hr => first | (go_simp; done) | (go_simp; rfl)); (case hp => exact (Reps.none _ _)); intro v177 w3 ho4 hb hg_ hnew_; clear hg_ hnew_; (first | rw [← Ny176.out] at ho4 | (simp only [Int.reduceToNat] at ho4; rw [← Ny176.out] at ho4)); have n0_ := ηp (Kd.R_lower ho4 (below_size (by repeat (first | (with_reducible first | exact HB.out | apply ηj | apply ηh | apply ηi) | exact HB.out)))); have n1_ := ηp (below_step (by repeat (first | (with_reducible first | exact HB.out | apply ηj | apply ηh | apply ηi) | exact HB.out)) hb); clear HB; have HO178 := n0_; have HB := n1_; clear n0_ n1_; clear hb ho4) | ((with_reducible refine gate_builtin (b := .append) (xs := #[.tmp 5, .tmp 6]) rfl ?_); at_builtin; refine Kd.R_append_rows k37 (w0 := w) w.heap.size rfl (.tmp 5) (.tmp 6) 25 37 (.agg #[(.int .i64 0), (.int .i64 0), (.int .i64 0), (.bool false)]) 32 rfl Try.underlying25 info37 rfl (by decide) (by omega) v177 y176 l0 _ _ _ (fun _ => True) (fun _ => False) rfl rfl ?aO ?aR (fun _ _ h => h) (fun _ h => h.elim) ?aF ?aB ?aS ?aL ?_; (case aR => repeat (first | exact (Kd.C_below HR0.out HB.out) | (with_reducible refine Kd.C_alloc ?_ _) | (with_reducible refine Kd.C_drewN ?_ _) | (with_reducible refine Kd.C_drew ?_))); (case aB => exact (by repeat (first | (with_reducible first | exact HB.out | apply ηj | apply ηh | apply ηi) | exact HB.out))); (case aF => exact (fun _ _ => trivial)); (case aO => exact (by (with_reducible repeat (first | apply ηd | apply ηe | apply ηf)); exact HO178.out)); (case aS => exact (below_size (by repeat (first | (with_reducible first | exact HB.out | apply ηj | apply ηh | apply ηi) | exact HB.out)))); (case aL => have := LMc2.out; omega); intro v180 w5 ho hb hg hat; rw [← Ny179.out] at ho; have n0_ := ηp (hb); have n1_ := ηp (ho); clear HB; clear HO178; have HB := n0_; have HO181 := n1_; clear n0_ n1_; clear ho hb hg hat))
  go_ret
  exact ⟨_, by first | rfl | (simp [errW_none, errW_some] <;> rfl) | (simp [*, errW_none, errW_some] <;> rfl), by (with_reducible repeat (first | apply ηd | apply ηe | apply ηf)); exact HO181.out, by repeat (first | (with_reducible first | exact HB.out | apply ηj | apply ηh | apply ηi) | exact HB.out)⟩
 rw [if_neg c2] at H
 exact absurd H (by simp)

/-! ### impl_AddSource: function 28 -/
def impl_AddSource.f (k : Nat) (l0 : List (S37)) (a1_0 : Int) (a1_1 : Int) (a1_2 : Int) (a1_3 : Bool) : Option ((List (S37)) × Bool) := (impl_Source_67.f l0).bind fun t183 => ((some (([(⟨a1_0, a1_1, a1_2, a1_3⟩ : S37)] : List (S37)) : List (S37))).bind fun y186 => (if t183.length + y186.length < 4398046511104 then ((some (t183 ++ y186 : List (S37))).bind fun y189 => ((impl_AreSources.f k y189).bind fun t192 => (if t192 = true then (some (y189, true)) else ((impl_Source_67.f l0).bind fun t193 => (some (t193, false)))))) else (none)))
theorem impl_AddSource.mono : ∀ a0 a1 a2 a3 a4 k, LeO (impl_AddSource.f k a0 a1 a2 a3 a4) (impl_AddSource.f (k + 1) a0 a1 a2 a3 a4) := by
 intro a0 a1 a2 a3 a4 k
 unfold impl_AddSource.f
 repeat' first
   | (with_reducible exact impl_AreSources.mono _ _)
   | (with_reducible exact LeO.refl _)
   | (with_reducible exact LeO.none _)
   | (with_reducible refine LeO.ite ?_ ?_)
   | (with_reducible refine LeO.bind ?_ (fun _ => ?_))
   | exact impl_AreSources.mono _ _
   | exact LeO.none _
   | refine LeO.ite ?_ ?_
   | refine LeO.bind ?_ (fun _ => ?_)
set_option maxHeartbeats 8000000 in
set_option maxRecDepth 100000 in
theorem impl_AddSource.calls (k : Nat) (A0 : Option Addr) (c0 : Nat) (l0 : List (S37)) (a1_0 : Int) (a1_1 : Int) (a1_2 : Int) (a1_3 : Bool) (r1 : List (S37)) (r2 : Bool) (w : World) (hr0 : Kd.C k37 w A0 l0.length l0) (hc0 : l0.length ≤ c0) (h : impl_AddSource.f k l0 a1_0 a1_1 a1_2 a1_3 = some (r1, r2)) :
  Calls Try.prog 28 #[.slice A0 l0.length c0, .agg #[.int .i64 a1_0, .int .i64 a1_1, .int .i64 a1_2, .bool a1_3]] w fun e w' => ∃ v0_ : Value, e = .returned (.tuple #[v0_, .bool r2]) ∧ Kd.R k37 37 w' w.heap.size (fun _ => True) v0_ r1 ∧ Below w.heap.size w w' := by
 have hu37 := Try.underlying37
 have HR0 := ηp hr0
 have HC0 := ηp hc0
 clear hr0 hc0
 have HB := ηp (Below.refl w.heap.size w)
 have H : ((impl_Source_67.f l0).bind fun t183 => ((some (([(⟨a1_0, a1_1, a1_2, a1_3⟩ : S37)] : List (S37)) : List (S37))).bind fun y186 => (if t183.length + y186.length < 4398046511104 then ((some (t183 ++ y186 : List (S37))).bind fun y189 => ((impl_AreSources.f k y189).bind fun t192 => (if t192 = true then (some (y189, true)) else ((impl_Source_67.f l0).bind fun t193 => (some (t193, false)))))) else (none)))) = some (r1, r2) := h
 clear h
 replace H := Option.bind_eq_some_iff.mp H
 obtain ⟨t183, A30, H⟩ := H
 replace H : ((some (([(⟨a1_0, a1_1, a1_2, a1_3⟩ : S37)] : List (S37)) : List (S37))).bind fun y186 => (if t183.length + y186.length < 4398046511104 then ((some (t183 ++ y186 : List (S37))).bind fun y189 => ((impl_AreSources.f k y189).bind fun t192 => (if t192 = true then (some (y189, true)) else ((impl_Source_67.f l0).bind fun t193 => (some (t193, false)))))) else (none))) = some (r1, r2) := H
 have A3 := ηp A30
 clear A30
 obtain ⟨y186, hy186⟩ : ∃ y_ : List (S37), y_ = (([(⟨a1_0, a1_1, a1_2, a1_3⟩ : S37)] : List (S37))) := ⟨_, rfl⟩
 replace H : (if t183.length + y186.length < 4398046511104 then ((some (t183 ++ y186 : List (S37))).bind fun y189 => ((impl_AreSources.f k y189).bind fun t192 => (if t192 = true then (some (y189, true)) else ((impl_Source_67.f l0).bind fun t193 => (some (t193, false)))))) else (none)) = some (r1, r2) := by first | (rw [hy186]; with_reducible exact H) | (have H2_ := (Option.bind_some _ _).symm.trans H; rw [hy186]; with_reducible exact H2_) | (have H2_ := (Option.bind_some _ _).symm.trans H; with_reducible exact H2_) | with_reducible exact H | (rw [hy186]; exact H) | exact H
 have Ny186 := ηp hy186
 clear hy186
 by_cases c4 : t183.length + y186.length < 4398046511104
 ·
  rw [if_pos c4] at H
  have LMc4 := ηp c4
  clear c4
  obtain ⟨y189, hy189⟩ : ∃ y_ : List (S37), y_ = (t183 ++ y186) := ⟨_, rfl⟩
  replace H : ((impl_AreSources.f k y189).bind fun t192 => (if t192 = true then (some (y189, true)) else ((impl_Source_67.f l0).bind fun t193 => (some (t193, false))))) = some (r1, r2) := by first | (rw [hy189]; with_reducible exact H) | (have H2_ := (Option.bind_some _ _).symm.trans H; rw [hy189]; with_reducible exact H2_) | (have H2_ := (Option.bind_some _ _).symm.trans H; with_reducible exact H2_) | with_reducible exact H | (rw [hy189]; exact H) | exact H
  have Ny189 := ηp hy189
  clear hy189
  replace H := Option.bind_eq_some_iff.mp H
  obtain ⟨t192, A50, H⟩ := H
  replace H : (if t192 = true then (some (y189, true)) else ((impl_Source_67.f l0).bind fun t193 => (some (t193, false)))) = some (r1, r2) := H
  have A5 := ηp A50
  clear A50
  by_cases c6 : t192 = true
  ·
   subst c6
   have H1 : (some (y189, true)) = some (r1, r2) := by rw [if_pos rfl] at H; exact H
   clear H
   have H := H1
   clear H1
   simp only [Option.some.injEq, Prod.mk.injEq] at H
   obtain ⟨rfl, rfl⟩ := H
   go_enter Try.func28, Try.ntmps28
   try go_wp2_with (first | ((with_reducible refine gate_dst (N := 3) rfl ?_); refine box_event ?hg (N := 3) ?hd (cs := #[.int .i64 a1_0, .int .i64 a1_1, .int .i64 a1_2, .bool a1_3]) (t := 37) ?hr ?_; (case hd => rfl); (case hg => rfl); (case hr => first | (go_simp; done) | (go_simp; rfl)); intro gb182 hg w7 hbox hb; have n0_ := ηp (below_step (by repeat (first | (with_reducible first | exact HB.out | apply ηj | apply ηh | apply ηi) | exact HB.out)) hb); have n1_ := ηp (hbox); have n2_ := ηp ((by rw [hg]; exact (below_size (by repeat (first | (with_reducible first | exact HB.out | apply ηj | apply ηh | apply ηi) | exact HB.out))) : w.heap.size ≤ gb182)); have n3_ := ηp ((by rw [hg]; exact (below_size (by repeat (first | (with_reducible first | exact HB.out | apply ηj | apply ηh | apply ηi) | exact HB.out))) : w.heap.size ≤ gb182)); clear HB; have HB := n0_; have BK182 := n1_; have GW182 := n2_; have GE182 := n3_; clear n0_ n1_ n2_ n3_; clear hb hbox hg))
   have n0_ := ηp (ηc BK182.out)
   have n1_ := ηp (ηi HB.out)
   clear BK182
   clear HB
   have BK182 := n0_
   have HB := n1_
   clear n0_ n1_
   refine start_ (n := 6) (S := fun w' => w'.cell? ⟨gb182, 0, none⟩ = some (.int .i64 a1_0) ∧ w'.cell? ⟨gb182, 1, none⟩ = some (.int .i64 a1_1) ∧ w'.cell? ⟨gb182, 2, none⟩ = some (.int .i64 a1_2) ∧ w'.cell? ⟨gb182, 3, none⟩ = some (.bool a1_3)) (ds := []) #[false, false, false, false, false, false] (by kernel_rfl) rfl rfl ⟨(ηk BK182.out 0).trans rfl, (ηk BK182.out 1).trans rfl, (ηk BK182.out 2).trans rfl, (ηk BK182.out 3).trans rfl⟩ (fun hHeld => ?_)
   generalize w7.drew = w8 at BK182 HB hHeld ⊢
   refine pure_ (i := 0) (N := some 7) (v := ?_) (a' := ?_) #[true, false, false, false, false, false] rfl rfl (by kernel_rfl) (fun _ _ _ h => h) (Or.inl ⟨by rfl, ?_⟩) ?_ ?_
   rotate_left; · (intro w'; go_simp; with_reducible rfl)
   rotate_left; · (simp only [Act.put, ηm, ηn, ηo, i64_w, i32_w]; rfl)
   refine take_ (i := 2) (N := some 9) (v := ?_) (a' := ?_) #[true, false, true, false, false, false] rfl rfl (by kernel_rfl) (fun _ _ _ h => h) (Or.inl ⟨by rfl, ?_⟩) hHeld ?_ ?_
   rotate_left
   ·
    rintro w' ⟨s0, s1, s2, s3⟩
    go_simp
    with_reducible rfl
   rotate_left
   ·
    simp only [Act.put, ηm, ηn, ηo, i64_w, i32_w]
    rfl
   refine join_ (σ := Value × Value) 2 #[true, true, true, true, false, false] (fun s_ => [(8, s_.1), (10, s_.2)]) (fun s_ w' => (w'.cell? ⟨gb182, 0, none⟩ = some (.int .i64 a1_0) ∧ w'.cell? ⟨gb182, 1, none⟩ = some (.int .i64 a1_1) ∧ w'.cell? ⟨gb182, 2, none⟩ = some (.int .i64 a1_2) ∧ w'.cell? ⟨gb182, 3, none⟩ = some (.bool a1_3)) ∧ (Kd.R k37 37 w' w.heap.size (fun k_ => some k_ ≠ (s_.2 : Value).ownBlock ∧ k_ ≠ gb182) s_.1 t183) ∧ (Kd.R k37 37 w' w.heap.size (fun k_ => some k_ ≠ (s_.1 : Value).ownBlock ∧ k_ ≠ gb182) s_.2 y186) ∧ (w'.heap[gb182]? = some (.cells #[.int .i64 a1_0, .int .i64 a1_1, .int .i64 a1_2, .bool a1_3] 37 (0, 0))) ∧ (Below w.heap.size w w')) ?_ ?_
   rotate_left
   ·
    intro hCont
    refine two_ (i := 1) (j := 3) (Ni := some 8) (Nj := some 10) #[true, true, true, false, false, false] #[true, false, true, true, false, false] rfl rfl rfl rfl (by kernel_rfl) (by decide) (by decide) (fun K hK => ?_) (fun K hK => ?_)
    ·
     skip
     refine goes_ Try.func67 (by kernel_rfl) rfl #[.slice A0 l0.length c0] (by rfl) rfl rfl (by (try simp only [List.map_toArray, List.map_cons, List.map_nil]); first | done | rfl | (simp only [List.length_drop, List.length_take]; rfl)) ?_
     with_reducible refine (impl_Source_67.calls _ _ l0 t183 _ ?side1 ?side2 A3.out).mono ?_
     (case side1 => repeat (first | exact (Kd.C_below HR0.out HB.out) | (with_reducible refine Kd.C_alloc ?_ _) | (with_reducible refine Kd.C_drewN ?_ _) | (with_reducible refine Kd.C_drew ?_)))
     (case side2 => exact HC0.out)
     rintro e w9 ⟨v184, rfl, ho0, hb⟩
     refine ⟨_, rfl, ?_⟩
     have n0_ := ηp (Kd.R_lower (Kd.R_newB ho0 (g := gb182) (o := .cells #[.int .i64 a1_0, .int .i64 a1_1, .int .i64 a1_2, .bool a1_3] 37 (0, 0)) (by (with_reducible repeat (first | refine ηa ?_ _ | refine ηc ?_ | refine ηb ?_ _)); exact BK182.out)) (below_size (by repeat (first | (with_reducible first | exact HB.out | apply ηj | apply ηh | apply ηi | refine ηg ?_ GE182.out) | exact HB.out))))
     have n1_ := ηp (blk_below (g := gb182) (o := .cells #[.int .i64 a1_0, .int .i64 a1_1, .int .i64 a1_2, .bool a1_3] 37 (0, 0)) (by (with_reducible repeat (first | refine ηa ?_ _ | refine ηc ?_ | refine ηb ?_ _)); exact BK182.out) hb)
     have n2_ := ηp (below_step (by repeat (first | (with_reducible first | exact HB.out | apply ηj | apply ηh | apply ηi | refine ηg ?_ GE182.out) | exact HB.out)) hb)
     clear BK182
     clear HB
     have HO185 := n0_
     have BK182 := n1_
     have HB := n2_
     clear n0_ n1_ n2_
     (try clear hb)
     (try clear hb2)
     (try clear hk)
     (try clear hi)
     (try clear ho0)
     refine hK.out _ _ ⟨(ηk BK182.out 0).trans rfl, (ηk BK182.out 1).trans rfl, (ηk BK182.out 2).trans rfl, (ηk BK182.out 3).trans rfl⟩ (fun hHeld => ?_)
     clear hK K
     refine norm_ (a' := ?_) ?_ ?_
     rotate_left
     ·
      show Act.put _ (some 8) _ = _
      simp only [Act.put, ηm, ηn, ηo, i64_w, i32_w]
      rfl
     refine one_ (i := 3) (N := some 10) #[true, true, true, true, false, false] rfl rfl (by kernel_rfl) (by decide) (fun K hK => ?_)
     refine Kd.R_lit_step k37 _ 37 ?hg (N := 10) ?hd (xs := ([(⟨a1_0, a1_1, a1_2, a1_3⟩ : S37)] : List (S37))) (inner := [.int .i64 a1_0, .int .i64 a1_1, .int .i64 a1_2, .bool a1_3]) (ok := fun _ => True) (okp := fun _ => True) ?hr ?hp (fun _ hk => hk) trivial (Below.refl _ _) (Nat.le_refl _) (by simp) ?_; (case hd => rfl); (case hg => rfl); (case hr => first | (go_simp; done) | (go_simp; rfl)); (case hp => exact (Reps.c4 (show Kd.M k37 _ _ _ (⟨a1_0, a1_1, a1_2, a1_3⟩ : S37) [.int .i64 a1_0, .int .i64 a1_1, .int .i64 a1_2, .bool a1_3] from (k37_mkM _ _ _ (⟨a1_0, a1_1, a1_2, a1_3⟩ : S37) )) (Reps.none _ _)))
     intro v187 w10 ho11 hb hg_ hnew_
     clear hg_ hnew_
     (first | rw [← Ny186.out] at ho11 | (simp only [Int.reduceToNat] at ho11; rw [← Ny186.out] at ho11))
     have n0_ := ηp (Kd.R_elder' (by (with_reducible repeat (first | apply ηd | apply ηe | apply ηf)); exact HO185.out) (Kd.R_base ho11) hb)
     have n1_ := ηp (Kd.R_lower (Kd.R_newB (Kd.R_new' ho11 (Kd.R_lt (by (with_reducible repeat (first | apply ηd | apply ηe | apply ηf)); exact HO185.out))) (g := gb182) (o := .cells #[.int .i64 a1_0, .int .i64 a1_1, .int .i64 a1_2, .bool a1_3] 37 (0, 0)) (by (with_reducible repeat (first | refine ηa ?_ _ | refine ηc ?_ | refine ηb ?_ _)); exact BK182.out)) (below_size (by repeat (first | (with_reducible first | exact HB.out | apply ηj | apply ηh | apply ηi | refine ηg ?_ GE182.out) | exact HB.out))))
     have n2_ := ηp (blk_below (g := gb182) (o := .cells #[.int .i64 a1_0, .int .i64 a1_1, .int .i64 a1_2, .bool a1_3] 37 (0, 0)) (by (with_reducible repeat (first | refine ηa ?_ _ | refine ηc ?_ | refine ηb ?_ _)); exact BK182.out) hb)
     have n3_ := ηp (below_step (by repeat (first | (with_reducible first | exact HB.out | apply ηj | apply ηh | apply ηi | refine ηg ?_ GE182.out) | exact HB.out)) hb)
     clear HO185
     clear BK182
     clear HB
     have HO185 := n0_
     have HO188 := n1_
     have BK182 := n2_
     have HB := n3_
     clear n0_ n1_ n2_ n3_
     clear hb ho11
     refine hK.out _ _ ⟨(ηk BK182.out 0).trans rfl, (ηk BK182.out 1).trans rfl, (ηk BK182.out 2).trans rfl, (ηk BK182.out 3).trans rfl⟩ (fun hHeld => ?_)
     clear hK K
     refine norm_ (a' := ?_) ?_ ?_
     rotate_left
     ·
      show Act.put _ (some 10) _ = _
      simp only [Act.put, ηm, ηn, ηo, i64_w, i32_w]
      rfl
     exact norm_ (by simp only [putAll, Act.put, ηm, ηn, ηo]) (hCont (v184, v187) _ ⟨hHeld, (by (with_reducible repeat (first | apply ηd | apply ηe | apply ηf)); exact Kd.R_mono HO185.out (fun _ hk => ⟨hk.2, hk.1.2⟩)), (by (with_reducible repeat (first | apply ηd | apply ηe | apply ηf)); exact Kd.R_mono HO188.out (fun _ hk => ⟨hk.1.2, hk.2⟩)), (by (with_reducible repeat (first | refine ηa ?_ _ | refine ηc ?_ | refine ηb ?_ _)); exact BK182.out), (by repeat (first | (with_reducible first | exact HB.out | apply ηj | apply ηh | apply ηi | refine ηg ?_ GE182.out) | exact HB.out))⟩)
    skip
    refine Kd.R_lit_step k37 _ 37 ?hg (N := 10) ?hd (xs := ([(⟨a1_0, a1_1, a1_2, a1_3⟩ : S37)] : List (S37))) (inner := [.int .i64 a1_0, .int .i64 a1_1, .int .i64 a1_2, .bool a1_3]) (ok := fun _ => True) (okp := fun _ => True) ?hr ?hp (fun _ hk => hk) trivial (Below.refl _ _) (Nat.le_refl _) (by simp) ?_; (case hd => rfl); (case hg => rfl); (case hr => first | (go_simp; done) | (go_simp; rfl)); (case hp => exact (Reps.c4 (show Kd.M k37 _ _ _ (⟨a1_0, a1_1, a1_2, a1_3⟩ : S37) [.int .i64 a1_0, .int .i64 a1_1, .int .i64 a1_2, .bool a1_3] from (k37_mkM _ _ _ (⟨a1_0, a1_1, a1_2, a1_3⟩ : S37) )) (Reps.none _ _)))
    intro v187 w9 ho10 hb hg_ hnew_
    clear hg_ hnew_
    (first | rw [← Ny186.out] at ho10 | (simp only [Int.reduceToNat] at ho10; rw [← Ny186.out] at ho10))
    have n0_ := ηp (Kd.R_lower (Kd.R_newB ho10 (g := gb182) (o := .cells #[.int .i64 a1_0, .int .i64 a1_1, .int .i64 a1_2, .bool a1_3] 37 (0, 0)) (by (with_reducible repeat (first | refine ηa ?_ _ | refine ηc ?_ | refine ηb ?_ _)); exact BK182.out)) (below_size (by repeat (first | (with_reducible first | exact HB.out | apply ηj | apply ηh | apply ηi | refine ηg ?_ GE182.out) | exact HB.out))))
    have n1_ := ηp (blk_below (g := gb182) (o := .cells #[.int .i64 a1_0, .int .i64 a1_1, .int .i64 a1_2, .bool a1_3] 37 (0, 0)) (by (with_reducible repeat (first | refine ηa ?_ _ | refine ηc ?_ | refine ηb ?_ _)); exact BK182.out) hb)
    have n2_ := ηp (below_step (by repeat (first | (with_reducible first | exact HB.out | apply ηj | apply ηh | apply ηi | refine ηg ?_ GE182.out) | exact HB.out)) hb)
    clear BK182
    clear HB
    have HO188 := n0_
    have BK182 := n1_
    have HB := n2_
    clear n0_ n1_ n2_
    clear hb ho10
    refine hK.out _ _ ⟨(ηk BK182.out 0).trans rfl, (ηk BK182.out 1).trans rfl, (ηk BK182.out 2).trans rfl, (ηk BK182.out 3).trans rfl⟩ (fun hHeld => ?_)
    clear hK K
    refine norm_ (a' := ?_) ?_ ?_
    rotate_left
    ·
     show Act.put _ (some 10) _ = _
     simp only [Act.put, ηm, ηn, ηo, i64_w, i32_w]
     rfl
    refine one_ (i := 1) (N := some 8) #[true, true, true, true, false, false] rfl rfl (by kernel_rfl) (by decide) (fun K hK => ?_)
    refine goes_ Try.func67 (by kernel_rfl) rfl #[.slice A0 l0.length c0] (by rfl) rfl rfl (by (try simp only [List.map_toArray, List.map_cons, List.map_nil]); first | done | rfl | (simp only [List.length_drop, List.length_take]; rfl)) ?_
    with_reducible refine (impl_Source_67.calls _ _ l0 t183 _ ?side1 ?side2 A3.out).mono ?_
    (case side1 => repeat (first | exact (Kd.C_below HR0.out HB.out) | (with_reducible refine Kd.C_alloc ?_ _) | (with_reducible refine Kd.C_drewN ?_ _) | (with_reducible refine Kd.C_drew ?_)))
    (case side2 => exact HC0.out)
    rintro e w11 ⟨v184, rfl, ho0, hb⟩
    refine ⟨_, rfl, ?_⟩
    have n0_ := ηp (Kd.R_elder' (by (with_reducible repeat (first | apply ηd | apply ηe | apply ηf)); exact HO188.out) (Kd.R_base ho0) hb)
    have n1_ := ηp (Kd.R_lower (Kd.R_newB (Kd.R_new' ho0 (Kd.R_lt (by (with_reducible repeat (first | apply ηd | apply ηe | apply ηf)); exact HO188.out))) (g := gb182) (o := .cells #[.int .i64 a1_0, .int .i64 a1_1, .int .i64 a1_2, .bool a1_3] 37 (0, 0)) (by (with_reducible repeat (first | refine ηa ?_ _ | refine ηc ?_ | refine ηb ?_ _)); exact BK182.out)) (below_size (by repeat (first | (with_reducible first | exact HB.out | apply ηj | apply ηh | apply ηi | refine ηg ?_ GE182.out) | exact HB.out))))
    have n2_ := ηp (blk_below (g := gb182) (o := .cells #[.int .i64 a1_0, .int .i64 a1_1, .int .i64 a1_2, .bool a1_3] 37 (0, 0)) (by (with_reducible repeat (first | refine ηa ?_ _ | refine ηc ?_ | refine ηb ?_ _)); exact BK182.out) hb)
    have n3_ := ηp (below_step (by repeat (first | (with_reducible first | exact HB.out | apply ηj | apply ηh | apply ηi | refine ηg ?_ GE182.out) | exact HB.out)) hb)
    clear HO188
    clear BK182
    clear HB
    have HO188 := n0_
    have HO185 := n1_
    have BK182 := n2_
    have HB := n3_
    clear n0_ n1_ n2_ n3_
    (try clear hb)
    (try clear hb2)
    (try clear hk)
    (try clear hi)
    (try clear ho0)
    refine hK.out _ _ ⟨(ηk BK182.out 0).trans rfl, (ηk BK182.out 1).trans rfl, (ηk BK182.out 2).trans rfl, (ηk BK182.out 3).trans rfl⟩ (fun hHeld => ?_)
    clear hK K
    refine norm_ (a' := ?_) ?_ ?_
    rotate_left
    ·
     show Act.put _ (some 8) _ = _
     simp only [Act.put, ηm, ηn, ηo, i64_w, i32_w]
     rfl
    exact norm_ (by simp only [putAll, Act.put, ηm, ηn, ηo]) (hCont (v184, v187) _ ⟨hHeld, (by (with_reducible repeat (first | apply ηd | apply ηe | apply ηf)); exact Kd.R_mono HO185.out (fun _ hk => ⟨hk.1.2, hk.2⟩)), (by (with_reducible repeat (first | apply ηd | apply ηe | apply ηf)); exact Kd.R_mono HO188.out (fun _ hk => ⟨hk.2, hk.1.2⟩)), (by (with_reducible repeat (first | refine ηa ?_ _ | refine ηc ?_ | refine ηb ?_ _)); exact BK182.out), (by repeat (first | (with_reducible first | exact HB.out | apply ηj | apply ηh | apply ηi | refine ηg ?_ GE182.out) | exact HB.out))⟩)
   rintro ⟨v184, v187⟩ w12 ⟨hS_, h0_, h1_, h2_, h3_⟩
   have n0_ : Aside0 (Kd.R k37 37 w12 w.heap.size (fun k_ => some k_ ≠ (v187 : Value).ownBlock ∧ k_ ≠ gb182) v184 t183) := ⟨h0_⟩
   have n1_ : Aside0 (Kd.R k37 37 w12 w.heap.size (fun k_ => some k_ ≠ (v184 : Value).ownBlock ∧ k_ ≠ gb182) v187 y186) := ⟨h1_⟩
   have n2_ : Aside0 (w12.heap[gb182]? = some (.cells #[.int .i64 a1_0, .int .i64 a1_1, .int .i64 a1_2, .bool a1_3] 37 (0, 0))) := ⟨h2_⟩
   have n3_ : Aside0 (Below w.heap.size w w12) := ⟨h3_⟩
   clear BK182
   clear HB
   clear h0_ h1_ h2_ h3_
   have HO185 := n0_
   have HO188 := n1_
   have BK182 := n2_
   have HB := n3_
   clear n0_ n1_ n2_ n3_
   have hHeld : w12.cell? ⟨gb182, 0, none⟩ = some (.int .i64 a1_0) ∧ w12.cell? ⟨gb182, 1, none⟩ = some (.int .i64 a1_1) ∧ w12.cell? ⟨gb182, 2, none⟩ = some (.int .i64 a1_2) ∧ w12.cell? ⟨gb182, 3, none⟩ = some (.bool a1_3) := hS_
   obtain ⟨Ao14, co14, eo14⟩ := Kd.R_slice HO188.out
   (first | subst eo14 | (injection eo14 with f1_ f2_ f3_; have f4_ := f1_.symm; have f5_ := f3_.symm; clear f1_ f2_ f3_; subst f4_; subst f5_))
   refine norm_ (a' := ?_) ?_ ?_
   rotate_left
   ·
    simp only [putAll, Act.put, ηm, ηn, ηo]
    rfl
   refine one_ (i := 4) (N := some 11) #[true, true, true, true, true, false] rfl rfl (by kernel_rfl) (by decide) (fun K hK => ?_)
   refine Kd.R_append_rows_step k37 (w0 := w) w.heap.size (by rfl) (.tmp 8) (.tmp 10) 25 37 (.agg #[(.int .i64 0), (.int .i64 0), (.int .i64 0), (.bool false)]) 32 rfl Try.underlying25 info37 rfl (by decide) (by omega) v184 t183 y186 _ _ _ (fun k_ => some k_ ≠ (.slice Ao14 y186.length co14 : Value).ownBlock ∧ k_ ≠ gb182) (fun _ => False) rfl rfl ?aO ?aR (fun _ _ h => h) (fun _ h => h.elim) ?aF ?aB ?aS ?aL ?_
   (case aR => repeat (first | exact (Kd.R_reads' HO188.out).2.2 | (with_reducible refine Kd.C_alloc ?_ _) | (with_reducible refine Kd.C_drewN ?_ _) | (with_reducible refine Kd.C_drew ?_)))
   (case aB => exact (by repeat (first | (with_reducible first | exact HB.out | apply ηj | apply ηh | apply ηi | refine ηg ?_ GE182.out) | exact HB.out)))
   (case aF => exact (fun k_ hk => ⟨Kd.fresh' (Kd.R_lt (by (with_reducible repeat (first | apply ηd | apply ηe | apply ηf)); exact HO188.out)) k_ hk, Kd.freshB (g := gb182) (o := .cells #[.int .i64 a1_0, .int .i64 a1_1, .int .i64 a1_2, .bool a1_3] 37 (0, 0)) (by (with_reducible repeat (first | refine ηa ?_ _ | refine ηc ?_ | refine ηb ?_ _)); exact BK182.out) k_ hk⟩))
   (case aO => exact (by (with_reducible repeat (first | apply ηd | apply ηe | apply ηf)); exact HO185.out))
   (case aS => exact (below_size (by repeat (first | (with_reducible first | exact HB.out | apply ηj | apply ηh | apply ηi | refine ηg ?_ GE182.out) | exact HB.out))))
   (case aL => have := LMc4.out; omega)
   intro v190 w13 ho hb hg hat
   rw [← Ny189.out] at ho
   have n0_ := ηp (blk_grown (g := gb182) (o := .cells #[.int .i64 a1_0, .int .i64 a1_1, .int .i64 a1_2, .bool a1_3] 37 (0, 0)) (by (with_reducible repeat (first | refine ηa ?_ _ | refine ηc ?_ | refine ηb ?_ _)); exact BK182.out) hg (Kd.R_away HO185.out (fun _ hk => hk.2)))
   have n1_ := ηp (Kd.R_after (ok := (fun k_ => k_ ≠ gb182)) (by (with_reducible repeat (first | apply ηd | apply ηe | apply ηf)); exact Kd.R_mono HO188.out (fun _ hk => ⟨hk.2, hk.1⟩)) hg hat)
   have n2_ := ηp (hb)
   have n3_ := ηp (ho)
   clear BK182
   clear HO188
   clear HB
   clear HO185
   have BK182 := n0_
   have HO188 := n1_
   have HB := n2_
   have HO191 := n3_
   clear n0_ n1_ n2_ n3_
   clear ho hb hg hat
   refine hK.out _ _ ⟨(ηk BK182.out 0).trans rfl, (ηk BK182.out 1).trans rfl, (ηk BK182.out 2).trans rfl, (ηk BK182.out 3).trans rfl⟩ (fun hHeld => ?_)
   clear hK K
   refine norm_ (a' := ?_) ?_ ?_
   rotate_left
   ·
    show Act.put _ (some 11) _ = _
    simp only [Act.put, ηm, ηn, ηo, i64_w, i32_w]
    rfl
   refine pure_ (i := 5) (N := some 6) (v := ?_) (a' := ?_) #[true, true, true, true, true, true] rfl rfl (by kernel_rfl) (fun _ _ _ h => h) (Or.inl ⟨by rfl, ?_⟩) ?_ ?_
   rotate_left; · (intro w'; go_simp; with_reducible rfl)
   rotate_left; · (simp only [Act.put, ηm, ηn, ηo, i64_w, i32_w]; rfl)
   refine done_ (by kernel_rfl) ?_
   obtain ⟨Ao15, co15, eo15⟩ := Kd.R_slice HO191.out
   subst eo15
   try go_wp2_with (first | ((with_reducible refine gate_callee (f := 18) rfl ?_); refine goesL_ (some 13) rfl rfl Try.func18 (by kernel_rfl) rfl #[.slice Ao15 y189.length co15] rfl (by (try simp only [List.map_toArray, List.map_cons, List.map_nil]); first | done | rfl | (simp only [List.length_drop, List.length_take]; rfl)) ?_; (with_reducible refine (impl_AreSources.calls k _ _ y189 true _ ?side1 ?side2 A5.out).mono ?_); (case side1 => repeat (first | exact (Kd.R_reads' HO191.out).2.2 | (with_reducible refine Kd.C_alloc ?_ _) | (with_reducible refine Kd.C_drewN ?_ _) | (with_reducible refine Kd.C_drew ?_))); (case side2 => exact (Kd.R_reads' HO191.out).2.1); rintro e w16 ⟨rfl, hb⟩; refine ⟨_, rfl, ?_⟩; have n0_ := ηp (Kd.R_below (by (with_reducible repeat (first | apply ηd | apply ηe | apply ηf)); exact HO188.out) hb); have n1_ := ηp (Kd.R_below (by (with_reducible repeat (first | apply ηd | apply ηe | apply ηf)); exact HO191.out) hb); have n2_ := ηp (blk_below (g := gb182) (o := .cells #[.int .i64 a1_0, .int .i64 a1_1, .int .i64 a1_2, .bool a1_3] 37 (0, 0)) (by (with_reducible repeat (first | refine ηa ?_ _ | refine ηc ?_ | refine ηb ?_ _)); exact BK182.out) hb); have n3_ := ηp (below_step (by repeat (first | (with_reducible first | exact HB.out | apply ηj | apply ηh | apply ηi | refine ηg ?_ GE182.out) | exact HB.out)) hb); clear HO188; clear HO191; clear BK182; clear HB; have HO188 := n0_; have HO191 := n1_; have BK182 := n2_; have HB := n3_; clear n0_ n1_ n2_ n3_; (try clear hb); (try clear hb2); (try clear hk); (try clear hi)))
   go_ret2
   exact ⟨_, by first | rfl | (simp [errW_none, errW_some] <;> rfl) | (simp [*, errW_none, errW_some] <;> rfl), by (with_reducible repeat (first | apply ηd | apply ηe | apply ηf)); exact Kd.R_mono HO191.out (fun _ hk => trivial), by repeat (first | (with_reducible first | exact HB.out | apply ηj | apply ηh | apply ηi | refine ηg ?_ GE182.out) | exact HB.out)⟩
  replace c6 := Bool.eq_false_iff.mpr c6
  subst c6
  have H1 : ((impl_Source_67.f l0).bind fun t193 => (some (t193, false))) = some (r1, r2) := by rw [if_neg (show ¬ (false = true) by decide)] at H; exact H
  clear H
  have H := H1
  clear H1
  replace H := Option.bind_eq_some_iff.mp H
  obtain ⟨t193, A170, H⟩ := H
  replace H : (some (t193, false)) = some (r1, r2) := H
  have A17 := ηp A170
  clear A170
  simp only [Option.some.injEq, Prod.mk.injEq] at H
  obtain ⟨rfl, rfl⟩ := H
  go_enter Try.func28, Try.ntmps28
  try go_wp2_with (first | ((with_reducible refine gate_dst (N := 3) rfl ?_); refine box_event ?hg (N := 3) ?hd (cs := #[.int .i64 a1_0, .int .i64 a1_1, .int .i64 a1_2, .bool a1_3]) (t := 37) ?hr ?_; (case hd => rfl); (case hg => rfl); (case hr => first | (go_simp; done) | (go_simp; rfl)); intro gb182 hg w18 hbox hb; have n0_ := ηp (below_step (by repeat (first | (with_reducible first | exact HB.out | apply ηj | apply ηh | apply ηi) | exact HB.out)) hb); have n1_ := ηp (hbox); have n2_ := ηp ((by rw [hg]; exact (below_size (by repeat (first | (with_reducible first | exact HB.out | apply ηj | apply ηh | apply ηi) | exact HB.out))) : w.heap.size ≤ gb182)); have n3_ := ηp ((by rw [hg]; exact (below_size (by repeat (first | (with_reducible first | exact HB.out | apply ηj | apply ηh | apply ηi) | exact HB.out))) : w.heap.size ≤ gb182)); clear HB; have HB := n0_; have BK182 := n1_; have GW182 := n2_; have GE182 := n3_; clear n0_ n1_ n2_ n3_; clear hb hbox hg))
  have n0_ := ηp (ηc BK182.out)
  have n1_ := ηp (ηi HB.out)
  clear BK182
  clear HB
  have BK182 := n0_
  have HB := n1_
  clear n0_ n1_
  refine start_ (n := 6) (S := fun w' => w'.cell? ⟨gb182, 0, none⟩ = some (.int .i64 a1_0) ∧ w'.cell? ⟨gb182, 1, none⟩ = some (.int .i64 a1_1) ∧ w'.cell? ⟨gb182, 2, none⟩ = some (.int .i64 a1_2) ∧ w'.cell? ⟨gb182, 3, none⟩ = some (.bool a1_3)) (ds := []) #[false, false, false, false, false, false] (by kernel_rfl) rfl rfl ⟨(ηk BK182.out 0).trans rfl, (ηk BK182.out 1).trans rfl, (ηk BK182.out 2).trans rfl, (ηk BK182.out 3).trans rfl⟩ (fun hHeld => ?_)
  generalize w18.drew = w19 at BK182 HB hHeld ⊢
  refine pure_ (i := 0) (N := some 7) (v := ?_) (a' := ?_) #[true, false, false, false, false, false] rfl rfl (by kernel_rfl) (fun _ _ _ h => h) (Or.inl ⟨by rfl, ?_⟩) ?_ ?_
  rotate_left; · (intro w'; go_simp; with_reducible rfl)
  rotate_left; · (simp only [Act.put, ηm, ηn, ηo, i64_w, i32_w]; rfl)
  refine take_ (i := 2) (N := some 9) (v := ?_) (a' := ?_) #[true, false, true, false, false, false] rfl rfl (by kernel_rfl) (fun _ _ _ h => h) (Or.inl ⟨by rfl, ?_⟩) hHeld ?_ ?_
  rotate_left
  ·
   rintro w' ⟨s0, s1, s2, s3⟩
   go_simp
   with_reducible rfl
  rotate_left
  ·
   simp only [Act.put, ηm, ηn, ηo, i64_w, i32_w]
   rfl
  refine join_ (σ := Value × Value) 2 #[true, true, true, true, false, false] (fun s_ => [(8, s_.1), (10, s_.2)]) (fun s_ w' => (w'.cell? ⟨gb182, 0, none⟩ = some (.int .i64 a1_0) ∧ w'.cell? ⟨gb182, 1, none⟩ = some (.int .i64 a1_1) ∧ w'.cell? ⟨gb182, 2, none⟩ = some (.int .i64 a1_2) ∧ w'.cell? ⟨gb182, 3, none⟩ = some (.bool a1_3)) ∧ (Kd.R k37 37 w' w.heap.size (fun k_ => some k_ ≠ (s_.2 : Value).ownBlock ∧ k_ ≠ gb182) s_.1 t183) ∧ (Kd.R k37 37 w' w.heap.size (fun k_ => some k_ ≠ (s_.1 : Value).ownBlock ∧ k_ ≠ gb182) s_.2 y186) ∧ (w'.heap[gb182]? = some (.cells #[.int .i64 a1_0, .int .i64 a1_1, .int .i64 a1_2, .bool a1_3] 37 (0, 0))) ∧ (Below w.heap.size w w')) ?_ ?_
  rotate_left
  ·
   intro hCont
   refine two_ (i := 1) (j := 3) (Ni := some 8) (Nj := some 10) #[true, true, true, false, false, false] #[true, false, true, true, false, false] rfl rfl rfl rfl (by kernel_rfl) (by decide) (by decide) (fun K hK => ?_) (fun K hK => ?_)
   ·
    skip
    refine goes_ Try.func67 (by kernel_rfl) rfl #[.slice A0 l0.length c0] (by rfl) rfl rfl (by (try simp only [List.map_toArray, List.map_cons, List.map_nil]); first | done | rfl | (simp only [List.length_drop, List.length_take]; rfl)) ?_
    with_reducible refine (impl_Source_67.calls _ _ l0 t183 _ ?side1 ?side2 A3.out).mono ?_
    (case side1 => repeat (first | exact (Kd.C_below HR0.out HB.out) | (with_reducible refine Kd.C_alloc ?_ _) | (with_reducible refine Kd.C_drewN ?_ _) | (with_reducible refine Kd.C_drew ?_)))
    (case side2 => exact HC0.out)
    rintro e w20 ⟨v184, rfl, ho0, hb⟩
    refine ⟨_, rfl, ?_⟩
    have n0_ := ηp (Kd.R_lower (Kd.R_newB ho0 (g := gb182) (o := .cells #[.int .i64 a1_0, .int .i64 a1_1, .int .i64 a1_2, .bool a1_3] 37 (0, 0)) (by (with_reducible repeat (first | refine ηa ?_ _ | refine ηc ?_ | refine ηb ?_ _)); exact BK182.out)) (below_size (by repeat (first | (with_reducible first | exact HB.out | apply ηj | apply ηh | apply ηi | refine ηg ?_ GE182.out) | exact HB.out))))
    have n1_ := ηp (blk_below (g := gb182) (o := .cells #[.int .i64 a1_0, .int .i64 a1_1, .int .i64 a1_2, .bool a1_3] 37 (0, 0)) (by (with_reducible repeat (first | refine ηa ?_ _ | refine ηc ?_ | refine ηb ?_ _)); exact BK182.out) hb)
    have n2_ := ηp (below_step (by repeat (first | (with_reducible first | exact HB.out | apply ηj | apply ηh | apply ηi | refine ηg ?_ GE182.out) | exact HB.out)) hb)
    clear BK182
    clear HB
    have HO185 := n0_
    have BK182 := n1_
    have HB := n2_
    clear n0_ n1_ n2_
    (try clear hb)
    (try clear hb2)
    (try clear hk)
    (try clear hi)
    (try clear ho0)
    refine hK.out _ _ ⟨(ηk BK182.out 0).trans rfl, (ηk BK182.out 1).trans rfl, (ηk BK182.out 2).trans rfl, (ηk BK182.out 3).trans rfl⟩ (fun hHeld => ?_)
    clear hK K
    refine norm_ (a' := ?_) ?_ ?_
    rotate_left
    ·
     show Act.put _ (some 8) _ = _
     simp only [Act.put, ηm, ηn, ηo, i64_w, i32_w]
     rfl
    refine one_ (i := 3) (N := some 10) #[true, true, true, true, false, false] rfl rfl (by kernel_rfl) (by decide) (fun K hK => ?_)
    refine Kd.R_lit_step k37 _ 37 ?hg (N := 10) ?hd (xs := ([(⟨a1_0, a1_1, a1_2, a1_3⟩ : S37)] : List (S37))) (inner := [.int .i64 a1_0, .int .i64 a1_1, .int .i64 a1_2, .bool a1_3]) (ok := fun _ => True) (okp := fun _ => True) ?hr ?hp (fun _ hk => hk) trivial (Below.refl _ _) (Nat.le_refl _) (by simp) ?_; (case hd => rfl); (case hg => rfl); (case hr => first | (go_simp; done) | (go_simp; rfl)); (case hp => exact (Reps.c4 (show Kd.M k37 _ _ _ (⟨a1_0, a1_1, a1_2, a1_3⟩ : S37) [.int .i64 a1_0, .int .i64 a1_1, .int .i64 a1_2, .bool a1_3] from (k37_mkM _ _ _ (⟨a1_0, a1_1, a1_2, a1_3⟩ : S37) )) (Reps.none _ _)))
    intro v187 w21 ho22 hb hg_ hnew_
    clear hg_ hnew_
    (first | rw [← Ny186.out] at ho22 | (simp only [Int.reduceToNat] at ho22; rw [← Ny186.out] at ho22))
    have n0_ := ηp (Kd.R_elder' (by (with_reducible repeat (first | apply ηd | apply ηe | apply ηf)); exact HO185.out) (Kd.R_base ho22) hb)
    have n1_ := ηp (Kd.R_lower (Kd.R_newB (Kd.R_new' ho22 (Kd.R_lt (by (with_reducible repeat (first | apply ηd | apply ηe | apply ηf)); exact HO185.out))) (g := gb182) (o := .cells #[.int .i64 a1_0, .int .i64 a1_1, .int .i64 a1_2, .bool a1_3] 37 (0, 0)) (by (with_reducible repeat (first | refine ηa ?_ _ | refine ηc ?_ | refine ηb ?_ _)); exact BK182.out)) (below_size (by repeat (first | (with_reducible first | exact HB.out | apply ηj | apply ηh | apply ηi | refine ηg ?_ GE182.out) | exact HB.out))))
    have n2_ := ηp (blk_below (g := gb182) (o := .cells #[.int .i64 a1_0, .int .i64 a1_1, .int .i64 a1_2, .bool a1_3] 37 (0, 0)) (by (with_reducible repeat (first | refine ηa ?_ _ | refine ηc ?_ | refine ηb ?_ _)); exact BK182.out) hb)
    have n3_ := ηp (below_step (by repeat (first | (with_reducible first | exact HB.out | apply ηj | apply ηh | apply ηi | refine ηg ?_ GE182.out) | exact HB.out)) hb)
    clear HO185
    clear BK182
    clear HB
    have HO185 := n0_
    have HO188 := n1_
    have BK182 := n2_
    have HB := n3_
    clear n0_ n1_ n2_ n3_
    clear hb ho22
    refine hK.out _ _ ⟨(ηk BK182.out 0).trans rfl, (ηk BK182.out 1).trans rfl, (ηk BK182.out 2).trans rfl, (ηk BK182.out 3).trans rfl⟩ (fun hHeld => ?_)
    clear hK K
    refine norm_ (a' := ?_) ?_ ?_
    rotate_left
    ·
     show Act.put _ (some 10) _ = _
     simp only [Act.put, ηm, ηn, ηo, i64_w, i32_w]
     rfl
    exact norm_ (by simp only [putAll, Act.put, ηm, ηn, ηo]) (hCont (v184, v187) _ ⟨hHeld, (by (with_reducible repeat (first | apply ηd | apply ηe | apply ηf)); exact Kd.R_mono HO185.out (fun _ hk => ⟨hk.2, hk.1.2⟩)), (by (with_reducible repeat (first | apply ηd | apply ηe | apply ηf)); exact Kd.R_mono HO188.out (fun _ hk => ⟨hk.1.2, hk.2⟩)), (by (with_reducible repeat (first | refine ηa ?_ _ | refine ηc ?_ | refine ηb ?_ _)); exact BK182.out), (by repeat (first | (with_reducible first | exact HB.out | apply ηj | apply ηh | apply ηi | refine ηg ?_ GE182.out) | exact HB.out))⟩)
   skip
   refine Kd.R_lit_step k37 _ 37 ?hg (N := 10) ?hd (xs := ([(⟨a1_0, a1_1, a1_2, a1_3⟩ : S37)] : List (S37))) (inner := [.int .i64 a1_0, .int .i64 a1_1, .int .i64 a1_2, .bool a1_3]) (ok := fun _ => True) (okp := fun _ => True) ?hr ?hp (fun _ hk => hk) trivial (Below.refl _ _) (Nat.le_refl _) (by simp) ?_; (case hd => rfl); (case hg => rfl); (case hr => first | (go_simp; done) | (go_simp; rfl)); (case hp => exact (Reps.c4 (show Kd.M k37 _ _ _ (⟨a1_0, a1_1, a1_2, a1_3⟩ : S37) [.int .i64 a1_0, .int .i64 a1_1, .int .i64 a1_2, .bool a1_3] from (k37_mkM _ _ _ (⟨a1_0, a1_1, a1_2, a1_3⟩ : S37) )) (Reps.none _ _)))
   intro v187 w20 ho21 hb hg_ hnew_
   clear hg_ hnew_
   (first | rw [← Ny186.out] at ho21 | (simp only [Int.reduceToNat] at ho21; rw [← Ny186.out] at ho21))
   have n0_ := ηp (Kd.R_lower (Kd.R_newB ho21 (g := gb182) (o := .cells #[.int .i64 a1_0, .int .i64 a1_1, .int .i64 a1_2, .bool a1_3] 37 (0, 0)) (by (with_reducible repeat (first | refine ηa ?_ _ | refine ηc ?_ | refine ηb ?_ _)); exact BK182.out)) (below_size (by repeat (first | (with_reducible first | exact HB.out | apply ηj | apply ηh | apply ηi | refine ηg ?_ GE182.out) | exact HB.out))))
   have n1_ := ηp (blk_below (g := gb182) (o := .cells #[.int .i64 a1_0, .int .i64 a1_1, .int .i64 a1_2, .bool a1_3] 37 (0, 0)) (by (with_reducible repeat (first | refine ηa ?_ _ | refine ηc ?_ | refine ηb ?_ _)); exact BK182.out) hb)
   have n2_ := ηp (below_step (by repeat (first | (with_reducible first | exact HB.out | apply ηj | apply ηh | apply ηi | refine ηg ?_ GE182.out) | exact HB.out)) hb)
   clear BK182
   clear HB
   have HO188 := n0_
   have BK182 := n1_
   have HB := n2_
   clear n0_ n1_ n2_
   clear hb ho21
   refine hK.out _ _ ⟨(ηk BK182.out 0).trans rfl, (ηk BK182.out 1).trans rfl, (ηk BK182.out 2).trans rfl, (ηk BK182.out 3).trans rfl⟩ (fun hHeld => ?_)
   clear hK K
   refine norm_ (a' := ?_) ?_ ?_
   rotate_left
   ·
    show Act.put _ (some 10) _ = _
    simp only [Act.put, ηm, ηn, ηo, i64_w, i32_w]
    rfl
   refine one_ (i := 1) (N := some 8) #[true, true, true, true, false, false] rfl rfl (by kernel_rfl) (by decide) (fun K hK => ?_)
   refine goes_ Try.func67 (by kernel_rfl) rfl #[.slice A0 l0.length c0] (by rfl) rfl rfl (by (try simp only [List.map_toArray, List.map_cons, List.map_nil]); first | done | rfl | (simp only [List.length_drop, List.length_take]; rfl)) ?_
   with_reducible refine (impl_Source_67.calls _ _ l0 t183 _ ?side1 ?side2 A3.out).mono ?_
   (case side1 => repeat (first | exact (Kd.C_below HR0.out HB.out) | (with_reducible refine Kd.C_alloc ?_ _) | (with_reducible refine Kd.C_drewN ?_ _) | (with_reducible refine Kd.C_drew ?_)))
   (case side2 => exact HC0.out)
   rintro e w22 ⟨v184, rfl, ho0, hb⟩
   refine ⟨_, rfl, ?_⟩
   have n0_ := ηp (Kd.R_elder' (by (with_reducible repeat (first | apply ηd | apply ηe | apply ηf)); exact HO188.out) (Kd.R_base ho0) hb)
   have n1_ := ηp (Kd.R_lower (Kd.R_newB (Kd.R_new' ho0 (Kd.R_lt (by (with_reducible repeat (first | apply ηd | apply ηe | apply ηf)); exact HO188.out))) (g := gb182) (o := .cells #[.int .i64 a1_0, .int .i64 a1_1, .int .i64 a1_2, .bool a1_3] 37 (0, 0)) (by (with_reducible repeat (first | refine ηa ?_ _ | refine ηc ?_ | refine ηb ?_ _)); exact BK182.out)) (below_size (by repeat (first | (with_reducible first | exact HB.out | apply ηj | apply ηh | apply ηi | refine ηg ?_ GE182.out) | exact HB.out))))
   have n2_ := ηp (blk_below (g := gb182) (o := .cells #[.int .i64 a1_0, .int .i64 a1_1, .int .i64 a1_2, .bool a1_3] 37 (0, 0)) (by (with_reducible repeat (first | refine ηa ?_ _ | refine ηc ?_ | refine ηb ?_ _)); exact BK182.out) hb)
   have n3_ := ηp (below_step (by repeat (first | (with_reducible first | exact HB.out | apply ηj | apply ηh | apply ηi | refine ηg ?_ GE182.out) | exact HB.out)) hb)
   clear HO188
   clear BK182
   clear HB
   have HO188 := n0_
   have HO185 := n1_
   have BK182 := n2_
   have HB := n3_
   clear n0_ n1_ n2_ n3_
   (try clear hb)
   (try clear hb2)
   (try clear hk)
   (try clear hi)
   (try clear ho0)
   refine hK.out _ _ ⟨(ηk BK182.out 0).trans rfl, (ηk BK182.out 1).trans rfl, (ηk BK182.out 2).trans rfl, (ηk BK182.out 3).trans rfl⟩ (fun hHeld => ?_)
   clear hK K
   refine norm_ (a' := ?_) ?_ ?_
   rotate_left
   ·
    show Act.put _ (some 8) _ = _
    simp only [Act.put, ηm, ηn, ηo, i64_w, i32_w]
    rfl
   exact norm_ (by simp only [putAll, Act.put, ηm, ηn, ηo]) (hCont (v184, v187) _ ⟨hHeld, (by (with_reducible repeat (first | apply ηd | apply ηe | apply ηf)); exact Kd.R_mono HO185.out (fun _ hk => ⟨hk.1.2, hk.2⟩)), (by (with_reducible repeat (first | apply ηd | apply ηe | apply ηf)); exact Kd.R_mono HO188.out (fun _ hk => ⟨hk.2, hk.1.2⟩)), (by (with_reducible repeat (first | refine ηa ?_ _ | refine ηc ?_ | refine ηb ?_ _)); exact BK182.out), (by repeat (first | (with_reducible first | exact HB.out | apply ηj | apply ηh | apply ηi | refine ηg ?_ GE182.out) | exact HB.out))⟩)
  rintro ⟨v184, v187⟩ w23 ⟨hS_, h0_, h1_, h2_, h3_⟩
  have n0_ : Aside0 (Kd.R k37 37 w23 w.heap.size (fun k_ => some k_ ≠ (v187 : Value).ownBlock ∧ k_ ≠ gb182) v184 t183) := ⟨h0_⟩
  have n1_ : Aside0 (Kd.R k37 37 w23 w.heap.size (fun k_ => some k_ ≠ (v184 : Value).ownBlock ∧ k_ ≠ gb182) v187 y186) := ⟨h1_⟩
  have n2_ : Aside0 (w23.heap[gb182]? = some (.cells #[.int .i64 a1_0, .int .i64 a1_1, .int .i64 a1_2, .bool a1_3] 37 (0, 0))) := ⟨h2_⟩
  have n3_ : Aside0 (Below w.heap.size w w23) := ⟨h3_⟩
  clear BK182
  clear HB
  clear h0_ h1_ h2_ h3_
  have HO185 := n0_
  have HO188 := n1_
  have BK182 := n2_
  have HB := n3_
  clear n0_ n1_ n2_ n3_
  have hHeld : w23.cell? ⟨gb182, 0, none⟩ = some (.int .i64 a1_0) ∧ w23.cell? ⟨gb182, 1, none⟩ = some (.int .i64 a1_1) ∧ w23.cell? ⟨gb182, 2, none⟩ = some (.int .i64 a1_2) ∧ w23.cell? ⟨gb182, 3, none⟩ = some (.bool a1_3) := hS_
  obtain ⟨Ao25, co25, eo25⟩ := Kd.R_slice HO188.out
  (first | subst eo25 | (injection eo25 with f1_ f2_ f3_; have f4_ := f1_.symm; have f5_ := f3_.symm; clear f1_ f2_ f3_; subst f4_; subst f5_))
  refine norm_ (a' := ?_) ?_ ?_
  rotate_left
  ·
   simp only [putAll, Act.put, ηm, ηn, ηo]
   rfl
  refine one_ (i := 4) (N := some 11) #[true, true, true, true, true, false] rfl rfl (by kernel_rfl) (by decide) (fun K hK => ?_)
  refine Kd.R_append_rows_step k37 (w0 := w) w.heap.size (by rfl) (.tmp 8) (.tmp 10) 25 37 (.agg #[(.int .i64 0), (.int .i64 0), (.int .i64 0), (.bool false)]) 32 rfl Try.underlying25 info37 rfl (by decide) (by omega) v184 t183 y186 _ _ _ (fun k_ => some k_ ≠ (.slice Ao25 y186.length co25 : Value).ownBlock ∧ k_ ≠ gb182) (fun _ => False) rfl rfl ?aO ?aR (fun _ _ h => h) (fun _ h => h.elim) ?aF ?aB ?aS ?aL ?_
  (case aR => repeat (first | exact (Kd.R_reads' HO188.out).2.2 | (with_reducible refine Kd.C_alloc ?_ _) | (with_reducible refine Kd.C_drewN ?_ _) | (with_reducible refine Kd.C_drew ?_)))
  (case aB => exact (by repeat (first | (with_reducible first | exact HB.out | apply ηj | apply ηh | apply ηi | refine ηg ?_ GE182.out) | exact HB.out)))
  (case aF => exact (fun k_ hk => ⟨Kd.fresh' (Kd.R_lt (by (with_reducible repeat (first | apply ηd | apply ηe | apply ηf)); exact HO188.out)) k_ hk, Kd.freshB (g := gb182) (o := .cells #[.int .i64 a1_0, .int .i64 a1_1, .int .i64 a1_2, .bool a1_3] 37 (0, 0)) (by (with_reducible repeat (first | refine ηa ?_ _ | refine ηc ?_ | refine ηb ?_ _)); exact BK182.out) k_ hk⟩))
  (case aO => exact (by (with_reducible repeat (first | apply ηd | apply ηe | apply ηf)); exact HO185.out))
  (case aS => exact (below_size (by repeat (first | (with_reducible first | exact HB.out | apply ηj | apply ηh | apply ηi | refine ηg ?_ GE182.out) | exact HB.out))))
  (case aL => have := LMc4.out; omega)
  intro v190 w24 ho hb hg hat
  rw [← Ny189.out] at ho
  have n0_ := ηp (blk_grown (g := gb182) (o := .cells #[.int .i64 a1_0, .int .i64 a1_1, .int .i64 a1_2, .bool a1_3] 37 (0, 0)) (by (with_reducible repeat (first | refine ηa ?_ _ | refine ηc ?_ | refine ηb ?_ _)); exact BK182.out) hg (Kd.R_away HO185.out (fun _ hk => hk.2)))
  have n1_ := ηp (Kd.R_after (ok := (fun k_ => k_ ≠ gb182)) (by (with_reducible repeat (first | apply ηd | apply ηe | apply ηf)); exact Kd.R_mono HO188.out (fun _ hk => ⟨hk.2, hk.1⟩)) hg hat)
  have n2_ := ηp (hb)
  have n3_ := ηp (ho)
  clear BK182
  clear HO188
  clear HB
  clear HO185
  have BK182 := n0_
  have HO188 := n1_
  have HB := n2_
  have HO191 := n3_
  clear n0_ n1_ n2_ n3_
  clear ho hb hg hat
  refine hK.out _ _ ⟨(ηk BK182.out 0).trans rfl, (ηk BK182.out 1).trans rfl, (ηk BK182.out 2).trans rfl, (ηk BK182.out 3).trans rfl⟩ (fun hHeld => ?_)
  clear hK K
  refine norm_ (a' := ?_) ?_ ?_
  rotate_left
  ·
   show Act.put _ (some 11) _ = _
   simp only [Act.put, ηm, ηn, ηo, i64_w, i32_w]
   rfl
  refine pure_ (i := 5) (N := some 6) (v := ?_) (a' := ?_) #[true, true, true, true, true, true] rfl rfl (by kernel_rfl) (fun _ _ _ h => h) (Or.inl ⟨by rfl, ?_⟩) ?_ ?_
  rotate_left; · (intro w'; go_simp; with_reducible rfl)
  rotate_left; · (simp only [Act.put, ηm, ηn, ηo, i64_w, i32_w]; rfl)
  refine done_ (by kernel_rfl) ?_
  obtain ⟨Ao26, co26, eo26⟩ := Kd.R_slice HO191.out
  subst eo26
  try go_wp2_with (first | ((with_reducible refine gate_callee (f := 18) rfl ?_); refine goesL_ (some 13) rfl rfl Try.func18 (by kernel_rfl) rfl #[.slice Ao26 y189.length co26] rfl (by (try simp only [List.map_toArray, List.map_cons, List.map_nil]); first | done | rfl | (simp only [List.length_drop, List.length_take]; rfl)) ?_; (with_reducible refine (impl_AreSources.calls k _ _ y189 false _ ?side1 ?side2 A5.out).mono ?_); (case side1 => repeat (first | exact (Kd.R_reads' HO191.out).2.2 | (with_reducible refine Kd.C_alloc ?_ _) | (with_reducible refine Kd.C_drewN ?_ _) | (with_reducible refine Kd.C_drew ?_))); (case side2 => exact (Kd.R_reads' HO191.out).2.1); rintro e w27 ⟨rfl, hb⟩; refine ⟨_, rfl, ?_⟩; have n0_ := ηp (Kd.R_below (by (with_reducible repeat (first | apply ηd | apply ηe | apply ηf)); exact HO188.out) hb); have n1_ := ηp (Kd.R_below (by (with_reducible repeat (first | apply ηd | apply ηe | apply ηf)); exact HO191.out) hb); have n2_ := ηp (blk_below (g := gb182) (o := .cells #[.int .i64 a1_0, .int .i64 a1_1, .int .i64 a1_2, .bool a1_3] 37 (0, 0)) (by (with_reducible repeat (first | refine ηa ?_ _ | refine ηc ?_ | refine ηb ?_ _)); exact BK182.out) hb); have n3_ := ηp (below_step (by repeat (first | (with_reducible first | exact HB.out | apply ηj | apply ηh | apply ηi | refine ηg ?_ GE182.out) | exact HB.out)) hb); clear HO188; clear HO191; clear BK182; clear HB; have HO188 := n0_; have HO191 := n1_; have BK182 := n2_; have HB := n3_; clear n0_ n1_ n2_ n3_; (try clear hb); (try clear hb2); (try clear hk); (try clear hi)) | ((with_reducible refine gate_callee (f := 67) rfl ?_); refine goesL_ (some 16) rfl rfl Try.func67 (by kernel_rfl) rfl #[.slice A0 l0.length c0] rfl (by (try simp only [List.map_toArray, List.map_cons, List.map_nil]); first | done | rfl | (simp only [List.length_drop, List.length_take]; rfl)) ?_; (with_reducible refine (impl_Source_67.calls _ _ l0 t193 _ ?side1 ?side2 A17.out).mono ?_); (case side1 => repeat (first | exact (Kd.C_below HR0.out HB.out) | (with_reducible refine Kd.C_alloc ?_ _) | (with_reducible refine Kd.C_drewN ?_ _) | (with_reducible refine Kd.C_drew ?_))); (case side2 => exact HC0.out); rintro e w28 ⟨v194, rfl, ho0, hb⟩; refine ⟨_, rfl, ?_⟩; have n0_ := ηp (Kd.R_elder' (by (with_reducible repeat (first | apply ηd | apply ηe | apply ηf)); exact HO188.out) (Kd.R_base ho0) hb); have n1_ := ηp (Kd.R_elder' (by (with_reducible repeat (first | apply ηd | apply ηe | apply ηf)); exact HO191.out) (Kd.R_base ho0) hb); have n2_ := ηp (Kd.R_lower (Kd.R_newB (Kd.R_new' (Kd.R_new' ho0 (Kd.R_lt (by (with_reducible repeat (first | apply ηd | apply ηe | apply ηf)); exact HO188.out))) (Kd.R_lt (by (with_reducible repeat (first | apply ηd | apply ηe | apply ηf)); exact HO191.out))) (g := gb182) (o := .cells #[.int .i64 a1_0, .int .i64 a1_1, .int .i64 a1_2, .bool a1_3] 37 (0, 0)) (by (with_reducible repeat (first | refine ηa ?_ _ | refine ηc ?_ | refine ηb ?_ _)); exact BK182.out)) (below_size (by repeat (first | (with_reducible first | exact HB.out | apply ηj | apply ηh | apply ηi | refine ηg ?_ GE182.out) | exact HB.out)))); have n3_ := ηp (blk_below (g := gb182) (o := .cells #[.int .i64 a1_0, .int .i64 a1_1, .int .i64 a1_2, .bool a1_3] 37 (0, 0)) (by (with_reducible repeat (first | refine ηa ?_ _ | refine ηc ?_ | refine ηb ?_ _)); exact BK182.out) hb); have n4_ := ηp (below_step (by repeat (first | (with_reducible first | exact HB.out | apply ηj | apply ηh | apply ηi | refine ηg ?_ GE182.out) | exact HB.out)) hb); clear HO188; clear HO191; clear BK182; clear HB; have HO188 := n0_; have HO191 := n1_; have HO195 := n2_; have BK182 := n3_; have HB := n4_; clear n0_ n1_ n2_ n3_ n4_; (try clear hb); (try clear hb2); (try clear hk); (try clear hi); (try clear ho0)))
  go_ret2
  exact ⟨_, by first | rfl | (simp [errW_none, errW_some] <;> rfl) | (simp [*, errW_none, errW_some] <;> rfl), by (with_reducible repeat (first | apply ηd | apply ηe | apply ηf)); exact Kd.R_mono HO195.out (fun _ hk => trivial), by repeat (first | (with_reducible first | exact HB.out | apply ηj | apply ηh | apply ηi | refine ηg ?_ GE182.out) | exact HB.out)⟩
 rw [if_neg c4] at H
 exact absurd H (by simp)

/-! ### laws_markSourceS: function 29 -/
def laws_markSourceS.l0 : Nat → List (S37) → Int → Int → Option (Int × (List (S37)))
 | 0, _, _, _ => none
 | k + 1, x0, x1, x5 => if x5 < (x0.length : Int) then (if 0 ≤ x5 then ((some (x0.set (x5 : Int).toNat (⟨x1, (rd_T37 x0 x5).f1, (rd_T37 x0 x5).f2, (rd_T37 x0 x5).f3⟩ : S37) : List (S37))).bind fun y196 => ((some (y196.set (x5 : Int).toNat (⟨(rd_T37 y196 x5).f0, wrap64 (x1 + 1), (rd_T37 y196 x5).f2, (rd_T37 y196 x5).f3⟩ : S37) : List (S37))).bind fun y197 => ((some (y197.set (x5 : Int).toNat (⟨(rd_T37 y197 x5).f0, (rd_T37 y197 x5).f1, wrap64 ((wrap64 (x1 + 1)) + 1), (rd_T37 y197 x5).f3⟩ : S37) : List (S37))).bind fun y198 => (laws_markSourceS.l0 k (y198.set (x5 : Int).toNat (⟨(rd_T37 y198 x5).f0, (rd_T37 y198 x5).f1, (rd_T37 y198 x5).f2, ((Int.tmod (wrap64 ((wrap64 ((wrap64 (x1 + 1)) + 1)) + 1)) 3) == 0)⟩ : S37)) (wrap64 ((wrap64 ((wrap64 ((wrap64 (x1 + 1)) + 1)) + 1)) + 1)) (wrap64 (x5 + 1)))))) else (none)) else (some (x1, x0))
def laws_markSourceS.f (k : Nat) (l0 : List (S37)) (a1 : Int) : Option (Int × (List (S37))) := laws_markSourceS.l0 k l0 a1 0
theorem laws_markSourceS.mono_l : ∀ k, (∀ y0 y1 y2, LeO (laws_markSourceS.l0 k y0 y1 y2) (laws_markSourceS.l0 (k + 1) y0 y1 y2))
 | 0 => fun _ _ _ r h => by simp [laws_markSourceS.l0] at h
 | k + 1 => by
  have ih0 := laws_markSourceS.mono_l k
  intro y0 y1 y2
  unfold laws_markSourceS.l0
  repeat' first
  | (with_reducible exact ih0 _ _ _)
  | (with_reducible exact LeO.refl _)
  | (with_reducible exact LeO.none _)
  | (with_reducible refine LeO.ite ?_ ?_)
  | (with_reducible refine LeO.bind ?_ (fun _ => ?_))
  | exact ih0 _ _ _
  | exact LeO.none _
  | refine LeO.ite ?_ ?_
  | refine LeO.bind ?_ (fun _ => ?_)
theorem laws_markSourceS.mono : ∀ a0 a1 k, LeO (laws_markSourceS.f k a0 a1) (laws_markSourceS.f (k + 1) a0 a1) := by
 intro a0 a1 k
 have ih0 := laws_markSourceS.mono_l k
 unfold laws_markSourceS.f
 repeat' first
   | (with_reducible exact ih0 _ _ _)
   | (with_reducible exact LeO.refl _)
   | (with_reducible exact LeO.none _)
   | (with_reducible refine LeO.ite ?_ ?_)
   | (with_reducible refine LeO.bind ?_ (fun _ => ?_))
   | exact ih0 _ _ _
   | exact LeO.none _
   | refine LeO.ite ?_ ?_
   | refine LeO.bind ?_ (fun _ => ?_)
set_option maxHeartbeats 8000000 in
set_option maxRecDepth 100000 in
theorem laws_markSourceS.calls (k : Nat) (P0_ : Nat → Prop) (u9000_ : Value) (l0 : List (S37)) (a1 : Int) (r1 : Int) (r2 : List (S37)) (w0 w : World) (hB : Below w0.heap.size w0 w) (ho0 : Kd.R k37 37 w w0.heap.size P0_ u9000_ l0) (h : laws_markSourceS.f k l0 a1 = some (r1, r2)) :
  Calls Try.prog 29 #[u9000_, .int .i64 a1] w fun e w' => e = .returned (.int .i64 r1) ∧ Kd.R k37 37 w' w0.heap.size (fun k_ => (P0_ k_ ∨ w.heap.size ≤ k_)) u9000_ r2 ∧ Below w0.heap.size w0 w' ∧ Kept w w' (fun k_ => P0_ k_) := by
 have HO0 := ηp (show Kd.R k37 37 w w0.heap.size (fun k_ => (P0_ k_ ∨ w.heap.size ≤ k_)) u9000_ l0 from Kd.R_mono ho0 (fun k_ hk => (.inl hk)))
 have HK := ηp (Kept.refl w (fun k_ => P0_ k_))
 have HW0 := ηp hB.size
 have HB := ηp hB
 clear hB
 have H : (laws_markSourceS.l0 k l0 a1 0) = some (r1, r2) := h
 clear h
 have H' := ηp H
 clear H
 go_enter Try.func29, Try.ntmps29
 go_wp2
 go_loopg [1, 5] k (fun kq v1 v5 w' => ∃ (x0_1 : List (S37)) (x1_1 : Int) (x5_1 : Int), v1 = .int .i64 x1_1 ∧ v5 = .int .i64 x5_1 ∧ Aside0 (laws_markSourceS.l0 kq x0_1 x1_1 x5_1 = some (r1, r2)) ∧ Aside0 (kq ≤ k) ∧ Aside0 (Kd.R k37 37 w' w0.heap.size (fun k_ => (P0_ k_ ∨ w.heap.size ≤ k_)) u9000_ x0_1) ∧ Aside0 (Kept w w' (fun k_ => P0_ k_)) ∧ Aside0 (Below w0.heap.size w0 w'))
 case atStart => exact ⟨(l0), (a1), (0), (by first | rfl | (simp; done) | (simp [*]; done)), (by first | rfl | (simp; done) | (simp [*]; done)), H', ⟨Nat.le_refl _⟩, ⟨by (with_reducible repeat (first | apply ηd | apply ηe | apply ηf)); exact HO0.out⟩, ⟨by repeat (first | (with_reducible first | exact HK.out | apply Kept.alloc | apply Kept.drewN | apply Kept.drew) | exact HK.out)⟩, ⟨by repeat (first | (with_reducible first | exact HB.out | apply ηj | apply ηh | apply ηi) | exact HB.out)⟩⟩
 case round =>
  clear H'
  try clear c2
  try clear p2
  obtain ⟨x0_1, x1_1, x5_1, rfl, rfl, HA, HK1, HO_0, HK, HB⟩ := hrel
  cases gk with
  | zero => exact absurd HA.out (by simp [laws_markSourceS.l0])
  | succ k1 =>
   have H := HA.out
   clear HA
   simp only [laws_markSourceS.l0] at H
   by_cases c3 : x5_1 < (x0_1.length : Int)
   ·
    rw [if_pos c3] at H
    have c3b0 : decide (x5_1 < (x0_1.length : Int)) = true := decide_eq_true c3
    clear c3
    by_cases c4 : 0 ≤ x5_1
    ·
     rw [if_pos c4] at H
     have c4b0 : decide (0 ≤ x5_1) = true := decide_eq_true c4
     clear c4
     obtain ⟨y196, hy196⟩ : ∃ y_ : List (S37), y_ = (x0_1.set (x5_1 : Int).toNat (⟨x1_1, (rd_T37 x0_1 x5_1).f1, (rd_T37 x0_1 x5_1).f2, (rd_T37 x0_1 x5_1).f3⟩ : S37)) := ⟨_, rfl⟩
     replace H : ((some (y196.set (x5_1 : Int).toNat (⟨(rd_T37 y196 x5_1).f0, wrap64 (x1_1 + 1), (rd_T37 y196 x5_1).f2, (rd_T37 y196 x5_1).f3⟩ : S37) : List (S37))).bind fun y197 => ((some (y197.set (x5_1 : Int).toNat (⟨(rd_T37 y197 x5_1).f0, (rd_T37 y197 x5_1).f1, wrap64 ((wrap64 (x1_1 + 1)) + 1), (rd_T37 y197 x5_1).f3⟩ : S37) : List (S37))).bind fun y198 => (laws_markSourceS.l0 k1 (y198.set (x5_1 : Int).toNat (⟨(rd_T37 y198 x5_1).f0, (rd_T37 y198 x5_1).f1, (rd_T37 y198 x5_1).f2, ((Int.tmod (wrap64 ((wrap64 ((wrap64 (x1_1 + 1)) + 1)) + 1)) 3) == 0)⟩ : S37)) (wrap64 ((wrap64 ((wrap64 ((wrap64 (x1_1 + 1)) + 1)) + 1)) + 1)) (wrap64 (x5_1 + 1))))) = some (r1, r2) := by first | (rw [hy196]; with_reducible exact H) | (have H2_ := (Option.bind_some _ _).symm.trans H; rw [hy196]; with_reducible exact H2_) | (have H2_ := (Option.bind_some _ _).symm.trans H; with_reducible exact H2_) | with_reducible exact H | (rw [hy196]; exact H) | exact H
     have Ny196 := ηp hy196
     clear hy196
     obtain ⟨y197, hy197⟩ : ∃ y_ : List (S37), y_ = (y196.set (x5_1 : Int).toNat (⟨(rd_T37 y196 x5_1).f0, wrap64 (x1_1 + 1), (rd_T37 y196 x5_1).f2, (rd_T37 y196 x5_1).f3⟩ : S37)) := ⟨_, rfl⟩
     replace H : ((some (y197.set (x5_1 : Int).toNat (⟨(rd_T37 y197 x5_1).f0, (rd_T37 y197 x5_1).f1, wrap64 ((wrap64 (x1_1 + 1)) + 1), (rd_T37 y197 x5_1).f3⟩ : S37) : List (S37))).bind fun y198 => (laws_markSourceS.l0 k1 (y198.set (x5_1 : Int).toNat (⟨(rd_T37 y198 x5_1).f0, (rd_T37 y198 x5_1).f1, (rd_T37 y198 x5_1).f2, ((Int.tmod (wrap64 ((wrap64 ((wrap64 (x1_1 + 1)) + 1)) + 1)) 3) == 0)⟩ : S37)) (wrap64 ((wrap64 ((wrap64 ((wrap64 (x1_1 + 1)) + 1)) + 1)) + 1)) (wrap64 (x5_1 + 1)))) = some (r1, r2) := by first | (rw [hy197]; with_reducible exact H) | (have H2_ := (Option.bind_some _ _).symm.trans H; rw [hy197]; with_reducible exact H2_) | (have H2_ := (Option.bind_some _ _).symm.trans H; with_reducible exact H2_) | with_reducible exact H | (rw [hy197]; exact H) | exact H
     have Ny197 := ηp hy197
     clear hy197
     obtain ⟨y198, hy198⟩ : ∃ y_ : List (S37), y_ = (y197.set (x5_1 : Int).toNat (⟨(rd_T37 y197 x5_1).f0, (rd_T37 y197 x5_1).f1, wrap64 ((wrap64 (x1_1 + 1)) + 1), (rd_T37 y197 x5_1).f3⟩ : S37)) := ⟨_, rfl⟩
     replace H : (laws_markSourceS.l0 k1 (y198.set (x5_1 : Int).toNat (⟨(rd_T37 y198 x5_1).f0, (rd_T37 y198 x5_1).f1, (rd_T37 y198 x5_1).f2, ((Int.tmod (wrap64 ((wrap64 ((wrap64 (x1_1 + 1)) + 1)) + 1)) 3) == 0)⟩ : S37)) (wrap64 ((wrap64 ((wrap64 ((wrap64 (x1_1 + 1)) + 1)) + 1)) + 1)) (wrap64 (x5_1 + 1))) = some (r1, r2) := by first | (rw [hy198]; with_reducible exact H) | (have H2_ := (Option.bind_some _ _).symm.trans H; rw [hy198]; with_reducible exact H2_) | (have H2_ := (Option.bind_some _ _).symm.trans H; with_reducible exact H2_) | with_reducible exact H | (rw [hy198]; exact H) | exact H
     have Ny198 := ηp hy198
     clear hy198
     obtain ⟨y199, hy199⟩ : ∃ y_ : List (S37), y_ = (y198.set (x5_1 : Int).toNat (⟨(rd_T37 y198 x5_1).f0, (rd_T37 y198 x5_1).f1, (rd_T37 y198 x5_1).f2, ((Int.tmod (wrap64 ((wrap64 ((wrap64 (x1_1 + 1)) + 1)) + 1)) 3) == 0)⟩ : S37)) := ⟨_, rfl⟩
     replace H : (laws_markSourceS.l0 k1 y199 (wrap64 ((wrap64 ((wrap64 ((wrap64 (x1_1 + 1)) + 1)) + 1)) + 1)) (wrap64 (x5_1 + 1))) = some (r1, r2) := by first | (rw [hy199]; with_reducible exact H) | (have H2_ := (Option.bind_some _ _).symm.trans H; rw [hy199]; with_reducible exact H2_) | (have H2_ := (Option.bind_some _ _).symm.trans H; with_reducible exact H2_) | with_reducible exact H | (rw [hy199]; exact H) | exact H
     have Ny199 := ηp hy199
     clear hy199
     have H' := ηp H
     clear H
     obtain ⟨Ao9, co9, eo9⟩ := Kd.R_slice HO_0.out
     subst eo9
     have p5 : 0 ≤ (x5_1 : Int) := of_decide_eq_true (by first | (with_reducible assumption) | assumption)
     have q5 : (x5_1 : Int) < ((x0_1.length : Int) : Int) := of_decide_eq_true (by first | (with_reducible assumption) | assumption)
     obtain ⟨go5, co5, eo5, gb5, gl5, cl5, HG5⟩ := Kd.R_form HO_0.out (by omega)
     (first | cases eo5 | (injection eo5 with ea_ en_ ec_; (first | subst ea_ | (injection ea_ with ea_; subst ea_)); subst ec_; clear en_))
     have GB5 := ηp gb5
     have GG5 := ηp HG5
     clear gb5 gl5 HG5
     have HMgo5 := ηp (show (P0_ go5 ∨ w.heap.size ≤ go5) from (HO_0.out.1 _ rfl))
     obtain ⟨ce5, hcl5, hM5, hcc5, hfr5⟩ := Kd.R_elem HO_0.out z37 (x5_1 : Int) p5 q5
     obtain rfl := k37_openM hM5
     have hx5_0 : wr.cell? ⟨go5, (x5_1 : Int).toNat * 4, none⟩ = some (.int .i64 ((rd_T37 x0_1 x5_1).f0)) := hcc5 0 _ rfl
     have hx5_1 : wr.cell? ⟨go5, (x5_1 : Int).toNat * 4 + 1, none⟩ = some (.int .i64 ((rd_T37 x0_1 x5_1).f1)) := hcc5 1 _ rfl
     have hx5_2 : wr.cell? ⟨go5, (x5_1 : Int).toNat * 4 + 2, none⟩ = some (.int .i64 ((rd_T37 x0_1 x5_1).f2)) := hcc5 2 _ rfl
     have hx5_3 : wr.cell? ⟨go5, (x5_1 : Int).toNat * 4 + 3, none⟩ = some (.bool ((rd_T37 x0_1 x5_1).f3)) := hcc5 3 _ rfl
     have hf5_0 : wr.frozen? ⟨go5, (x5_1 : Int).toNat * 4, none⟩ = false := hfr5 0
     have hf5_1 : wr.frozen? ⟨go5, (x5_1 : Int).toNat * 4 + 1, none⟩ = false := hfr5 1
     have hf5_2 : wr.frozen? ⟨go5, (x5_1 : Int).toNat * 4 + 2, none⟩ = false := hfr5 2
     have hf5_3 : wr.frozen? ⟨go5, (x5_1 : Int).toNat * 4 + 3, none⟩ = false := hfr5 3
     clear hcl5 hcc5 hfr5 hM5
     replace p5 := eq_true p5
     replace q5 := eq_true q5
     have HX10 := ηp (show Kd.R k37 37 wr w0.heap.size (fun k_ => (P0_ k_ ∨ w.heap.size ≤ k_)) (.slice (some ⟨go5, 0, none⟩) x0_1.length co9) x0_1 from (by (with_reducible repeat (first | apply ηd | apply ηe | apply ηf)); exact HO_0.out))
     obtain ⟨ce10, hcl10, hM10, hcc10, hfr10⟩ := Kd.R_elem HX10.out z37 (x5_1 : Int) (of_decide_eq_true (by first | (with_reducible assumption) | assumption)) (by have h_ : (x5_1 : Int) < ((x0_1.length : Int) : Int) := of_decide_eq_true (by first | (with_reducible assumption) | assumption); first | exact h_ | (have e_ := (Kd.R_reads' HO_0.out).1; omega) | simpa using h_)
     obtain rfl := k37_openM hM10
     have HP10 := Kd.R_seg HX10.out (x5_1 : Int) (of_decide_eq_true (by first | (with_reducible assumption) | assumption)) (by have h_ : (x5_1 : Int) < ((x0_1.length : Int) : Int) := of_decide_eq_true (by first | (with_reducible assumption) | assumption); first | exact h_ | (have e_ := (Kd.R_reads' HO_0.out).1; omega) | simpa using h_) (seg := [.int .i64 x1_1]) (j := 0) hcl10 hcc10 (show 1 ≤ 4 from by decide) (x' := (⟨x1_1, (rd_T37 x0_1 x5_1).f1, (rd_T37 x0_1 x5_1).f2, (rd_T37 x0_1 x5_1).f3⟩ : S37)) (k37_mkM _ _ _ (⟨x1_1, (rd_T37 x0_1 x5_1).f1, (rd_T37 x0_1 x5_1).f2, (rd_T37 x0_1 x5_1).f3⟩ : S37) ) (fun _ hk => hk)
     have hx10_0 := hcc10 0 _ rfl
     (try simp only [show (k37).sz = 4 from rfl, Nat.mul_one, Nat.add_zero] at hx10_0)
     have hf10_0 := hfr10 0
     (try simp only [show (k37).sz = 4 from rfl, Nat.mul_one, Nat.add_zero] at hf10_0)
     clear hcl10 hcc10 hfr10 hM10
     go_wp2_with (first | ((with_reducible refine gate_store (t := 3) (p := 16) rfl ?_); refine store_event (t := 3) (p := 16) (v := ?vo_w11) (w1 := (wr.setCell ⟨go5, (x5_1 : Int).toNat * 4, none⟩ (.int .i64 x1_1))) ?hg ?ho ?hn ?hr ?_; (case ho => rfl); (case hg => rfl); (case hn => rfl); (case hr => first | (go_simp; done) | (go_simp; rfl)); intro w11 hw; have hg : wr.grownBy w11 (some go5) := (by rw [hw]; exact HP10.2); have hp_ : Kd.R k37 37 w11 w0.heap.size (fun k_ => (P0_ k_ ∨ w.heap.size ≤ k_)) (.slice (some ⟨go5, 0, none⟩) x0_1.length co9) y196 := (by rw [hw, Ny196.out]; exact HP10.1); clear HP10; have n0_ := ηp (hp_); have n1_ := ηp ((by rw [hw]; exact ηg (HB.out) GB5.out : Below w0.heap.size w0 w11)); have n2_ := ηp (Kept.of_grown (S := (fun k_ => P0_ k_)) hg (by repeat (first | (with_reducible first | exact HK.out | apply Kept.alloc | apply Kept.drewN | apply Kept.drew) | exact HK.out)) (fun k_ e_ => (HO_0.out.1 k_ e_))); clear HO_0; clear HB; clear HK; have HO_0 := n0_; have HB := n1_; have HK := n2_; clear n0_ n1_ n2_; clear hg hw hp_; have p6 : 0 ≤ (x5_1 : Int) := of_decide_eq_true (by first | (with_reducible assumption) | assumption); have q6 : (x5_1 : Int) < ((x0_1.length : Int) : Int) := of_decide_eq_true (by first | (with_reducible assumption) | assumption); obtain ⟨ce6, hcl6, hM6, hcc6, hfr6⟩ := Kd.R_elem HO_0.out z37 (x5_1 : Int) p6 q6; obtain rfl := k37_openM hM6; have hx6_0 : w11.cell? ⟨go5, (x5_1 : Int).toNat * 4, none⟩ = some (.int .i64 ((rd_T37 y196 x5_1).f0)) := hcc6 0 _ rfl; have hx6_1 : w11.cell? ⟨go5, (x5_1 : Int).toNat * 4 + 1, none⟩ = some (.int .i64 ((rd_T37 y196 x5_1).f1)) := hcc6 1 _ rfl; have hx6_2 : w11.cell? ⟨go5, (x5_1 : Int).toNat * 4 + 2, none⟩ = some (.int .i64 ((rd_T37 y196 x5_1).f2)) := hcc6 2 _ rfl; have hx6_3 : w11.cell? ⟨go5, (x5_1 : Int).toNat * 4 + 3, none⟩ = some (.bool ((rd_T37 y196 x5_1).f3)) := hcc6 3 _ rfl; have hf6_0 : w11.frozen? ⟨go5, (x5_1 : Int).toNat * 4, none⟩ = false := hfr6 0; have hf6_1 : w11.frozen? ⟨go5, (x5_1 : Int).toNat * 4 + 1, none⟩ = false := hfr6 1; have hf6_2 : w11.frozen? ⟨go5, (x5_1 : Int).toNat * 4 + 2, none⟩ = false := hfr6 2; have hf6_3 : w11.frozen? ⟨go5, (x5_1 : Int).toNat * 4 + 3, none⟩ = false := hfr6 3; clear hcl6 hcc6 hfr6 hM6; replace p6 := eq_true p6; replace q6 := eq_true q6; have HX12 := ηp (show Kd.R k37 37 w11 w0.heap.size (fun k_ => (P0_ k_ ∨ w.heap.size ≤ k_)) (.slice (some ⟨go5, 0, none⟩) x0_1.length co9) y196 from (by (with_reducible repeat (first | apply ηd | apply ηe | apply ηf)); exact HO_0.out)); obtain ⟨ce12, hcl12, hM12, hcc12, hfr12⟩ := Kd.R_elem HX12.out z37 (x5_1 : Int) (of_decide_eq_true (by first | (with_reducible assumption) | assumption)) (by have h_ : (x5_1 : Int) < ((x0_1.length : Int) : Int) := of_decide_eq_true (by first | (with_reducible assumption) | assumption); first | exact h_ | (have e_ := (Kd.R_reads' HO_0.out).1; omega) | simpa using h_); obtain rfl := k37_openM hM12; have HP12 := Kd.R_seg HX12.out (x5_1 : Int) (of_decide_eq_true (by first | (with_reducible assumption) | assumption)) (by have h_ : (x5_1 : Int) < ((x0_1.length : Int) : Int) := of_decide_eq_true (by first | (with_reducible assumption) | assumption); first | exact h_ | (have e_ := (Kd.R_reads' HO_0.out).1; omega) | simpa using h_) (seg := [.int .i64 (wrap64 (x1_1 + 1))]) (j := 1) hcl12 hcc12 (show 2 ≤ 4 from by decide) (x' := (⟨(rd_T37 y196 x5_1).f0, wrap64 (x1_1 + 1), (rd_T37 y196 x5_1).f2, (rd_T37 y196 x5_1).f3⟩ : S37)) (k37_mkM _ _ _ (⟨(rd_T37 y196 x5_1).f0, wrap64 (x1_1 + 1), (rd_T37 y196 x5_1).f2, (rd_T37 y196 x5_1).f3⟩ : S37) ) (fun _ hk => hk); have hx12_1 := hcc12 1 _ rfl; (try simp only [show (k37).sz = 4 from rfl, Nat.mul_one, Nat.add_zero] at hx12_1); have hf12_1 := hfr12 1; (try simp only [show (k37).sz = 4 from rfl, Nat.mul_one, Nat.add_zero] at hf12_1); clear hcl12 hcc12 hfr12 hM12) | ((with_reducible refine gate_store (t := 3) (p := 23) rfl ?_); refine store_event (t := 3) (p := 23) (v := ?vo_w13) (w1 := (w11.setCell ⟨go5, (x5_1 : Int).toNat * 4 + 1, none⟩ (.int .i64 (wrap64 (x1_1 + 1))))) ?hg ?ho ?hn ?hr ?_; (case ho => rfl); (case hg => rfl); (case hn => rfl); (case hr => first | (go_simp; done) | (go_simp; rfl)); intro w13 hw; have hg : w11.grownBy w13 (some go5) := (by rw [hw]; exact HP12.2); have hp_ : Kd.R k37 37 w13 w0.heap.size (fun k_ => (P0_ k_ ∨ w.heap.size ≤ k_)) (.slice (some ⟨go5, 0, none⟩) x0_1.length co9) y197 := (by rw [hw, Ny197.out]; exact HP12.1); clear HP12; have n0_ := ηp (hp_); have n1_ := ηp ((by rw [hw]; exact ηg (HB.out) GB5.out : Below w0.heap.size w0 w13)); have n2_ := ηp (Kept.of_grown (S := (fun k_ => P0_ k_)) hg (by repeat (first | (with_reducible first | exact HK.out | apply Kept.alloc | apply Kept.drewN | apply Kept.drew) | exact HK.out)) (fun k_ e_ => (HO_0.out.1 k_ e_))); clear HO_0; clear HB; clear HK; have HO_0 := n0_; have HB := n1_; have HK := n2_; clear n0_ n1_ n2_; clear hg hw hp_; have p7 : 0 ≤ (x5_1 : Int) := of_decide_eq_true (by first | (with_reducible assumption) | assumption); have q7 : (x5_1 : Int) < ((x0_1.length : Int) : Int) := of_decide_eq_true (by first | (with_reducible assumption) | assumption); obtain ⟨ce7, hcl7, hM7, hcc7, hfr7⟩ := Kd.R_elem HO_0.out z37 (x5_1 : Int) p7 q7; obtain rfl := k37_openM hM7; have hx7_0 : w13.cell? ⟨go5, (x5_1 : Int).toNat * 4, none⟩ = some (.int .i64 ((rd_T37 y197 x5_1).f0)) := hcc7 0 _ rfl; have hx7_1 : w13.cell? ⟨go5, (x5_1 : Int).toNat * 4 + 1, none⟩ = some (.int .i64 ((rd_T37 y197 x5_1).f1)) := hcc7 1 _ rfl; have hx7_2 : w13.cell? ⟨go5, (x5_1 : Int).toNat * 4 + 2, none⟩ = some (.int .i64 ((rd_T37 y197 x5_1).f2)) := hcc7 2 _ rfl; have hx7_3 : w13.cell? ⟨go5, (x5_1 : Int).toNat * 4 + 3, none⟩ = some (.bool ((rd_T37 y197 x5_1).f3)) := hcc7 3 _ rfl; have hf7_0 : w13.frozen? ⟨go5, (x5_1 : Int).toNat * 4, none⟩ = false := hfr7 0; have hf7_1 : w13.frozen? ⟨go5, (x5_1 : Int).toNat * 4 + 1, none⟩ = false := hfr7 1; have hf7_2 : w13.frozen? ⟨go5, (x5_1 : Int).toNat * 4 + 2, none⟩ = false := hfr7 2; have hf7_3 : w13.frozen? ⟨go5, (x5_1 : Int).toNat * 4 + 3, none⟩ = false := hfr7 3; clear hcl7 hcc7 hfr7 hM7; replace p7 := eq_true p7; replace q7 := eq_true q7; have HX14 := ηp (show Kd.R k37 37 w13 w0.heap.size (fun k_ => (P0_ k_ ∨ w.heap.size ≤ k_)) (.slice (some ⟨go5, 0, none⟩) x0_1.length co9) y197 from (by (with_reducible repeat (first | apply ηd | apply ηe | apply ηf)); exact HO_0.out)); obtain ⟨ce14, hcl14, hM14, hcc14, hfr14⟩ := Kd.R_elem HX14.out z37 (x5_1 : Int) (of_decide_eq_true (by first | (with_reducible assumption) | assumption)) (by have h_ : (x5_1 : Int) < ((x0_1.length : Int) : Int) := of_decide_eq_true (by first | (with_reducible assumption) | assumption); first | exact h_ | (have e_ := (Kd.R_reads' HO_0.out).1; omega) | simpa using h_); obtain rfl := k37_openM hM14; have HP14 := Kd.R_seg HX14.out (x5_1 : Int) (of_decide_eq_true (by first | (with_reducible assumption) | assumption)) (by have h_ : (x5_1 : Int) < ((x0_1.length : Int) : Int) := of_decide_eq_true (by first | (with_reducible assumption) | assumption); first | exact h_ | (have e_ := (Kd.R_reads' HO_0.out).1; omega) | simpa using h_) (seg := [.int .i64 (wrap64 ((wrap64 (x1_1 + 1)) + 1))]) (j := 2) hcl14 hcc14 (show 3 ≤ 4 from by decide) (x' := (⟨(rd_T37 y197 x5_1).f0, (rd_T37 y197 x5_1).f1, wrap64 ((wrap64 (x1_1 + 1)) + 1), (rd_T37 y197 x5_1).f3⟩ : S37)) (k37_mkM _ _ _ (⟨(rd_T37 y197 x5_1).f0, (rd_T37 y197 x5_1).f1, wrap64 ((wrap64 (x1_1 + 1)) + 1), (rd_T37 y197 x5_1).f3⟩ : S37) ) (fun _ hk => hk); have hx14_2 := hcc14 2 _ rfl; (try simp only [show (k37).sz = 4 from rfl, Nat.mul_one, Nat.add_zero] at hx14_2); have hf14_2 := hfr14 2; (try simp only [show (k37).sz = 4 from rfl, Nat.mul_one, Nat.add_zero] at hf14_2); clear hcl14 hcc14 hfr14 hM14) | ((with_reducible refine gate_store (t := 3) (p := 30) rfl ?_); refine store_event (t := 3) (p := 30) (v := ?vo_w15) (w1 := (w13.setCell ⟨go5, (x5_1 : Int).toNat * 4 + 2, none⟩ (.int .i64 (wrap64 ((wrap64 (x1_1 + 1)) + 1))))) ?hg ?ho ?hn ?hr ?_; (case ho => rfl); (case hg => rfl); (case hn => rfl); (case hr => first | (go_simp; done) | (go_simp; rfl)); intro w15 hw; have hg : w13.grownBy w15 (some go5) := (by rw [hw]; exact HP14.2); have hp_ : Kd.R k37 37 w15 w0.heap.size (fun k_ => (P0_ k_ ∨ w.heap.size ≤ k_)) (.slice (some ⟨go5, 0, none⟩) x0_1.length co9) y198 := (by rw [hw, Ny198.out]; exact HP14.1); clear HP14; have n0_ := ηp (hp_); have n1_ := ηp ((by rw [hw]; exact ηg (HB.out) GB5.out : Below w0.heap.size w0 w15)); have n2_ := ηp (Kept.of_grown (S := (fun k_ => P0_ k_)) hg (by repeat (first | (with_reducible first | exact HK.out | apply Kept.alloc | apply Kept.drewN | apply Kept.drew) | exact HK.out)) (fun k_ e_ => (HO_0.out.1 k_ e_))); clear HO_0; clear HB; clear HK; have HO_0 := n0_; have HB := n1_; have HK := n2_; clear n0_ n1_ n2_; clear hg hw hp_; have p8 : 0 ≤ (x5_1 : Int) := of_decide_eq_true (by first | (with_reducible assumption) | assumption); have q8 : (x5_1 : Int) < ((x0_1.length : Int) : Int) := of_decide_eq_true (by first | (with_reducible assumption) | assumption); obtain ⟨ce8, hcl8, hM8, hcc8, hfr8⟩ := Kd.R_elem HO_0.out z37 (x5_1 : Int) p8 q8; obtain rfl := k37_openM hM8; have hx8_0 : w15.cell? ⟨go5, (x5_1 : Int).toNat * 4, none⟩ = some (.int .i64 ((rd_T37 y198 x5_1).f0)) := hcc8 0 _ rfl; have hx8_1 : w15.cell? ⟨go5, (x5_1 : Int).toNat * 4 + 1, none⟩ = some (.int .i64 ((rd_T37 y198 x5_1).f1)) := hcc8 1 _ rfl; have hx8_2 : w15.cell? ⟨go5, (x5_1 : Int).toNat * 4 + 2, none⟩ = some (.int .i64 ((rd_T37 y198 x5_1).f2)) := hcc8 2 _ rfl; have hx8_3 : w15.cell? ⟨go5, (x5_1 : Int).toNat * 4 + 3, none⟩ = some (.bool ((rd_T37 y198 x5_1).f3)) := hcc8 3 _ rfl; have hf8_0 : w15.frozen? ⟨go5, (x5_1 : Int).toNat * 4, none⟩ = false := hfr8 0; have hf8_1 : w15.frozen? ⟨go5, (x5_1 : Int).toNat * 4 + 1, none⟩ = false := hfr8 1; have hf8_2 : w15.frozen? ⟨go5, (x5_1 : Int).toNat * 4 + 2, none⟩ = false := hfr8 2; have hf8_3 : w15.frozen? ⟨go5, (x5_1 : Int).toNat * 4 + 3, none⟩ = false := hfr8 3; clear hcl8 hcc8 hfr8 hM8; replace p8 := eq_true p8; replace q8 := eq_true q8; have HX16 := ηp (show Kd.R k37 37 w15 w0.heap.size (fun k_ => (P0_ k_ ∨ w.heap.size ≤ k_)) (.slice (some ⟨go5, 0, none⟩) x0_1.length co9) y198 from (by (with_reducible repeat (first | apply ηd | apply ηe | apply ηf)); exact HO_0.out)); obtain ⟨ce16, hcl16, hM16, hcc16, hfr16⟩ := Kd.R_elem HX16.out z37 (x5_1 : Int) (of_decide_eq_true (by first | (with_reducible assumption) | assumption)) (by have h_ : (x5_1 : Int) < ((x0_1.length : Int) : Int) := of_decide_eq_true (by first | (with_reducible assumption) | assumption); first | exact h_ | (have e_ := (Kd.R_reads' HO_0.out).1; omega) | simpa using h_); obtain rfl := k37_openM hM16; have HP16 := Kd.R_seg HX16.out (x5_1 : Int) (of_decide_eq_true (by first | (with_reducible assumption) | assumption)) (by have h_ : (x5_1 : Int) < ((x0_1.length : Int) : Int) := of_decide_eq_true (by first | (with_reducible assumption) | assumption); first | exact h_ | (have e_ := (Kd.R_reads' HO_0.out).1; omega) | simpa using h_) (seg := [.bool ((Int.tmod (wrap64 ((wrap64 ((wrap64 (x1_1 + 1)) + 1)) + 1)) 3) == 0)]) (j := 3) hcl16 hcc16 (show 4 ≤ 4 from by decide) (x' := (⟨(rd_T37 y198 x5_1).f0, (rd_T37 y198 x5_1).f1, (rd_T37 y198 x5_1).f2, ((Int.tmod (wrap64 ((wrap64 ((wrap64 (x1_1 + 1)) + 1)) + 1)) 3) == 0)⟩ : S37)) (k37_mkM _ _ _ (⟨(rd_T37 y198 x5_1).f0, (rd_T37 y198 x5_1).f1, (rd_T37 y198 x5_1).f2, ((Int.tmod (wrap64 ((wrap64 ((wrap64 (x1_1 + 1)) + 1)) + 1)) 3) == 0)⟩ : S37) ) (fun _ hk => hk); have hx16_3 := hcc16 3 _ rfl; (try simp only [show (k37).sz = 4 from rfl, Nat.mul_one, Nat.add_zero] at hx16_3); have hf16_3 := hfr16 3; (try simp only [show (k37).sz = 4 from rfl, Nat.mul_one, Nat.add_zero] at hf16_3); clear hcl16 hcc16 hfr16 hM16) | ((with_reducible refine gate_store (t := 4) (p := 39) rfl ?_); refine store_event (t := 4) (p := 39) (v := ?vo_w17) (w1 := (w15.setCell ⟨go5, (x5_1 : Int).toNat * 4 + 3, none⟩ (.bool ((Int.tmod (wrap64 ((wrap64 ((wrap64 (x1_1 + 1)) + 1)) + 1)) 3) == 0)))) ?hg ?ho ?hn ?hr ?_; (case ho => rfl); (case hg => rfl); (case hn => rfl); (case hr => first | (go_simp; done) | (go_simp; rfl)); intro w17 hw; have hg : w15.grownBy w17 (some go5) := (by rw [hw]; exact HP16.2); have hp_ : Kd.R k37 37 w17 w0.heap.size (fun k_ => (P0_ k_ ∨ w.heap.size ≤ k_)) (.slice (some ⟨go5, 0, none⟩) x0_1.length co9) y199 := (by rw [hw, Ny199.out]; exact HP16.1); clear HP16; have n0_ := ηp (hp_); have n1_ := ηp ((by rw [hw]; exact ηg (HB.out) GB5.out : Below w0.heap.size w0 w17)); have n2_ := ηp (Kept.of_grown (S := (fun k_ => P0_ k_)) hg (by repeat (first | (with_reducible first | exact HK.out | apply Kept.alloc | apply Kept.drewN | apply Kept.drew) | exact HK.out)) (fun k_ e_ => (HO_0.out.1 k_ e_))); clear HO_0; clear HB; clear HK; have HO_0 := n0_; have HB := n1_; have HK := n2_; clear n0_ n1_ n2_; clear hg hw hp_))
     go_roundg k1
     case measure => have := HK1.out; omega
     case rel => exact ⟨(y199), (wrap64 ((wrap64 ((wrap64 ((wrap64 (x1_1 + 1)) + 1)) + 1)) + 1)), (wrap64 (x5_1 + 1)), (by first | rfl | (simp; done) | (simp [*]; done)), (by first | rfl | (simp; done) | (simp [*]; done)), H', ⟨by have := HK1.out; omega⟩, ⟨by (with_reducible repeat (first | apply ηd | apply ηe | apply ηf)); exact HO_0.out⟩, ⟨by repeat (first | (with_reducible first | exact HK.out | apply Kept.alloc | apply Kept.drewN | apply Kept.drew) | exact HK.out)⟩, ⟨by repeat (first | (with_reducible first | exact HB.out | apply ηj | apply ηh | apply ηi) | exact HB.out)⟩⟩
    rw [if_neg c4] at H
    exact absurd H (by simp)
   rw [if_neg c3] at H
   have c3b0 : decide (x5_1 < (x0_1.length : Int)) = false := decide_eq_false c3
   clear c3
   simp only [Option.some.injEq, Prod.mk.injEq] at H
   obtain ⟨rfl, rfl⟩ := H
   obtain ⟨Ao18, co18, eo18⟩ := Kd.R_slice HO_0.out
   subst eo18
   go_wp2
   go_ret
   exact ⟨by first | rfl | (simp [errW_none, errW_some] <;> rfl) | (simp [*, errW_none, errW_some] <;> rfl), by (with_reducible repeat (first | apply ηd | apply ηe | apply ηf)); exact HO_0.out, by repeat (first | (with_reducible first | exact HB.out | apply ηj | apply ηh | apply ηi) | exact HB.out), by repeat (first | (with_reducible first | exact HK.out | apply Kept.alloc | apply Kept.drewN | apply Kept.drew) | exact HK.out)⟩

/-! ### laws_heldSourceS: function 30 -/
def laws_heldSourceS.l0 : Nat → List (S37) → Int → Int → Option (Int)
 | 0, _, _, _ => none
 | k + 1, x0, x1, x5 => if x5 < (x0.length : Int) then (if 0 ≤ x5 then (if ((rd_T37 x0 x5).f0) = x1 then (if ((rd_T37 x0 x5).f1) = (wrap64 (x1 + 1)) then (if ((rd_T37 x0 x5).f2) = (wrap64 ((wrap64 (x1 + 1)) + 1)) then (if (((rd_T37 x0 x5).f3) != ((Int.tmod (wrap64 ((wrap64 ((wrap64 (x1 + 1)) + 1)) + 1)) 3) == 0)) = true then (some (-1)) else (laws_heldSourceS.l0 k x0 (wrap64 ((wrap64 ((wrap64 ((wrap64 (x1 + 1)) + 1)) + 1)) + 1)) (wrap64 (x5 + 1)))) else (some (-1))) else (some (-1))) else (some (-1))) else (none)) else (some x1)
def laws_heldSourceS.f (k : Nat) (l0 : List (S37)) (a1 : Int) : Option (Int) := laws_heldSourceS.l0 k l0 a1 0
theorem laws_heldSourceS.mono_l : ∀ k, (∀ y0 y1 y2, LeO (laws_heldSourceS.l0 k y0 y1 y2) (laws_heldSourceS.l0 (k + 1) y0 y1 y2))
 | 0 => fun _ _ _ r h => by simp [laws_heldSourceS.l0] at h
 | k + 1 => by
  have ih0 := laws_heldSourceS.mono_l k
  intro y0 y1 y2
  unfold laws_heldSourceS.l0
  repeat' first
  | (with_reducible exact ih0 _ _ _)
  | (with_reducible exact LeO.refl _)
  | (with_reducible exact LeO.none _)
  | (with_reducible refine LeO.ite ?_ ?_)
  | (with_reducible refine LeO.bind ?_ (fun _ => ?_))
  | exact ih0 _ _ _
  | exact LeO.none _
  | refine LeO.ite ?_ ?_
  | refine LeO.bind ?_ (fun _ => ?_)
theorem laws_heldSourceS.mono : ∀ a0 a1 k, LeO (laws_heldSourceS.f k a0 a1) (laws_heldSourceS.f (k + 1) a0 a1) := by
 intro a0 a1 k
 have ih0 := laws_heldSourceS.mono_l k
 unfold laws_heldSourceS.f
 repeat' first
   | (with_reducible exact ih0 _ _ _)
   | (with_reducible exact LeO.refl _)
   | (with_reducible exact LeO.none _)
   | (with_reducible refine LeO.ite ?_ ?_)
   | (with_reducible refine LeO.bind ?_ (fun _ => ?_))
   | exact ih0 _ _ _
   | exact LeO.none _
   | refine LeO.ite ?_ ?_
   | refine LeO.bind ?_ (fun _ => ?_)
set_option maxHeartbeats 8000000 in
set_option maxRecDepth 100000 in
theorem laws_heldSourceS.calls (k : Nat) (A0 : Option Addr) (c0 : Nat) (l0 : List (S37)) (a1 : Int) (r : Int) (w : World) (hr0 : Kd.C k37 w A0 l0.length l0) (hc0 : l0.length ≤ c0) (h : laws_heldSourceS.f k l0 a1 = some r) :
  Calls Try.prog 30 #[.slice A0 l0.length c0, .int .i64 a1] w fun e w' => e = .returned (.int .i64 r) ∧ Drawn0 w w' := by
 have HR0 := ηp hr0
 have HC0 := ηp hc0
 clear hr0 hc0
 have H : (laws_heldSourceS.l0 k l0 a1 0) = some r := h
 clear h
 have H' := ηp H
 clear H
 go_enter Try.func30, Try.ntmps30
 go_wp2
 go_loopg [1, 5] k (fun kq v1 v5 w' => ∃ (x1_1 : Int) (x5_1 : Int), v1 = .int .i64 x1_1 ∧ v5 = .int .i64 x5_1 ∧ Aside0 (laws_heldSourceS.l0 kq l0 x1_1 x5_1 = some r) ∧ Aside0 (kq ≤ k) ∧ Drawn0 w w')
 case atStart => exact ⟨(a1), (0), (by first | rfl | (simp; done) | (simp [*]; done)), (by first | rfl | (simp; done) | (simp [*]; done)), H', ⟨Nat.le_refl _⟩, by repeat (first | exact Drawn0.refl _ | apply Drawn0.step)⟩
 case round =>
  clear H'
  try clear p2
  obtain ⟨x1_1, x5_1, rfl, rfl, HA, HK1, ⟨m1, rfl⟩⟩ := hrel
  cases gk with
  | zero => exact absurd HA.out (by simp [laws_heldSourceS.l0])
  | succ k1 =>
   have H := HA.out
   clear HA
   simp only [laws_heldSourceS.l0] at H
   by_cases c3 : x5_1 < (l0.length : Int)
   ·
    rw [if_pos c3] at H
    have c3b0 : decide (x5_1 < (l0.length : Int)) = true := decide_eq_true c3
    clear c3
    by_cases c4 : 0 ≤ x5_1
    ·
     rw [if_pos c4] at H
     have c4b0 : decide (0 ≤ x5_1) = true := decide_eq_true c4
     clear c4
     by_cases c5 : ((rd_T37 l0 x5_1).f0) = x1_1
     ·
      rw [if_pos c5] at H
      have c5b0 : (((rd_T37 l0 x5_1).f0) == x1_1) = true := beq_iff_eq.mpr c5
      have c5b1 : (((rd_T37 l0 x5_1).f0) != x1_1) = false := bne_eq_false_iff_eq.mpr c5
      clear c5
      by_cases c6 : ((rd_T37 l0 x5_1).f1) = (wrap64 (x1_1 + 1))
      ·
       rw [if_pos c6] at H
       have c6b0 : (((rd_T37 l0 x5_1).f1) == (wrap64 (x1_1 + 1))) = true := beq_iff_eq.mpr c6
       have c6b1 : (((rd_T37 l0 x5_1).f1) != (wrap64 (x1_1 + 1))) = false := bne_eq_false_iff_eq.mpr c6
       clear c6
       by_cases c7 : ((rd_T37 l0 x5_1).f2) = (wrap64 ((wrap64 (x1_1 + 1)) + 1))
       ·
        rw [if_pos c7] at H
        have c7b0 : (((rd_T37 l0 x5_1).f2) == (wrap64 ((wrap64 (x1_1 + 1)) + 1))) = true := beq_iff_eq.mpr c7
        have c7b1 : (((rd_T37 l0 x5_1).f2) != (wrap64 ((wrap64 (x1_1 + 1)) + 1))) = false := bne_eq_false_iff_eq.mpr c7
        clear c7
        by_cases c8 : (((rd_T37 l0 x5_1).f3) != ((Int.tmod (wrap64 ((wrap64 ((wrap64 (x1_1 + 1)) + 1)) + 1)) 3) == 0)) = true
        ·
         rw [if_pos c8] at H
         have c8b0 : (((rd_T37 l0 x5_1).f3) != ((Int.tmod (wrap64 ((wrap64 ((wrap64 (x1_1 + 1)) + 1)) + 1)) 3) == 0)) = true := c8
         (try (have c8b1 : decide (((rd_T37 l0 x5_1).f3) = ((Int.tmod (wrap64 ((wrap64 ((wrap64 (x1_1 + 1)) + 1)) + 1)) 3) == 0)) = false := by simpa using c8))
         (try (have c8b2 : (((rd_T37 l0 x5_1).f3) == ((Int.tmod (wrap64 ((wrap64 ((wrap64 (x1_1 + 1)) + 1)) + 1)) 3) == 0)) = false := by simpa using c8))
         (try (have c8b3 : ¬ (((rd_T37 l0 x5_1).f3) = ((Int.tmod (wrap64 ((wrap64 ((wrap64 (x1_1 + 1)) + 1)) + 1)) 3) == 0)) := by simpa using c8))
         clear c8
         obtain rfl := Option.some.inj H
         have p200 : 0 ≤ (x5_1 : Int) := of_decide_eq_true (by first | (with_reducible assumption) | assumption)
         have q200 : x5_1 < (l0.length : Int) := of_decide_eq_true (by first | (with_reducible assumption) | assumption)
         obtain ⟨ad200, e200, hx200_0, hx200_1, hx200_2, hx200_3⟩ := at_T37 HR0.out x5_1 p200 q200
         cases e200
         replace p200 := eq_true p200
         replace q200 := eq_true q200
         have p201 : 0 ≤ (x5_1 : Int) := of_decide_eq_true (by first | (with_reducible assumption) | assumption)
         have q201 : x5_1 < (l0.length : Int) := of_decide_eq_true (by first | (with_reducible assumption) | assumption)
         obtain ⟨ad201, e201, hx201_0, hx201_1, hx201_2, hx201_3⟩ := at_T37 HR0.out x5_1 p201 q201
         obtain rfl : ad200 = ad201 := (by injection e201)
         replace p201 := eq_true p201
         replace q201 := eq_true q201
         have p202 : 0 ≤ (x5_1 : Int) := of_decide_eq_true (by first | (with_reducible assumption) | assumption)
         have q202 : x5_1 < (l0.length : Int) := of_decide_eq_true (by first | (with_reducible assumption) | assumption)
         obtain ⟨ad202, e202, hx202_0, hx202_1, hx202_2, hx202_3⟩ := at_T37 HR0.out x5_1 p202 q202
         obtain rfl : ad200 = ad202 := (by injection e202)
         replace p202 := eq_true p202
         replace q202 := eq_true q202
         have p203 : 0 ≤ (x5_1 : Int) := of_decide_eq_true (by first | (with_reducible assumption) | assumption)
         have q203 : x5_1 < (l0.length : Int) := of_decide_eq_true (by first | (with_reducible assumption) | assumption)
         obtain ⟨ad203, e203, hx203_0, hx203_1, hx203_2, hx203_3⟩ := at_T37 HR0.out x5_1 p203 q203
         obtain rfl : ad200 = ad203 := (by injection e203)
         replace p203 := eq_true p203
         replace q203 := eq_true q203
         go_wp2
         go_ret
         exact ⟨by first | rfl | (simp; done) | (simp [*]; done), by repeat (first | exact Drawn0.refl _ | apply Drawn0.step)⟩
        rw [if_neg c8] at H
        have c8b0 : (((rd_T37 l0 x5_1).f3) != ((Int.tmod (wrap64 ((wrap64 ((wrap64 (x1_1 + 1)) + 1)) + 1)) 3) == 0)) = false := by simpa using c8
        (try (have c8b1 : decide (((rd_T37 l0 x5_1).f3) = ((Int.tmod (wrap64 ((wrap64 ((wrap64 (x1_1 + 1)) + 1)) + 1)) 3) == 0)) = true := by simpa using c8))
        (try (have c8b2 : (((rd_T37 l0 x5_1).f3) == ((Int.tmod (wrap64 ((wrap64 ((wrap64 (x1_1 + 1)) + 1)) + 1)) 3) == 0)) = true := by simpa using c8))
        clear c8
        have H' := ηp H
        clear H
        have p200 : 0 ≤ (x5_1 : Int) := of_decide_eq_true (by first | (with_reducible assumption) | assumption)
        have q200 : x5_1 < (l0.length : Int) := of_decide_eq_true (by first | (with_reducible assumption) | assumption)
        obtain ⟨ad200, e200, hx200_0, hx200_1, hx200_2, hx200_3⟩ := at_T37 HR0.out x5_1 p200 q200
        cases e200
        replace p200 := eq_true p200
        replace q200 := eq_true q200
        have p201 : 0 ≤ (x5_1 : Int) := of_decide_eq_true (by first | (with_reducible assumption) | assumption)
        have q201 : x5_1 < (l0.length : Int) := of_decide_eq_true (by first | (with_reducible assumption) | assumption)
        obtain ⟨ad201, e201, hx201_0, hx201_1, hx201_2, hx201_3⟩ := at_T37 HR0.out x5_1 p201 q201
        obtain rfl : ad200 = ad201 := (by injection e201)
        replace p201 := eq_true p201
        replace q201 := eq_true q201
        have p202 : 0 ≤ (x5_1 : Int) := of_decide_eq_true (by first | (with_reducible assumption) | assumption)
        have q202 : x5_1 < (l0.length : Int) := of_decide_eq_true (by first | (with_reducible assumption) | assumption)
        obtain ⟨ad202, e202, hx202_0, hx202_1, hx202_2, hx202_3⟩ := at_T37 HR0.out x5_1 p202 q202
        obtain rfl : ad200 = ad202 := (by injection e202)
        replace p202 := eq_true p202
        replace q202 := eq_true q202
        have p203 : 0 ≤ (x5_1 : Int) := of_decide_eq_true (by first | (with_reducible assumption) | assumption)
        have q203 : x5_1 < (l0.length : Int) := of_decide_eq_true (by first | (with_reducible assumption) | assumption)
        obtain ⟨ad203, e203, hx203_0, hx203_1, hx203_2, hx203_3⟩ := at_T37 HR0.out x5_1 p203 q203
        obtain rfl : ad200 = ad203 := (by injection e203)
        replace p203 := eq_true p203
        replace q203 := eq_true q203
        go_wp2
        go_roundg k1
        case measure => have := HK1.out; omega
        case rel => exact ⟨(wrap64 ((wrap64 ((wrap64 ((wrap64 (x1_1 + 1)) + 1)) + 1)) + 1)), (wrap64 (x5_1 + 1)), (by first | rfl | (simp; done) | (simp [*]; done)), (by first | rfl | (simp; done) | (simp [*]; done)), H', ⟨by have := HK1.out; omega⟩, by repeat (first | exact Drawn0.refl _ | apply Drawn0.step)⟩
       rw [if_neg c7] at H
       have c7b0 : (((rd_T37 l0 x5_1).f2) == (wrap64 ((wrap64 (x1_1 + 1)) + 1))) = false := beq_eq_false_iff_ne.mpr c7
       have c7b1 : (((rd_T37 l0 x5_1).f2) != (wrap64 ((wrap64 (x1_1 + 1)) + 1))) = true := bne_iff_ne.mpr c7
       obtain rfl := Option.some.inj H
       have p200 : 0 ≤ (x5_1 : Int) := of_decide_eq_true (by first | (with_reducible assumption) | assumption)
       have q200 : x5_1 < (l0.length : Int) := of_decide_eq_true (by first | (with_reducible assumption) | assumption)
       obtain ⟨ad200, e200, hx200_0, hx200_1, hx200_2, hx200_3⟩ := at_T37 HR0.out x5_1 p200 q200
       cases e200
       replace p200 := eq_true p200
       replace q200 := eq_true q200
       have p201 : 0 ≤ (x5_1 : Int) := of_decide_eq_true (by first | (with_reducible assumption) | assumption)
       have q201 : x5_1 < (l0.length : Int) := of_decide_eq_true (by first | (with_reducible assumption) | assumption)
       obtain ⟨ad201, e201, hx201_0, hx201_1, hx201_2, hx201_3⟩ := at_T37 HR0.out x5_1 p201 q201
       obtain rfl : ad200 = ad201 := (by injection e201)
       replace p201 := eq_true p201
       replace q201 := eq_true q201
       have p202 : 0 ≤ (x5_1 : Int) := of_decide_eq_true (by first | (with_reducible assumption) | assumption)
       have q202 : x5_1 < (l0.length : Int) := of_decide_eq_true (by first | (with_reducible assumption) | assumption)
       obtain ⟨ad202, e202, hx202_0, hx202_1, hx202_2, hx202_3⟩ := at_T37 HR0.out x5_1 p202 q202
       obtain rfl : ad200 = ad202 := (by injection e202)
       replace p202 := eq_true p202
       replace q202 := eq_true q202
       go_wp2
       go_ret
       exact ⟨by first | rfl | (simp; done) | (simp [*]; done), by repeat (first | exact Drawn0.refl _ | apply Drawn0.step)⟩
      rw [if_neg c6] at H
      have c6b0 : (((rd_T37 l0 x5_1).f1) == (wrap64 (x1_1 + 1))) = false := beq_eq_false_iff_ne.mpr c6
      have c6b1 : (((rd_T37 l0 x5_1).f1) != (wrap64 (x1_1 + 1))) = true := bne_iff_ne.mpr c6
      obtain rfl := Option.some.inj H
      have p200 : 0 ≤ (x5_1 : Int) := of_decide_eq_true (by first | (with_reducible assumption) | assumption)
      have q200 : x5_1 < (l0.length : Int) := of_decide_eq_true (by first | (with_reducible assumption) | assumption)
      obtain ⟨ad200, e200, hx200_0, hx200_1, hx200_2, hx200_3⟩ := at_T37 HR0.out x5_1 p200 q200
      cases e200
      replace p200 := eq_true p200
      replace q200 := eq_true q200
      have p201 : 0 ≤ (x5_1 : Int) := of_decide_eq_true (by first | (with_reducible assumption) | assumption)
      have q201 : x5_1 < (l0.length : Int) := of_decide_eq_true (by first | (with_reducible assumption) | assumption)
      obtain ⟨ad201, e201, hx201_0, hx201_1, hx201_2, hx201_3⟩ := at_T37 HR0.out x5_1 p201 q201
      obtain rfl : ad200 = ad201 := (by injection e201)
      replace p201 := eq_true p201
      replace q201 := eq_true q201
      go_wp2
      go_ret
      exact ⟨by first | rfl | (simp; done) | (simp [*]; done), by repeat (first | exact Drawn0.refl _ | apply Drawn0.step)⟩
     rw [if_neg c5] at H
     have c5b0 : (((rd_T37 l0 x5_1).f0) == x1_1) = false := beq_eq_false_iff_ne.mpr c5
     have c5b1 : (((rd_T37 l0 x5_1).f0) != x1_1) = true := bne_iff_ne.mpr c5
     obtain rfl := Option.some.inj H
     have p200 : 0 ≤ (x5_1 : Int) := of_decide_eq_true (by first | (with_reducible assumption) | assumption)
     have q200 : x5_1 < (l0.length : Int) := of_decide_eq_true (by first | (with_reducible assumption) | assumption)
     obtain ⟨ad200, e200, hx200_0, hx200_1, hx200_2, hx200_3⟩ := at_T37 HR0.out x5_1 p200 q200
     cases e200
     replace p200 := eq_true p200
     replace q200 := eq_true q200
     go_wp2
     go_ret
     exact ⟨by first | rfl | (simp; done) | (simp [*]; done), by repeat (first | exact Drawn0.refl _ | apply Drawn0.step)⟩
    rw [if_neg c4] at H
    exact absurd H (by simp)
   rw [if_neg c3] at H
   have c3b0 : decide (x5_1 < (l0.length : Int)) = false := decide_eq_false c3
   clear c3
   obtain rfl := Option.some.inj H
   go_wp2
   go_ret
   exact ⟨by first | rfl | (simp; done) | (simp [*]; done), by repeat (first | exact Drawn0.refl _ | apply Drawn0.step)⟩

end Go.Proofs.Ytfcidjlnokhkjaa.QFnExactAddSource
