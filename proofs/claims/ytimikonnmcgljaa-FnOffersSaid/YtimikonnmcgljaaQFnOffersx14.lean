-- Laid by this session's own program (wip/myprint.py), the kit's printer its engine; turned by hand where that fell. Lean checks it.
import Derived.Test.YtimikonnmcgljaaQFnOffersx0
import Derived.Test.YtimikonnmcgljaaQFnOffersx11
import Derived.Test.YtimikonnmcgljaaQFnOffersx13
namespace Go.Proofs.Ytimikonnmcgljaa.QFnOffers
open Go.RowKit Go.Proofs.YtimikonnmcgljaaW.PrintWords Go.Proofs.YtimikonnmcgljaaW.PrintLast Go.Proofs.YtimikonnmcgljaaW.PrintMore
attribute [local go_sem] max2_int min2_int max_two min_two max_three min_three max_four min_four   -- for this text's walks alone
set_option linter.unusedVariables false
set_option linter.unusedSimpArgs false

/-! ### spec_l1Below: function 64 -/
def spec_l1Below.f (s0_0 : List Int) (s0_1 : Int) (s0_2 : Int) (a1 : Int) : Option (Int × Int × Int) := if a1 ≤ 0 then (some (0, s0_1, s0_2)) else (if a1 ≤ 256 then ((spec_l1Byte.f s0_0 s0_1 s0_2).bind fun bt326 => (if a1 = 0 then (none) else (some (Int.tmod bt326.1 a1, bt326.2.1, bt326.2.2)))) else ((spec_l1Byte.f s0_0 s0_1 s0_2).bind fun bt329 => ((spec_l1Byte.f s0_0 bt329.2.1 bt329.2.2).bind fun bt332 => ((spec_l1Byte.f s0_0 bt332.2.1 bt332.2.2).bind fun bt335 => (if a1 = 0 then (none) else (some (Int.tmod (wrap64 ((wrap64 ((wrap64 (bt329.1 * 65536)) + (wrap64 (bt332.1 * 256)))) + bt335.1)) a1, bt335.2.1, bt335.2.2)))))))
set_option linter.defProp false
def σa := @blk_drewN
def σb := @blk_alloc
def σc := @blk_drew
def σg := @below_set
def σh := @pw_below_drewN
def σi := @below_drew1
def σj := @below_alloc
def σk := @blk_cell
def σm := @List.setIfInBounds_toArray
def σn := @List.set_cons_zero
def σo := @List.set_cons_succ
def σp := @Aside0.mk
abbrev σ0 : Array Bool := #[false, false, false, false, false, false, false, false, false, false, false, false, false, false]
abbrev σ1 : Array Bool := #[false, true, false, false, false, false, false, false, false, false, false, false, false, false]
abbrev σ2 : Array Bool := #[false, true, true, false, false, false, false, false, false, false, false, false, false, false]
abbrev σ3 : Array Bool := #[false, true, true, true, false, false, false, false, false, false, false, false, false, false]
abbrev σ4 : Array Bool := #[false, true, true, true, false, false, true, false, false, false, false, false, false, false]
abbrev σ5 : Array Bool := #[true, true, true, true, false, false, true, false, false, false, false, false, false, false]
abbrev σ6 : Array Bool := #[true, true, true, true, true, false, true, false, false, false, false, false, false, false]
abbrev σ7 : Array Bool := #[true, true, true, true, true, true, true, false, false, false, false, false, false, false]
abbrev σ8 : Array Bool := #[true, true, true, true, true, true, true, true, false, false, false, false, false, false]
abbrev σ9 : Array Bool := #[true, true, true, true, true, true, true, true, true, false, false, false, false, false]
abbrev σ10 : Array Bool := #[true, true, true, true, true, true, true, true, true, true, false, false, false, false]
abbrev σ11 : Array Bool := #[true, true, true, true, true, true, true, true, true, true, true, false, false, false]
abbrev σ12 : Array Bool := #[true, true, true, true, true, true, true, true, true, true, true, true, false, false]
abbrev σ13 : Array Bool := #[true, true, true, true, true, true, true, true, true, true, true, true, true, false]
abbrev σ14 : Array Bool := #[true, true, true, true, true, true, true, true, true, true, true, true, true, true]
set_option maxHeartbeats 8000000 in
set_option maxRecDepth 100000 in
theorem spec_l1Below.calls (g : Nat) (s0_0 : List Int) (s0_1 : Int) (s0_2 : Int) (a1 : Int) (r1 : Int) (r2 : Int) (r3 : Int) (w0 w : World) (hI : IsS86 w0 w g s0_0 s0_1 s0_2) (hB : Below w0.heap.size w0 w) (h : spec_l1Below.f s0_0 s0_1 s0_2 a1 = some (r1, r2, r3)) :
  Calls Try.prog 64 #[.pointer (some ⟨g, 0, none⟩), .int .i64 a1] w fun e w' => e = .returned (.int .i64 r1) ∧ IsS86 w0 w' g s0_0 r2 r3 ∧ Below w0.heap.size w0 w' ∧ KeepBut w w' g none := by
 have HI0 := σp hI
 have HK := σp (KeepBut.refl w g none)
 have HL := σp hB.size
 clear hI
 have HW0 := σp hB.size
 have HB := σp hB
 clear hB
 have H : (if a1 ≤ 0 then (some (0, s0_1, s0_2)) else (if a1 ≤ 256 then ((spec_l1Byte.f s0_0 s0_1 s0_2).bind fun bt326 => (if a1 = 0 then (none) else (some (Int.tmod bt326.1 a1, bt326.2.1, bt326.2.2)))) else ((spec_l1Byte.f s0_0 s0_1 s0_2).bind fun bt329 => ((spec_l1Byte.f s0_0 bt329.2.1 bt329.2.2).bind fun bt332 => ((spec_l1Byte.f s0_0 bt332.2.1 bt332.2.2).bind fun bt335 => (if a1 = 0 then (none) else (some (Int.tmod (wrap64 ((wrap64 ((wrap64 (bt329.1 * 65536)) + (wrap64 (bt332.1 * 256)))) + bt335.1)) a1, bt335.2.1, bt335.2.2)))))))) = some (r1, r2, r3) := h
 clear h
 by_cases c3 : a1 ≤ 0
 ·
  rw [if_pos c3] at H
  have c3b0 : decide (a1 ≤ 0) = true := decide_eq_true c3
  clear c3
  simp only [Option.some.injEq, Prod.mk.injEq] at H
  obtain ⟨rfl, rfl, rfl⟩ := H
  go_enter Try.func64, Try.ntmps64
  go_wp2
  go_ret
  exact ⟨by first | rfl | (simp [errW_none, errW_some] <;> rfl) | (simp [*, errW_none, errW_some] <;> rfl), by repeat (first | (with_reducible first | exact HI0.out | apply IsS86.alloc | apply IsS86.drewN | apply IsS86.drew | apply IsS86.set_1 | apply IsS86.set_2) | exact HI0.out), by repeat (first | (with_reducible first | exact HB.out | apply σj | apply σh | apply σi | refine σg ?_ (IsS86.ge HI0.out)) | exact HB.out), by repeat (first | (with_reducible first | exact HK.out | apply KeepBut.set_ | apply keep_drewN | apply keep_drew | apply keep_alloc) | exact HK.out)⟩
 rw [if_neg c3] at H
 have c3b0 : decide (a1 ≤ 0) = false := decide_eq_false c3
 clear c3
 by_cases c4 : a1 ≤ 256
 ·
  rw [if_pos c4] at H
  have c4b0 : decide (a1 ≤ 256) = true := decide_eq_true c4
  clear c4
  replace H := Option.bind_eq_some_iff.mp H
  obtain ⟨⟨t326, t327, t328⟩, A50, H⟩ := H
  try dsimp only at H
  have A5 := σp A50
  clear A50
  by_cases c6 : a1 = 0
  ·
   rw [if_pos c6] at H
   exact absurd H (by simp)
  rw [if_neg c6] at H
  have c6b0 : (a1 == 0) = false := beq_eq_false_iff_ne.mpr c6
  have c6b1 : (a1 != 0) = true := bne_iff_ne.mpr c6
  simp only [Option.some.injEq, Prod.mk.injEq] at H
  obtain ⟨rfl, rfl, rfl⟩ := H
  go_enter Try.func64, Try.ntmps64
  go_wp2_with (first | ((with_reducible refine gate_callee (f := 76) rfl ?_); refine goesL_ (some 13) rfl rfl Try.func76 (by kernel_rfl) rfl #[.pointer (some ⟨g, 0, none⟩)] rfl (by (try simp only [List.map_toArray, List.map_cons, List.map_nil]); first | done | rfl | (simp only [List.length_drop, List.length_take]; rfl)) ?_; (with_reducible refine (spec_l1Byte.calls g s0_0 s0_1 s0_2 t326 t327 t328 w0 _ ?side1 ?side2 A5.out).mono ?_); (case side1 => repeat (first | (with_reducible first | exact HI0.out | apply IsS86.alloc | apply IsS86.drewN | apply IsS86.drew | apply IsS86.set_1 | apply IsS86.set_2) | exact HI0.out)); (case side2 => repeat (first | (with_reducible first | exact HB.out | apply σj | apply σh | apply σi | refine σg ?_ (IsS86.ge HI0.out)) | exact HB.out)); rintro e w7 ⟨rfl, hi, hb, hk⟩; refine ⟨_, rfl, ?_⟩; have n0_ := σp (KeepBut.trans (by repeat (first | (with_reducible first | exact HK.out | apply KeepBut.set_ | apply keep_drewN | apply keep_drew | apply keep_alloc) | exact HK.out)) hk (.inl rfl)); have n1_ := σp (hb); have n2_ := σp (hi); clear HK; clear HB; clear HI0; have HK := n0_; have HB := n1_; have HI0 := n2_; clear n0_ n1_ n2_; (try clear hb); (try clear hb2); (try clear hk); (try clear hi)))
  go_ret
  exact ⟨by first | rfl | (simp [errW_none, errW_some] <;> rfl) | (simp [*, errW_none, errW_some] <;> rfl), by repeat (first | (with_reducible first | exact HI0.out | apply IsS86.alloc | apply IsS86.drewN | apply IsS86.drew | apply IsS86.set_1 | apply IsS86.set_2) | exact HI0.out), by repeat (first | (with_reducible first | exact HB.out | apply σj | apply σh | apply σi | refine σg ?_ (IsS86.ge HI0.out)) | exact HB.out), by repeat (first | (with_reducible first | exact HK.out | apply KeepBut.set_ | apply keep_drewN | apply keep_drew | apply keep_alloc) | exact HK.out)⟩
 rw [if_neg c4] at H
 have c4b0 : decide (a1 ≤ 256) = false := decide_eq_false c4
 clear c4
 replace H := Option.bind_eq_some_iff.mp H
 obtain ⟨⟨t329, t330, t331⟩, A80, H⟩ := H
 try dsimp only at H
 have A8 := σp A80
 clear A80
 replace H := Option.bind_eq_some_iff.mp H
 obtain ⟨⟨t332, t333, t334⟩, A90, H⟩ := H
 try dsimp only at H
 have A9 := σp A90
 clear A90
 replace H := Option.bind_eq_some_iff.mp H
 obtain ⟨⟨t335, t336, t337⟩, A100, H⟩ := H
 try dsimp only at H
 have A10 := σp A100
 clear A100
 by_cases c11 : a1 = 0
 ·
  rw [if_pos c11] at H
  exact absurd H (by simp)
 rw [if_neg c11] at H
 have c11b0 : (a1 == 0) = false := beq_eq_false_iff_ne.mpr c11
 have c11b1 : (a1 != 0) = true := bne_iff_ne.mpr c11
 simp only [Option.some.injEq, Prod.mk.injEq] at H
 obtain ⟨rfl, rfl, rfl⟩ := H
 go_enter Try.func64, Try.ntmps64
 go_wp2_with (first | ((with_reducible refine gate_callee (f := 76) rfl ?_); refine goesL_ (some 17) rfl rfl Try.func76 (by kernel_rfl) rfl #[.pointer (some ⟨g, 0, none⟩)] rfl (by (try simp only [List.map_toArray, List.map_cons, List.map_nil]); first | done | rfl | (simp only [List.length_drop, List.length_take]; rfl)) ?_; (with_reducible refine (spec_l1Byte.calls g s0_0 s0_1 s0_2 t329 t330 t331 w0 _ ?side1 ?side2 A8.out).mono ?_); (case side1 => repeat (first | (with_reducible first | exact HI0.out | apply IsS86.alloc | apply IsS86.drewN | apply IsS86.drew | apply IsS86.set_1 | apply IsS86.set_2) | exact HI0.out)); (case side2 => repeat (first | (with_reducible first | exact HB.out | apply σj | apply σh | apply σi | refine σg ?_ (IsS86.ge HI0.out)) | exact HB.out)); rintro e w12 ⟨rfl, hi, hb, hk⟩; refine ⟨_, rfl, ?_⟩; have n0_ := σp (KeepBut.trans (by repeat (first | (with_reducible first | exact HK.out | apply KeepBut.set_ | apply keep_drewN | apply keep_drew | apply keep_alloc) | exact HK.out)) hk (.inl rfl)); have n1_ := σp (hb); have n2_ := σp (hi); clear HK; clear HB; clear HI0; have HK := n0_; have HB := n1_; have HI0 := n2_; clear n0_ n1_ n2_; (try clear hb); (try clear hb2); (try clear hk); (try clear hi)) | ((with_reducible refine gate_callee (f := 76) rfl ?_); refine goesL_ (some 19) rfl rfl Try.func76 (by kernel_rfl) rfl #[.pointer (some ⟨g, 0, none⟩)] rfl (by (try simp only [List.map_toArray, List.map_cons, List.map_nil]); first | done | rfl | (simp only [List.length_drop, List.length_take]; rfl)) ?_; (with_reducible refine (spec_l1Byte.calls g s0_0 t330 t331 t332 t333 t334 w0 _ ?side1 ?side2 A9.out).mono ?_); (case side1 => repeat (first | (with_reducible first | exact HI0.out | apply IsS86.alloc | apply IsS86.drewN | apply IsS86.drew | apply IsS86.set_1 | apply IsS86.set_2) | exact HI0.out)); (case side2 => repeat (first | (with_reducible first | exact HB.out | apply σj | apply σh | apply σi | refine σg ?_ (IsS86.ge HI0.out)) | exact HB.out)); rintro e w13 ⟨rfl, hi, hb, hk⟩; refine ⟨_, rfl, ?_⟩; have n0_ := σp (KeepBut.trans (by repeat (first | (with_reducible first | exact HK.out | apply KeepBut.set_ | apply keep_drewN | apply keep_drew | apply keep_alloc) | exact HK.out)) hk (.inl rfl)); have n1_ := σp (hb); have n2_ := σp (hi); clear HK; clear HB; clear HI0; have HK := n0_; have HB := n1_; have HI0 := n2_; clear n0_ n1_ n2_; (try clear hb); (try clear hb2); (try clear hk); (try clear hi)) | ((with_reducible refine gate_callee (f := 76) rfl ?_); refine goesL_ (some 21) rfl rfl Try.func76 (by kernel_rfl) rfl #[.pointer (some ⟨g, 0, none⟩)] rfl (by (try simp only [List.map_toArray, List.map_cons, List.map_nil]); first | done | rfl | (simp only [List.length_drop, List.length_take]; rfl)) ?_; (with_reducible refine (spec_l1Byte.calls g s0_0 t333 t334 t335 t336 t337 w0 _ ?side1 ?side2 A10.out).mono ?_); (case side1 => repeat (first | (with_reducible first | exact HI0.out | apply IsS86.alloc | apply IsS86.drewN | apply IsS86.drew | apply IsS86.set_1 | apply IsS86.set_2) | exact HI0.out)); (case side2 => repeat (first | (with_reducible first | exact HB.out | apply σj | apply σh | apply σi | refine σg ?_ (IsS86.ge HI0.out)) | exact HB.out)); rintro e w14 ⟨rfl, hi, hb, hk⟩; refine ⟨_, rfl, ?_⟩; have n0_ := σp (KeepBut.trans (by repeat (first | (with_reducible first | exact HK.out | apply KeepBut.set_ | apply keep_drewN | apply keep_drew | apply keep_alloc) | exact HK.out)) hk (.inl rfl)); have n1_ := σp (hb); have n2_ := σp (hi); clear HK; clear HB; clear HI0; have HK := n0_; have HB := n1_; have HI0 := n2_; clear n0_ n1_ n2_; (try clear hb); (try clear hb2); (try clear hk); (try clear hi)))
 go_ret
 exact ⟨by first | rfl | (simp [errW_none, errW_some] <;> rfl) | (simp [*, errW_none, errW_some] <;> rfl), by repeat (first | (with_reducible first | exact HI0.out | apply IsS86.alloc | apply IsS86.drewN | apply IsS86.drew | apply IsS86.set_1 | apply IsS86.set_2) | exact HI0.out), by repeat (first | (with_reducible first | exact HB.out | apply σj | apply σh | apply σi | refine σg ?_ (IsS86.ge HI0.out)) | exact HB.out), by repeat (first | (with_reducible first | exact HK.out | apply KeepBut.set_ | apply keep_drewN | apply keep_drew | apply keep_alloc) | exact HK.out)⟩

/-! ### spec_l1Int: function 65 -/
def spec_l1Int.f (s0_0 : List Int) (s0_1 : Int) (s0_2 : Int) (l1 : List Int) : Option (Int × Int × Int) := (spec_l1Below.f s0_0 s0_1 s0_2 (l1.length : Int)).bind fun bt338 => (if 0 ≤ bt338.1 then (if bt338.1 < (l1.length : Int) then (some (rd l1 bt338.1, bt338.2.1, bt338.2.2)) else (none)) else (none))
set_option maxHeartbeats 8000000 in
set_option maxRecDepth 100000 in
theorem spec_l1Int.calls (g : Nat) (s0_0 : List Int) (s0_1 : Int) (s0_2 : Int) (A1 : Option Addr) (c1 : Nat) (l1 : List Int) (r1 : Int) (r2 : Int) (r3 : Int) (w0 w : World) (hI : IsS86 w0 w g s0_0 s0_1 s0_2) (hB : Below w0.heap.size w0 w) (hr1 : Kd.C (Kd.int .i64) w A1 l1.length l1) (hc1 : l1.length ≤ c1) (hf1 : ∀ ad, A1 = some ad → 0 < l1.length → ad.block ≠ g) (h : spec_l1Int.f s0_0 s0_1 s0_2 l1 = some (r1, r2, r3)) :
  Calls Try.prog 65 #[.pointer (some ⟨g, 0, none⟩), .slice A1 l1.length c1] w fun e w' => e = .returned (.int .i64 r1) ∧ IsS86 w0 w' g s0_0 r2 r3 ∧ Below w0.heap.size w0 w' ∧ KeepBut w w' g none := by
 have HR1 := σp hr1
 have HC1 := σp hc1
 clear hr1 hc1
 have HI0 := σp hI
 have HK := σp (KeepBut.refl w g none)
 have HL := σp hB.size
 clear hI
 have HW0 := σp hB.size
 have HB := σp hB
 clear hB
 have H : ((spec_l1Below.f s0_0 s0_1 s0_2 (l1.length : Int)).bind fun bt338 => (if 0 ≤ bt338.1 then (if bt338.1 < (l1.length : Int) then (some (rd l1 bt338.1, bt338.2.1, bt338.2.2)) else (none)) else (none))) = some (r1, r2, r3) := h
 clear h
 replace H := Option.bind_eq_some_iff.mp H
 obtain ⟨⟨t338, t339, t340⟩, A30, H⟩ := H
 try dsimp only at H
 have A3 := σp A30
 clear A30
 by_cases c4 : 0 ≤ t338
 ·
  rw [if_pos c4] at H
  have c4b0 : decide (0 ≤ t338) = true := decide_eq_true c4
  clear c4
  by_cases c5 : t338 < (l1.length : Int)
  ·
   rw [if_pos c5] at H
   have c5b0 : decide (t338 < (l1.length : Int)) = true := decide_eq_true c5
   clear c5
   simp only [Option.some.injEq, Prod.mk.injEq] at H
   obtain ⟨rfl, rfl, rfl⟩ := H
   go_enter Try.func65, Try.ntmps65
   go_wp2_with (first | ((with_reducible refine gate_callee (f := 64) rfl ?_); refine goesL_ (some 9) rfl rfl Try.func64 (by kernel_rfl) rfl #[.pointer (some ⟨g, 0, none⟩), .int .i64 (l1.length : Int)] rfl (by (try simp only [List.map_toArray, List.map_cons, List.map_nil]); first | done | rfl | (simp only [List.length_drop, List.length_take]; rfl)) ?_; (with_reducible refine (spec_l1Below.calls g s0_0 s0_1 s0_2 (l1.length : Int) t338 t339 t340 w0 _ ?side1 ?side2 A3.out).mono ?_); (case side1 => repeat (first | (with_reducible first | exact HI0.out | apply IsS86.alloc | apply IsS86.drewN | apply IsS86.drew | apply IsS86.set_1 | apply IsS86.set_2) | exact HI0.out)); (case side2 => repeat (first | (with_reducible first | exact HB.out | apply σj | apply σh | apply σi | refine σg ?_ (IsS86.ge HI0.out)) | exact HB.out)); rintro e w6 ⟨rfl, hi, hb, hk⟩; refine ⟨_, rfl, ?_⟩; have n0_ := σp (KeepBut.trans (by repeat (first | (with_reducible first | exact HK.out | apply KeepBut.set_ | apply keep_drewN | apply keep_drew | apply keep_alloc) | exact HK.out)) hk (.inl rfl)); have n1_ := σp (hb); have n2_ := σp (hi); clear HK; clear HB; clear HI0; have HK := n0_; have HB := n1_; have HI0 := n2_; clear n0_ n1_ n2_; (try clear hb); (try clear hb2); (try clear hk); (try clear hi); have p341 : 0 ≤ (t338 : Int) := of_decide_eq_true (by first | (with_reducible assumption) | assumption); have q341 : t338 < (l1.length : Int) := of_decide_eq_true (by first | (with_reducible assumption) | assumption); obtain ⟨ad341, e341, hx341_0⟩ := Kd.at_int HR1.out t338 p341 q341; cases e341; replace hx341_0 := keep_cell HK.out hx341_0 (by first | (rw [add_block]; exact hf1 _ rfl (by omega)) | exact hf1 _ rfl (by omega) | exact hf1 ad341 rfl (by omega)); replace p341 := eq_true p341; replace q341 := eq_true q341))
   go_ret
   exact ⟨by first | rfl | (simp [errW_none, errW_some] <;> rfl) | (simp [*, errW_none, errW_some] <;> rfl), by repeat (first | (with_reducible first | exact HI0.out | apply IsS86.alloc | apply IsS86.drewN | apply IsS86.drew | apply IsS86.set_1 | apply IsS86.set_2) | exact HI0.out), by repeat (first | (with_reducible first | exact HB.out | apply σj | apply σh | apply σi | refine σg ?_ (IsS86.ge HI0.out)) | exact HB.out), by repeat (first | (with_reducible first | exact HK.out | apply KeepBut.set_ | apply keep_drewN | apply keep_drew | apply keep_alloc) | exact HK.out)⟩
  rw [if_neg c5] at H
  exact absurd H (by simp)
 rw [if_neg c4] at H
 exact absurd H (by simp)

/-! ### spec_l1Once: function 66 -/
def spec_l1Once.f (s0_0 : List Int) (s0_1 : Int) (s0_2 : Int) (a1 : Int) : Option (Bool × Int × Int) := (spec_l1Below.f s0_0 s0_1 s0_2 a1).bind fun bt342 => (some ((bt342.1 == 0), bt342.2.1, bt342.2.2))
set_option maxHeartbeats 8000000 in
set_option maxRecDepth 100000 in
theorem spec_l1Once.calls (g : Nat) (s0_0 : List Int) (s0_1 : Int) (s0_2 : Int) (a1 : Int) (r1 : Bool) (r2 : Int) (r3 : Int) (w0 w : World) (hI : IsS86 w0 w g s0_0 s0_1 s0_2) (hB : Below w0.heap.size w0 w) (h : spec_l1Once.f s0_0 s0_1 s0_2 a1 = some (r1, r2, r3)) :
  Calls Try.prog 66 #[.pointer (some ⟨g, 0, none⟩), .int .i64 a1] w fun e w' => e = .returned (.bool r1) ∧ IsS86 w0 w' g s0_0 r2 r3 ∧ Below w0.heap.size w0 w' ∧ KeepBut w w' g none := by
 have HI0 := σp hI
 have HK := σp (KeepBut.refl w g none)
 have HL := σp hB.size
 clear hI
 have HW0 := σp hB.size
 have HB := σp hB
 clear hB
 have H : ((spec_l1Below.f s0_0 s0_1 s0_2 a1).bind fun bt342 => (some ((bt342.1 == 0), bt342.2.1, bt342.2.2))) = some (r1, r2, r3) := h
 clear h
 replace H := Option.bind_eq_some_iff.mp H
 obtain ⟨⟨t342, t343, t344⟩, A30, H⟩ := H
 try dsimp only at H
 have A3 := σp A30
 clear A30
 simp only [Option.some.injEq, Prod.mk.injEq] at H
 obtain ⟨rfl, rfl, rfl⟩ := H
 go_enter Try.func66, Try.ntmps66
 go_wp2_with (first | ((with_reducible refine gate_callee (f := 64) rfl ?_); refine goesL_ (some 7) rfl rfl Try.func64 (by kernel_rfl) rfl #[.pointer (some ⟨g, 0, none⟩), .int .i64 a1] rfl (by (try simp only [List.map_toArray, List.map_cons, List.map_nil]); first | done | rfl | (simp only [List.length_drop, List.length_take]; rfl)) ?_; (with_reducible refine (spec_l1Below.calls g s0_0 s0_1 s0_2 a1 t342 t343 t344 w0 _ ?side1 ?side2 A3.out).mono ?_); (case side1 => repeat (first | (with_reducible first | exact HI0.out | apply IsS86.alloc | apply IsS86.drewN | apply IsS86.drew | apply IsS86.set_1 | apply IsS86.set_2) | exact HI0.out)); (case side2 => repeat (first | (with_reducible first | exact HB.out | apply σj | apply σh | apply σi | refine σg ?_ (IsS86.ge HI0.out)) | exact HB.out)); rintro e w4 ⟨rfl, hi, hb, hk⟩; refine ⟨_, rfl, ?_⟩; have n0_ := σp (KeepBut.trans (by repeat (first | (with_reducible first | exact HK.out | apply KeepBut.set_ | apply keep_drewN | apply keep_drew | apply keep_alloc) | exact HK.out)) hk (.inl rfl)); have n1_ := σp (hb); have n2_ := σp (hi); clear HK; clear HB; clear HI0; have HK := n0_; have HB := n1_; have HI0 := n2_; clear n0_ n1_ n2_; (try clear hb); (try clear hb2); (try clear hk); (try clear hi)))
 go_ret
 exact ⟨by first | rfl | (simp [errW_none, errW_some] <;> rfl) | (simp [*, errW_none, errW_some] <;> rfl), by repeat (first | (with_reducible first | exact HI0.out | apply IsS86.alloc | apply IsS86.drewN | apply IsS86.drew | apply IsS86.set_1 | apply IsS86.set_2) | exact HI0.out), by repeat (first | (with_reducible first | exact HB.out | apply σj | apply σh | apply σi | refine σg ?_ (IsS86.ge HI0.out)) | exact HB.out), by repeat (first | (with_reducible first | exact HK.out | apply KeepBut.set_ | apply keep_drewN | apply keep_drew | apply keep_alloc) | exact HK.out)⟩

/-! ### spec_l28Any: function 63 -/
def spec_l28Any.l0 : Nat → List (S46) → Int → Int → List Int → Int → Int → Int → Int → Int → Option (Int × Int × Int × (List (S46)) × Int × Int)
 | 0, _, _, _, _, _, _, _, _, _ => none
 | k + 1, x5, x6, x7, x1000, x1001, x1002, x350000, x350001, x350002 => if x7 > 0 then ((spec_l1Below.f x1000 x1001 x1002 60).bind fun bt356 => ((spec_l1Below.f x1000 bt356.2.1 bt356.2.2 5).bind fun bt359 => ((spec_l1Once.f x1000 bt359.2.1 bt359.2.2 3).bind fun bt362 => ((spec_MakeOffer.f k x350000 x350001 x350002 x5 (wrap64 ((wrap64 (x6 + 1)) + bt356.1)) (wrap64 (1 + bt359.1)) bt362.1).bind fun bt365 => (spec_l28Any.l0 k bt365.1 (wrap64 ((wrap64 (x6 + 1)) + bt356.1)) (wrap64 (x7 - 1)) x1000 bt362.2.1 bt362.2.2 x350000 x350001 x350002))))) else ((spec_l1Below.f x1000 x1001 x1002 10).bind fun bt369 => (if bt369.1 = 0 then ((spec_l1Int.f x1000 bt369.2.1 bt369.2.2 (([119, 120, 1000, 1001] : List Int))).bind fun bt375 => (some (x350000, bt375.1, x350002, x5, bt375.2.1, bt375.2.2))) else (if bt369.1 = 1 then (some (2, x350001, x350002, x5, bt369.2.1, bt369.2.2)) else (some (x350000, x350001, x350002, x5, bt369.2.1, bt369.2.2)))))
def spec_l28Any.f (k : Nat) (s0_0 : List Int) (s0_1 : Int) (s0_2 : Int) : Option (Int × Int × Int × (List (S46)) × Int × Int) := (spec_l1Below.f s0_0 s0_1 s0_2 6).bind fun bt346 => ((spec_l1Below.f s0_0 bt346.2.1 bt346.2.2 7).bind fun bt353 => (spec_l28Any.l0 k (([] : List (S46))) 50 bt353.1 s0_0 bt353.2.1 bt353.2.2 7 (wrap64 (60 * (wrap64 (2 + bt346.1)))) 0))
theorem spec_l28Any.mono_l : ∀ k, (∀ y0 y1 y2 y3 y4 y5 y6 y7 y8, LeO (spec_l28Any.l0 k y0 y1 y2 y3 y4 y5 y6 y7 y8) (spec_l28Any.l0 (k + 1) y0 y1 y2 y3 y4 y5 y6 y7 y8))
 | 0 => fun _ _ _ _ _ _ _ _ _ r h => by simp [spec_l28Any.l0] at h
 | k + 1 => by
  have ih0 := spec_l28Any.mono_l k
  intro y0 y1 y2 y3 y4 y5 y6 y7 y8
  unfold spec_l28Any.l0
  repeat' first
  | (with_reducible exact ih0 _ _ _ _ _ _ _ _ _)
  | (with_reducible exact spec_MakeOffer.mono _ _ _ _ _ _ _ _)
  | (with_reducible exact LeO.refl _)
  | (with_reducible exact LeO.none _)
  | (with_reducible refine LeO.ite ?_ ?_)
  | (with_reducible refine LeO.bind ?_ (fun _ => ?_))
  | exact ih0 _ _ _ _ _ _ _ _ _
  | exact spec_MakeOffer.mono _ _ _ _ _ _ _ _
  | exact LeO.none _
  | refine LeO.ite ?_ ?_
  | refine LeO.bind ?_ (fun _ => ?_)
theorem spec_l28Any.mono : ∀ a0 a1 a2 k, LeO (spec_l28Any.f k a0 a1 a2) (spec_l28Any.f (k + 1) a0 a1 a2) := by
 intro a0 a1 a2 k
 have ih0 := spec_l28Any.mono_l k
 unfold spec_l28Any.f
 repeat' first
   | (with_reducible exact ih0 _ _ _ _ _ _ _ _ _)
   | (with_reducible exact spec_MakeOffer.mono _ _ _ _ _ _ _ _)
   | (with_reducible exact LeO.refl _)
   | (with_reducible exact LeO.none _)
   | (with_reducible refine LeO.ite ?_ ?_)
   | (with_reducible refine LeO.bind ?_ (fun _ => ?_))
   | exact ih0 _ _ _ _ _ _ _ _ _
   | exact spec_MakeOffer.mono _ _ _ _ _ _ _ _
   | exact LeO.none _
   | refine LeO.ite ?_ ?_
   | refine LeO.bind ?_ (fun _ => ?_)
def spec_l28Any.T8 : Bool × List (List Nat × List Nat) := (true, [([], []), ([], []), ([], []), ([], []), ([3], [3]), ([4], [4]), ([], []), ([6, 4], [6]), ([2, 5, 7], [2, 5, 7]), ([0, 1, 8, 7], [0, 1, 8]), ([9], [9]), ([10], [10]), ([10], [10]), ([11, 9, 0, 1, 2, 3, 4, 5, 6, 7, 8, 9, 10, 11], [1, 11])])
def spec_l28Any.B8 : List Nat := [0, 0, 0, 0, 8, 24, 0, 88, 252, 511, 1023, 2047, 2047, 4095]
theorem spec_l28Any.tab8 : rtab .any (opsOf Try.f63 8) = spec_l28Any.T8 := by kernel_rfl
theorem spec_l28Any.bits8 : waitsOk spec_l28Any.T8.2 spec_l28Any.B8 = true := by kernel_rfl
set_option maxHeartbeats 8000000 in
set_option maxRecDepth 100000 in
theorem spec_l28Any.calls (k : Nat) (g : Nat) (s0_0 : List Int) (s0_1 : Int) (s0_2 : Int) (r1 : Int) (r2 : Int) (r3 : Int) (r4 : List (S46)) (r5 : Int) (r6 : Int) (w0 w : World) (hI : IsS86 w0 w g s0_0 s0_1 s0_2) (hB : Below w0.heap.size w0 w) (h : spec_l28Any.f k s0_0 s0_1 s0_2 = some (r1, r2, r3, r4, r5, r6)) :
  Calls Try.prog 63 #[.pointer (some ⟨g, 0, none⟩)] w fun e w' => ∃ v3_ : Value, e = .returned (.tuple #[.agg #[.int .i64 r1, .int .i64 r2, .int .i64 r3], v3_]) ∧ Kd.R k46 46 w' w.heap.size (fun _ => True) v3_ r4 ∧ IsS86 w0 w' g s0_0 r5 r6 ∧ Below w0.heap.size w0 w' ∧ KeepBut w w' g none := by
 have hu25 := Try.underlying25
 have hu46 := Try.underlying46
 have HI0 := σp hI
 have HK := σp (KeepBut.refl w g none)
 have HL := σp hB.size
 clear hI
 have HW0 := σp hB.size
 have HB := σp hB
 clear hB
 have H : ((spec_l1Below.f s0_0 s0_1 s0_2 6).bind fun bt346 => ((spec_l1Below.f s0_0 bt346.2.1 bt346.2.2 7).bind fun bt353 => (spec_l28Any.l0 k (([] : List (S46))) 50 bt353.1 s0_0 bt353.2.1 bt353.2.2 7 (wrap64 (60 * (wrap64 (2 + bt346.1)))) 0))) = some (r1, r2, r3, r4, r5, r6) := h
 clear h
 replace H := Option.bind_eq_some_iff.mp H
 obtain ⟨⟨t346, t347, t348⟩, A20, H⟩ := H
 try dsimp only at H
 have A2 := σp A20
 clear A20
 obtain ⟨y350, hy350⟩ : ∃ y_ : List (S46), y_ = (([] : List (S46))) := ⟨_, rfl⟩
 replace H : ((spec_l1Below.f s0_0 t347 t348 7).bind fun bt353 => (spec_l28Any.l0 k y350 50 bt353.1 s0_0 bt353.2.1 bt353.2.2 7 (wrap64 (60 * (wrap64 (2 + t346)))) 0)) = some (r1, r2, r3, r4, r5, r6) := by first | (rw [hy350]; with_reducible exact H) | (have H2_ := (Option.bind_some _ _).symm.trans H; rw [hy350]; with_reducible exact H2_) | (have H2_ := (Option.bind_some _ _).symm.trans H; with_reducible exact H2_) | with_reducible exact H | (rw [hy350]; exact H) | exact H
 have Ny350 := σp hy350
 clear hy350
 replace H := Option.bind_eq_some_iff.mp H
 obtain ⟨⟨t353, t354, t355⟩, A30, H⟩ := H
 try dsimp only at H
 have A3 := σp A30
 clear A30
 have H' := σp H
 clear H
 go_enter Try.func63, Try.ntmps63
 go_wp2_with (first | ((with_reducible refine gate_dst (N := 2) rfl ?_); refine box_event ?hg (N := 2) ?hd (cs := #[.int .i64 0, .int .i64 0, .int .i64 0]) (t := 25) ?hr ?_; (case hd => rfl); (case hg => rfl); (case hr => first | (go_simp; done) | (go_simp; rfl)); intro gb345 hg w4 hbox hb; have n0_ := σp (IsS86.below (by repeat (first | (with_reducible first | exact HI0.out | apply IsS86.alloc | apply IsS86.drewN | apply IsS86.drew | apply IsS86.set_1 | apply IsS86.set_2) | exact HI0.out)) hb); have n1_ := σp (KeepBut.trans (by repeat (first | (with_reducible first | exact HK.out | apply KeepBut.set_ | apply keep_drewN | apply keep_drew | apply keep_alloc) | exact HK.out)) (KeepBut.of_below hb g none) (.inl rfl)); have n2_ := σp (below_step (by repeat (first | (with_reducible first | exact HB.out | apply σj | apply σh | apply σi | refine σg ?_ (IsS86.ge HI0.out)) | exact HB.out)) hb); have n3_ := σp (hbox); have n4_ := σp ((by rw [hg]; exact (keep_size (w := w) (g := g) (row := none) (by repeat (first | (with_reducible first | exact HK.out | apply KeepBut.set_ | apply keep_drewN | apply keep_drew | apply keep_alloc) | exact HK.out))) : w.heap.size ≤ gb345)); have n5_ := σp ((Nat.le_trans HW0.out (by rw [hg]; exact (keep_size (w := w) (g := g) (row := none) (by repeat (first | (with_reducible first | exact HK.out | apply KeepBut.set_ | apply keep_drewN | apply keep_drew | apply keep_alloc) | exact HK.out))) : w.heap.size ≤ gb345) : w0.heap.size ≤ gb345)); have n6_ := σp ((by rw [hg]; exact Nat.ne_of_lt (IsS86.lt (show IsS86 w0 _ g s0_0 s0_1 s0_2 from by repeat (first | (with_reducible first | exact HI0.out | apply IsS86.alloc | apply IsS86.drewN | apply IsS86.drew | apply IsS86.set_1 | apply IsS86.set_2) | exact HI0.out))) : g ≠ gb345)); have n7_ := σp ((by rw [hg]; exact Nat.ne_of_gt (IsS86.lt (show IsS86 w0 _ g s0_0 s0_1 s0_2 from by repeat (first | (with_reducible first | exact HI0.out | apply IsS86.alloc | apply IsS86.drewN | apply IsS86.drew | apply IsS86.set_1 | apply IsS86.set_2) | exact HI0.out))) : gb345 ≠ g)); clear HI0; clear HK; clear HB; have HI0 := n0_; have HK := n1_; have HB := n2_; have BK345 := n3_; have GW345 := n4_; have GE345 := n5_; have NB0_345 := n6_; have NB345_0 := n7_; clear n0_ n1_ n2_ n3_ n4_ n5_ n6_ n7_; clear hb hbox hg) | ((with_reducible refine gate_callee (f := 64) rfl ?_); refine goesL_ (some 9) rfl rfl Try.func64 (by kernel_rfl) rfl #[.pointer (some ⟨g, 0, none⟩), .int .i64 6] rfl (by (try simp only [List.map_toArray, List.map_cons, List.map_nil]); first | done | rfl | (simp only [List.length_drop, List.length_take]; rfl)) ?_; (with_reducible refine (spec_l1Below.calls g s0_0 s0_1 s0_2 6 t346 t347 t348 w0 _ ?side1 ?side2 A2.out).mono ?_); (case side1 => repeat (first | (with_reducible first | exact HI0.out | apply IsS86.alloc | apply IsS86.drewN | apply IsS86.drew | apply IsS86.set_1 | apply IsS86.set_2 | refine IsS86.far ?_ NB0_345.out _) | exact HI0.out)); (case side2 => repeat (first | (with_reducible first | exact HB.out | apply σj | apply σh | apply σi | refine σg ?_ (IsS86.ge HI0.out) | refine σg ?_ GE345.out) | exact HB.out)); rintro e w5 ⟨rfl, hi, hb, hk⟩; refine ⟨_, rfl, ?_⟩; have n0_ := σp (KeepBut.blk hk (g' := gb345) (o := .cells #[.int .i64 0, .int .i64 0, .int .i64 0] 25 (0, 0)) (by (with_reducible repeat (first | refine σa ?_ _ | refine σc ?_ | refine σb ?_ _)); exact BK345.out) NB345_0.out (by simp)); have n1_ := σp (KeepBut.trans (by repeat (first | (with_reducible first | exact HK.out | apply KeepBut.set_ | apply keep_drewN | apply keep_drew | apply keep_alloc | refine keep_far ?_ GW345.out _) | exact HK.out)) hk (.inl rfl)); have n2_ := σp (hb); have n3_ := σp (hi); clear BK345; clear HK; clear HB; clear HI0; have BK345 := n0_; have HK := n1_; have HB := n2_; have HI0 := n3_; clear n0_ n1_ n2_ n3_; (try clear hb); (try clear hb2); (try clear hk); (try clear hi)) | ((with_reducible refine gate_dst (N := 4) rfl ?_); refine box_event ?hg (N := 4) ?hd (cs := #[.int .i64 0, .int .i64 0, .int .i64 0]) (t := 25) ?hr ?_; (case hd => rfl); (case hg => rfl); (case hr => first | (go_simp; done) | (go_simp; rfl)); intro gb349 hg w6 hbox hb; have n0_ := σp (IsS86.below (by repeat (first | (with_reducible first | exact HI0.out | apply IsS86.alloc | apply IsS86.drewN | apply IsS86.drew | apply IsS86.set_1 | apply IsS86.set_2 | refine IsS86.far ?_ NB0_345.out _) | exact HI0.out)) hb); have n1_ := σp (blk_below (g := gb345) (o := .cells #[.int .i64 0, .int .i64 0, .int .i64 0] 25 (0, 0)) (by (with_reducible repeat (first | refine σa ?_ _ | refine σc ?_ | refine σb ?_ _)); exact BK345.out) hb); have n2_ := σp (KeepBut.trans (by repeat (first | (with_reducible first | exact HK.out | apply KeepBut.set_ | apply keep_drewN | apply keep_drew | apply keep_alloc | refine keep_far ?_ GW345.out _) | exact HK.out)) (KeepBut.of_below hb g none) (.inl rfl)); have n3_ := σp (below_step (by repeat (first | (with_reducible first | exact HB.out | apply σj | apply σh | apply σi | refine σg ?_ (IsS86.ge HI0.out) | refine σg ?_ GE345.out) | exact HB.out)) hb); have n4_ := σp (hbox); have n5_ := σp ((by rw [hg]; exact (keep_size (w := w) (g := g) (row := none) (by repeat (first | (with_reducible first | exact HK.out | apply KeepBut.set_ | apply keep_drewN | apply keep_drew | apply keep_alloc | refine keep_far ?_ GW345.out _) | exact HK.out))) : w.heap.size ≤ gb349)); have n6_ := σp ((Nat.le_trans HW0.out (by rw [hg]; exact (keep_size (w := w) (g := g) (row := none) (by repeat (first | (with_reducible first | exact HK.out | apply KeepBut.set_ | apply keep_drewN | apply keep_drew | apply keep_alloc | refine keep_far ?_ GW345.out _) | exact HK.out))) : w.heap.size ≤ gb349) : w0.heap.size ≤ gb349)); have n7_ := σp ((by rw [hg]; exact Nat.ne_of_lt (blk_lt (g := gb345) (o := .cells #[.int .i64 0, .int .i64 0, .int .i64 0] 25 (0, 0)) (by (with_reducible repeat (first | refine σa ?_ _ | refine σc ?_ | refine σb ?_ _)); exact BK345.out)) : gb345 ≠ gb349)); have n8_ := σp ((by rw [hg]; exact Nat.ne_of_gt (blk_lt (g := gb345) (o := .cells #[.int .i64 0, .int .i64 0, .int .i64 0] 25 (0, 0)) (by (with_reducible repeat (first | refine σa ?_ _ | refine σc ?_ | refine σb ?_ _)); exact BK345.out)) : gb349 ≠ gb345)); have n9_ := σp ((by rw [hg]; exact Nat.ne_of_lt (IsS86.lt (show IsS86 w0 _ g s0_0 t347 t348 from by repeat (first | (with_reducible first | exact HI0.out | apply IsS86.alloc | apply IsS86.drewN | apply IsS86.drew | apply IsS86.set_1 | apply IsS86.set_2 | refine IsS86.far ?_ NB0_345.out _) | exact HI0.out))) : g ≠ gb349)); have n10_ := σp ((by rw [hg]; exact Nat.ne_of_gt (IsS86.lt (show IsS86 w0 _ g s0_0 t347 t348 from by repeat (first | (with_reducible first | exact HI0.out | apply IsS86.alloc | apply IsS86.drewN | apply IsS86.drew | apply IsS86.set_1 | apply IsS86.set_2 | refine IsS86.far ?_ NB0_345.out _) | exact HI0.out))) : gb349 ≠ g)); clear HI0; clear BK345; clear HK; clear HB; have HI0 := n0_; have BK345 := n1_; have HK := n2_; have HB := n3_; have BK349 := n4_; have GW349 := n5_; have GE349 := n6_; have NB345_349 := n7_; have NB349_345 := n8_; have NB0_349 := n9_; have NB349_0 := n10_; clear n0_ n1_ n2_ n3_ n4_ n5_ n6_ n7_ n8_ n9_ n10_; clear hb hbox hg; have hnb7 := NB349_345.out; have hnc7 := NB345_349.out; have hnb8 := NB349_0.out; have hnc8 := NB0_349.out; have hcz9_0 : w6.cell? ⟨gb349, 0, none⟩ = some (.int .i64 0) := (σk BK349.out 0).trans rfl; have hcz9_1 : w6.cell? ⟨gb349, 1, none⟩ = some (.int .i64 0) := (σk BK349.out 1).trans rfl; have hcz9_2 : w6.cell? ⟨gb349, 2, none⟩ = some (.int .i64 0) := (σk BK349.out 2).trans rfl; have hfz9_0 := blk_frozen BK349.out 0; have hfz9_1 := blk_frozen BK349.out 1; have hfz9_2 := blk_frozen BK349.out 2) | ((with_reducible refine gate_dst (N := 13) rfl ?_); refine Kd.R_lit k46 _ 46 ?hg (N := 13) ?hd (xs := ([] : List (S46))) (inner := []) (ok := fun _ => True) (okp := fun _ => True) ?hr ?hp (fun _ hk => hk) trivial (Below.refl _ _) (Nat.le_refl _) (by simp) ?_; (case hd => rfl); (case hg => rfl); (case hr => first | (go_simp; done) | (go_simp; rfl)); (case hp => exact (Reps.none _ _)); intro v351 w10 ho11 hb hg_ hnew_; clear hg_ hnew_; (first | rw [← Ny350.out] at ho11 | (simp only [Int.reduceToNat] at ho11; rw [← Ny350.out] at ho11)); have n0_ := σp (Kd.R_lower ho11 (keep_size (w := w) (g := g) (row := none) (by repeat (first | (with_reducible first | exact HK.out | apply KeepBut.set_ | apply keep_drewN | apply keep_drew | apply keep_alloc | refine keep_far ?_ GW345.out _ | refine keep_far ?_ GW349.out _) | exact HK.out)))); have n1_ := σp (IsS86.below (show IsS86 w0 (((w6.setCell ⟨gb349, 0, none⟩ (.int .i64 7)).setCell ⟨gb349, 1, none⟩ (.int .i64 (wrap64 (60 * (wrap64 (2 + t346)))))).setCell ⟨gb349, 2, none⟩ (.int .i64 0)) g s0_0 t347 t348 from by repeat (first | (with_reducible first | exact HI0.out | apply IsS86.alloc | apply IsS86.drewN | apply IsS86.drew | apply IsS86.set_1 | apply IsS86.set_2 | refine IsS86.far ?_ NB0_345.out _ | refine IsS86.far ?_ NB0_349.out _) | exact HI0.out)) hb); have n2_ := σp (blk_below (g := gb345) (o := .cells #[.int .i64 0, .int .i64 0, .int .i64 0] 25 (0, 0)) (by (with_reducible repeat (first | refine σa ?_ _ | refine σc ?_ | refine σb ?_ _)); refine blk_far ?_ NB345_349.out _; (with_reducible repeat (first | refine σa ?_ _ | refine σc ?_ | refine σb ?_ _)); refine blk_far ?_ NB345_349.out _; (with_reducible repeat (first | refine σa ?_ _ | refine σc ?_ | refine σb ?_ _)); refine blk_far ?_ NB345_349.out _; (with_reducible repeat (first | refine σa ?_ _ | refine σc ?_ | refine σb ?_ _)); exact BK345.out) hb); have n3_ := σp (blk_below (g := gb349) (o := .cells #[.int .i64 7, .int .i64 (wrap64 (60 * (wrap64 (2 + t346)))), .int .i64 0] 25 (0, 0)) (by (with_reducible repeat (first | refine σa ?_ _ | refine σc ?_ | refine σb ?_ _)); refine blk_put (cs := #[.int .i64 7, .int .i64 (wrap64 (60 * (wrap64 (2 + t346)))), .int .i64 0]) ?_ 2 _ rfl; (with_reducible repeat (first | refine σa ?_ _ | refine σc ?_ | refine σb ?_ _)); refine blk_put (cs := #[.int .i64 7, .int .i64 0, .int .i64 0]) ?_ 1 _ rfl; (with_reducible repeat (first | refine σa ?_ _ | refine σc ?_ | refine σb ?_ _)); refine blk_put (cs := #[.int .i64 0, .int .i64 0, .int .i64 0]) ?_ 0 _ rfl; (with_reducible repeat (first | refine σa ?_ _ | refine σc ?_ | refine σb ?_ _)); exact BK349.out) hb); have n4_ := σp (KeepBut.trans (by repeat (first | (with_reducible first | exact HK.out | apply KeepBut.set_ | apply keep_drewN | apply keep_drew | apply keep_alloc | refine keep_far ?_ GW345.out _ | refine keep_far ?_ GW349.out _) | exact HK.out)) (KeepBut.of_below hb g none) (.inl rfl)); have n5_ := σp (below_step (by repeat (first | (with_reducible first | exact HB.out | apply σj | apply σh | apply σi | refine σg ?_ (IsS86.ge HI0.out) | refine σg ?_ GE345.out | refine σg ?_ GE349.out) | exact HB.out)) hb); clear HI0; clear BK345; clear BK349; clear HK; clear HB; have HO352 := n0_; have HI0 := n1_; have BK345 := n2_; have BK349 := n3_; have HK := n4_; have HB := n5_; clear n0_ n1_ n2_ n3_ n4_ n5_; clear hb ho11) | ((with_reducible refine gate_callee (f := 64) rfl ?_); refine goesL_ (some 15) rfl rfl Try.func64 (by kernel_rfl) rfl #[.pointer (some ⟨g, 0, none⟩), .int .i64 7] rfl (by (try simp only [List.map_toArray, List.map_cons, List.map_nil]); first | done | rfl | (simp only [List.length_drop, List.length_take]; rfl)) ?_; (with_reducible refine (spec_l1Below.calls g s0_0 t347 t348 7 t353 t354 t355 w0 _ ?side1 ?side2 A3.out).mono ?_); (case side1 => repeat (first | (with_reducible first | exact HI0.out | apply IsS86.alloc | apply IsS86.drewN | apply IsS86.drew | apply IsS86.set_1 | apply IsS86.set_2 | refine IsS86.far ?_ NB0_345.out _ | refine IsS86.far ?_ NB0_349.out _) | exact HI0.out)); (case side2 => repeat (first | (with_reducible first | exact HB.out | apply σj | apply σh | apply σi | refine σg ?_ (IsS86.ge HI0.out) | refine σg ?_ GE345.out | refine σg ?_ GE349.out) | exact HB.out)); rintro e w12 ⟨rfl, hi, hb, hk⟩; refine ⟨_, rfl, ?_⟩; have n0_ := σp (KeepBut.blk hk (g' := gb345) (o := .cells #[.int .i64 0, .int .i64 0, .int .i64 0] 25 (0, 0)) (by (with_reducible repeat (first | refine σa ?_ _ | refine σc ?_ | refine σb ?_ _)); exact BK345.out) NB345_0.out (by simp)); have n1_ := σp (KeepBut.blk hk (g' := gb349) (o := .cells #[.int .i64 7, .int .i64 (wrap64 (60 * (wrap64 (2 + t346)))), .int .i64 0] 25 (0, 0)) (by (with_reducible repeat (first | refine σa ?_ _ | refine σc ?_ | refine σb ?_ _)); exact BK349.out) NB349_0.out (by simp)); have n2_ := σp (Kd.R_mono (Kd.R_keep (IsS86.apart (show IsS86 w0 _ g s0_0 t347 t348 from by repeat (first | (with_reducible first | exact HI0.out | apply IsS86.alloc | apply IsS86.drewN | apply IsS86.drew | apply IsS86.set_1 | apply IsS86.set_2 | refine IsS86.far ?_ NB0_345.out _ | refine IsS86.far ?_ NB0_349.out _) | exact HI0.out)) (by (with_reducible repeat (first | apply Kd.R_alloc | apply Kd.R_drewN | apply Kd.R_drew)); exact HO352.out) (by decide)) hk (fun _ h => h.2)) (fun _ h => h.1)); have n3_ := σp (KeepBut.trans (by repeat (first | (with_reducible first | exact HK.out | apply KeepBut.set_ | apply keep_drewN | apply keep_drew | apply keep_alloc | refine keep_far ?_ GW345.out _ | refine keep_far ?_ GW349.out _) | exact HK.out)) hk (.inl rfl)); have n4_ := σp (hb); have n5_ := σp (hi); clear BK345; clear BK349; clear HO352; clear HK; clear HB; clear HI0; have BK345 := n0_; have BK349 := n1_; have HO352 := n2_; have HK := n3_; have HB := n4_; have HI0 := n5_; clear n0_ n1_ n2_ n3_ n4_ n5_; (try clear hb); (try clear hb2); (try clear hk); (try clear hi)))
 go_loopg [5, 6, 7] k (fun kq v5 v6 v7 w' => ∃ (x5_1 : List (S46)) (x6_1 : Int) (x7_1 : Int) (x1001_1 : Int) (x1002_1 : Int), v6 = .int .i64 x6_1 ∧ v7 = .int .i64 x7_1 ∧ Aside0 (spec_l28Any.l0 kq x5_1 x6_1 x7_1 s0_0 x1001_1 x1002_1 7 (wrap64 (60 * (wrap64 (2 + t346)))) 0 = some (r1, r2, r3, r4, r5, r6)) ∧ Aside0 (kq ≤ k) ∧ Aside0 (Kd.R k46 46 w' w.heap.size (fun _ => True) v5 x5_1) ∧ Aside0 (w'.heap[gb345]? = some (.cells #[.int .i64 0, .int .i64 0, .int .i64 0] 25 (0, 0))) ∧ Aside0 (w'.heap[gb349]? = some (.cells #[.int .i64 7, .int .i64 (wrap64 (60 * (wrap64 (2 + t346)))), .int .i64 0] 25 (0, 0))) ∧ Aside0 (IsS86 w0 w' g s0_0 x1001_1 x1002_1) ∧ Aside0 (KeepBut w w' g none) ∧ Aside0 (Below w0.heap.size w0 w'))
 case atStart => exact ⟨(y350), (50), (t353), (t354), (t355), (by first | rfl | (simp; done) | (simp [*]; done)), (by first | rfl | (simp; done) | (simp [*]; done)), H', ⟨Nat.le_refl _⟩, ⟨by (with_reducible repeat (first | apply Kd.R_alloc | apply Kd.R_drewN | apply Kd.R_drew)); exact HO352.out⟩, ⟨by (with_reducible repeat (first | refine σa ?_ _ | refine σc ?_ | refine σb ?_ _)); exact BK345.out⟩, ⟨by (with_reducible repeat (first | refine σa ?_ _ | refine σc ?_ | refine σb ?_ _)); exact BK349.out⟩, ⟨by repeat (first | (with_reducible first | exact HI0.out | apply IsS86.alloc | apply IsS86.drewN | apply IsS86.drew | apply IsS86.set_1 | apply IsS86.set_2 | refine IsS86.far ?_ NB0_345.out _ | refine IsS86.far ?_ NB0_349.out _) | exact HI0.out)⟩, ⟨by repeat (first | (with_reducible first | exact HK.out | apply KeepBut.set_ | apply keep_drewN | apply keep_drew | apply keep_alloc | refine keep_far ?_ GW345.out _ | refine keep_far ?_ GW349.out _) | exact HK.out)⟩, ⟨by repeat (first | (with_reducible first | exact HB.out | apply σj | apply σh | apply σi | refine σg ?_ (IsS86.ge HI0.out) | refine σg ?_ GE345.out | refine σg ?_ GE349.out) | exact HB.out)⟩⟩
 case round =>
  clear H'
  try clear p2
  try clear c6
  try clear p6
  try clear c7
  try clear c8
  try clear hcz9_0
  try clear hcz9_1
  try clear hcz9_2
  try clear hfz9_0
  try clear hfz9_1
  try clear hfz9_2
  obtain ⟨x5_1, x6_1, x7_1, x1001_1, x1002_1, rfl, rfl, HA, HK1, HO_5, BK345, BK349, HI0, HK, HB⟩ := hrel
  cases gk with
  | zero => exact absurd HA.out (by simp [spec_l28Any.l0])
  | succ k1 =>
   have H := HA.out
   clear HA
   simp only [spec_l28Any.l0] at H
   by_cases c13 : x7_1 > 0
   ·
    rw [if_pos c13] at H
    have c13b0 : decide (0 < x7_1) = true := decide_eq_true c13
    clear c13
    replace H := Option.bind_eq_some_iff.mp H
    obtain ⟨⟨t356, t357, t358⟩, A140, H⟩ := H
    try dsimp only at H
    have A14 := σp A140
    clear A140
    replace H := Option.bind_eq_some_iff.mp H
    obtain ⟨⟨t359, t360, t361⟩, A150, H⟩ := H
    try dsimp only at H
    have A15 := σp A150
    clear A150
    replace H := Option.bind_eq_some_iff.mp H
    obtain ⟨⟨t362, t363, t364⟩, A160, H⟩ := H
    try dsimp only at H
    have A16 := σp A160
    clear A160
    replace H := Option.bind_eq_some_iff.mp H
    obtain ⟨⟨t365, t368⟩, A170, H⟩ := H
    try dsimp only at H
    have A17 := σp A170
    clear A170
    have H' := σp H
    clear H
    try go_wp2_with (first | ((with_reducible refine gate_callee (f := 64) rfl ?_); refine goesL_ (some 23) rfl rfl Try.func64 (by kernel_rfl) rfl #[.pointer (some ⟨g, 0, none⟩), .int .i64 60] rfl (by (try simp only [List.map_toArray, List.map_cons, List.map_nil]); first | done | rfl | (simp only [List.length_drop, List.length_take]; rfl)) ?_; (with_reducible refine (spec_l1Below.calls g s0_0 x1001_1 x1002_1 60 t356 t357 t358 w0 _ ?side1 ?side2 A14.out).mono ?_); (case side1 => repeat (first | (with_reducible first | exact HI0.out | apply IsS86.alloc | apply IsS86.drewN | apply IsS86.drew | apply IsS86.set_1 | apply IsS86.set_2 | refine IsS86.far ?_ NB0_345.out _ | refine IsS86.far ?_ NB0_349.out _) | exact HI0.out)); (case side2 => repeat (first | (with_reducible first | exact HB.out | apply σj | apply σh | apply σi | refine σg ?_ (IsS86.ge HI0.out) | refine σg ?_ GE345.out | refine σg ?_ GE349.out) | exact HB.out)); rintro e w18 ⟨rfl, hi, hb, hk⟩; refine ⟨_, rfl, ?_⟩; have n0_ := σp (Kd.R_mono (Kd.R_keep (IsS86.apart (show IsS86 w0 _ g s0_0 x1001_1 x1002_1 from by repeat (first | (with_reducible first | exact HI0.out | apply IsS86.alloc | apply IsS86.drewN | apply IsS86.drew | apply IsS86.set_1 | apply IsS86.set_2 | refine IsS86.far ?_ NB0_345.out _ | refine IsS86.far ?_ NB0_349.out _) | exact HI0.out)) (by (with_reducible repeat (first | apply Kd.R_alloc | apply Kd.R_drewN | apply Kd.R_drew)); exact HO_5.out) (by decide)) hk (fun _ h => h.2)) (fun _ h => h.1)); have n1_ := σp (KeepBut.blk hk (g' := gb345) (o := .cells #[.int .i64 0, .int .i64 0, .int .i64 0] 25 (0, 0)) (by (with_reducible repeat (first | refine σa ?_ _ | refine σc ?_ | refine σb ?_ _)); exact BK345.out) NB345_0.out (by simp)); have n2_ := σp (KeepBut.blk hk (g' := gb349) (o := .cells #[.int .i64 7, .int .i64 (wrap64 (60 * (wrap64 (2 + t346)))), .int .i64 0] 25 (0, 0)) (by (with_reducible repeat (first | refine σa ?_ _ | refine σc ?_ | refine σb ?_ _)); exact BK349.out) NB349_0.out (by simp)); have n3_ := σp (KeepBut.trans (by repeat (first | (with_reducible first | exact HK.out | apply KeepBut.set_ | apply keep_drewN | apply keep_drew | apply keep_alloc | refine keep_far ?_ GW345.out _ | refine keep_far ?_ GW349.out _) | exact HK.out)) hk (.inl rfl)); have n4_ := σp (hb); have n5_ := σp (hi); clear HO_5; clear BK345; clear BK349; clear HK; clear HB; clear HI0; have HO_5 := n0_; have BK345 := n1_; have BK349 := n2_; have HK := n3_; have HB := n4_; have HI0 := n5_; clear n0_ n1_ n2_ n3_ n4_ n5_; (try clear hb); (try clear hb2); (try clear hk); (try clear hi)))
    have n0_ := σp (Kd.R_drew HO_5.out)
    have n1_ := σp (σc BK345.out)
    have n2_ := σp (σc BK349.out)
    have n3_ := σp (IsS86.drew HI0.out)
    have n4_ := σp (keep_drew HK.out)
    have n5_ := σp (σi HB.out)
    clear HO_5
    clear BK345
    clear BK349
    clear HI0
    clear HK
    clear HB
    have HO_5 := n0_
    have BK345 := n1_
    have BK349 := n2_
    have HI0 := n3_
    have HK := n4_
    have HB := n5_
    clear n0_ n1_ n2_ n3_ n4_ n5_
    refine start_ (n := 14) (S := fun w' => w'.cell? ⟨gb349, 0, none⟩ = some (.int .i64 7) ∧ w'.cell? ⟨gb349, 1, none⟩ = some (.int .i64 (wrap64 (60 * (wrap64 (2 + t346))))) ∧ w'.cell? ⟨gb349, 2, none⟩ = some (.int .i64 0)) (ds := []) σ0 (by kernel_rfl) rfl rfl ⟨(σk BK349.out 0).trans rfl, (σk BK349.out 1).trans rfl, (σk BK349.out 2).trans rfl⟩ (fun hHeld => ?_); refine with_tabW spec_l28Any.tab8 spec_l28Any.bits8 (fun HT_ HW_ => ?_)
    generalize w18.drew = w19 at HO_5 BK345 BK349 HI0 HK HB hHeld ⊢
    refine pure_ (i := 1) (N := some 27) (v := ?_) (a' := ?_) σ1 rfl rfl (any_of HT_.out (by kernel_rfl)) (fun _ _ _ h => h) (Or.inl ⟨by rfl, ?_⟩) ?_ ?_
    rotate_left; · (intro w'; go_simp; with_reducible rfl)
    rotate_left; · (simp only [Act.put, σm, σn, σo, i64_w, i32_w]; rfl)
    refine pure_ (i := 2) (N := some 28) (v := ?_) (a' := ?_) σ2 rfl rfl (any_of HT_.out (by kernel_rfl)) (fun _ _ _ h => h) (Or.inl ⟨by rfl, ?_⟩) ?_ ?_
    rotate_left; · (intro w'; go_simp; with_reducible rfl)
    rotate_left; · (simp only [Act.put, σm, σn, σo, i64_w, i32_w]; rfl)
    refine pure_ (i := 3) (N := some 29) (v := ?_) (a' := ?_) σ3 rfl rfl (any_of HT_.out (by kernel_rfl)) (fun _ _ _ h => h) (Or.inl ⟨by rfl, ?_⟩) ?_ ?_
    rotate_left; · (intro w'; go_simp; with_reducible rfl)
    rotate_left; · (simp only [Act.put, σm, σn, σo, i64_w, i32_w]; rfl)
    refine pure_ (i := 6) (N := some 32) (v := ?_) (a' := ?_) σ4 rfl rfl (any_of HT_.out (by kernel_rfl)) (fun _ _ _ h => h) (Or.inl ⟨by rfl, ?_⟩) ?_ ?_
    rotate_left; · (intro w'; go_simp; with_reducible rfl)
    rotate_left; · (simp only [Act.put, σm, σn, σo, i64_w, i32_w]; rfl)
    refine take_ (i := 0) (N := some 26) (v := ?_) (a' := ?_) σ5 rfl rfl (take_ofW HT_.out HW_.out (by kernel_rfl)) (fun _ _ _ h => h) (Or.inl ⟨by rfl, ?_⟩) hHeld ?_ ?_
    rotate_left
    ·
     rintro w' ⟨s0, s1, s2⟩
     go_simp
     with_reducible rfl
    rotate_left
    ·
     simp only [Act.put, σm, σn, σo, i64_w, i32_w]
     rfl
    refine one_ (i := 4) (N := some 30) σ6 rfl rfl (one_of HT_.out (by kernel_rfl)) (by decide) (fun K hK => ?_)
    refine goes_ Try.func64 (by kernel_rfl) rfl #[.pointer (some ⟨g, 0, none⟩), .int .i64 5] (by rfl) rfl rfl (by (try simp only [List.map_toArray, List.map_cons, List.map_nil]); first | done | rfl | (simp only [List.length_drop, List.length_take]; rfl)) ?_
    with_reducible refine (spec_l1Below.calls g s0_0 t357 t358 5 t359 t360 t361 w0 _ ?side1 ?side2 A15.out).mono ?_
    (case side1 => repeat (first | (with_reducible first | exact HI0.out | apply IsS86.alloc | apply IsS86.drewN | apply IsS86.drew | apply IsS86.set_1 | apply IsS86.set_2 | refine IsS86.far ?_ NB0_345.out _ | refine IsS86.far ?_ NB0_349.out _) | exact HI0.out))
    (case side2 => repeat (first | (with_reducible first | exact HB.out | apply σj | apply σh | apply σi | refine σg ?_ (IsS86.ge HI0.out) | refine σg ?_ GE345.out | refine σg ?_ GE349.out) | exact HB.out))
    rintro e w20 ⟨rfl, hi, hb, hk⟩
    refine ⟨_, rfl, ?_⟩
    have n0_ := σp (Kd.R_mono (Kd.R_keep (IsS86.apart (show IsS86 w0 _ g s0_0 t357 t358 from by repeat (first | (with_reducible first | exact HI0.out | apply IsS86.alloc | apply IsS86.drewN | apply IsS86.drew | apply IsS86.set_1 | apply IsS86.set_2 | refine IsS86.far ?_ NB0_345.out _ | refine IsS86.far ?_ NB0_349.out _) | exact HI0.out)) (by (with_reducible repeat (first | apply Kd.R_alloc | apply Kd.R_drewN | apply Kd.R_drew)); exact HO_5.out) (by decide)) hk (fun _ h => h.2)) (fun _ h => h.1))
    have n1_ := σp (KeepBut.blk hk (g' := gb345) (o := .cells #[.int .i64 0, .int .i64 0, .int .i64 0] 25 (0, 0)) (by (with_reducible repeat (first | refine σa ?_ _ | refine σc ?_ | refine σb ?_ _)); exact BK345.out) NB345_0.out (by simp))
    have n2_ := σp (KeepBut.blk hk (g' := gb349) (o := .cells #[.int .i64 7, .int .i64 (wrap64 (60 * (wrap64 (2 + t346)))), .int .i64 0] 25 (0, 0)) (by (with_reducible repeat (first | refine σa ?_ _ | refine σc ?_ | refine σb ?_ _)); exact BK349.out) NB349_0.out (by simp))
    have n3_ := σp (KeepBut.trans (by repeat (first | (with_reducible first | exact HK.out | apply KeepBut.set_ | apply keep_drewN | apply keep_drew | apply keep_alloc | refine keep_far ?_ GW345.out _ | refine keep_far ?_ GW349.out _) | exact HK.out)) hk (.inl rfl))
    have n4_ := σp (hb)
    have n5_ := σp (hi)
    clear HO_5
    clear BK345
    clear BK349
    clear HK
    clear HB
    clear HI0
    have HO_5 := n0_
    have BK345 := n1_
    have BK349 := n2_
    have HK := n3_
    have HB := n4_
    have HI0 := n5_
    clear n0_ n1_ n2_ n3_ n4_ n5_
    (try clear hb)
    (try clear hb2)
    (try clear hk)
    (try clear hi)
    refine hK.out _ _ ⟨(σk BK349.out 0).trans rfl, (σk BK349.out 1).trans rfl, (σk BK349.out 2).trans rfl⟩ (fun hHeld => ?_)
    clear hK K
    refine norm_ (a' := ?_) ?_ ?_
    rotate_left
    ·
     show Act.put _ (some 30) _ = _
     simp only [Act.put, σm, σn, σo, i64_w, i32_w]
     rfl
    refine pure_ (i := 5) (N := some 31) (v := ?_) (a' := ?_) σ7 rfl rfl (any_of HT_.out (by kernel_rfl)) (fun _ _ _ h => h) (Or.inl ⟨by rfl, ?_⟩) ?_ ?_
    rotate_left; · (intro w'; go_simp; with_reducible rfl)
    rotate_left; · (simp only [Act.put, σm, σn, σo, i64_w, i32_w]; rfl)
    refine one_ (i := 7) (N := some 33) σ8 rfl rfl (one_of HT_.out (by kernel_rfl)) (by decide) (fun K hK => ?_)
    refine goes_ Try.func66 (by kernel_rfl) rfl #[.pointer (some ⟨g, 0, none⟩), .int .i64 3] (by rfl) rfl rfl (by (try simp only [List.map_toArray, List.map_cons, List.map_nil]); first | done | rfl | (simp only [List.length_drop, List.length_take]; rfl)) ?_
    with_reducible refine (spec_l1Once.calls g s0_0 t360 t361 3 t362 t363 t364 w0 _ ?side1 ?side2 A16.out).mono ?_
    (case side1 => repeat (first | (with_reducible first | exact HI0.out | apply IsS86.alloc | apply IsS86.drewN | apply IsS86.drew | apply IsS86.set_1 | apply IsS86.set_2 | refine IsS86.far ?_ NB0_345.out _ | refine IsS86.far ?_ NB0_349.out _) | exact HI0.out))
    (case side2 => repeat (first | (with_reducible first | exact HB.out | apply σj | apply σh | apply σi | refine σg ?_ (IsS86.ge HI0.out) | refine σg ?_ GE345.out | refine σg ?_ GE349.out) | exact HB.out))
    rintro e w21 ⟨rfl, hi, hb, hk⟩
    refine ⟨_, rfl, ?_⟩
    have n0_ := σp (Kd.R_mono (Kd.R_keep (IsS86.apart (show IsS86 w0 _ g s0_0 t360 t361 from by repeat (first | (with_reducible first | exact HI0.out | apply IsS86.alloc | apply IsS86.drewN | apply IsS86.drew | apply IsS86.set_1 | apply IsS86.set_2 | refine IsS86.far ?_ NB0_345.out _ | refine IsS86.far ?_ NB0_349.out _) | exact HI0.out)) (by (with_reducible repeat (first | apply Kd.R_alloc | apply Kd.R_drewN | apply Kd.R_drew)); exact HO_5.out) (by decide)) hk (fun _ h => h.2)) (fun _ h => h.1))
    have n1_ := σp (KeepBut.blk hk (g' := gb345) (o := .cells #[.int .i64 0, .int .i64 0, .int .i64 0] 25 (0, 0)) (by (with_reducible repeat (first | refine σa ?_ _ | refine σc ?_ | refine σb ?_ _)); exact BK345.out) NB345_0.out (by simp))
    have n2_ := σp (KeepBut.blk hk (g' := gb349) (o := .cells #[.int .i64 7, .int .i64 (wrap64 (60 * (wrap64 (2 + t346)))), .int .i64 0] 25 (0, 0)) (by (with_reducible repeat (first | refine σa ?_ _ | refine σc ?_ | refine σb ?_ _)); exact BK349.out) NB349_0.out (by simp))
    have n3_ := σp (KeepBut.trans (by repeat (first | (with_reducible first | exact HK.out | apply KeepBut.set_ | apply keep_drewN | apply keep_drew | apply keep_alloc | refine keep_far ?_ GW345.out _ | refine keep_far ?_ GW349.out _) | exact HK.out)) hk (.inl rfl))
    have n4_ := σp (hb)
    have n5_ := σp (hi)
    clear HO_5
    clear BK345
    clear BK349
    clear HK
    clear HB
    clear HI0
    have HO_5 := n0_
    have BK345 := n1_
    have BK349 := n2_
    have HK := n3_
    have HB := n4_
    have HI0 := n5_
    clear n0_ n1_ n2_ n3_ n4_ n5_
    (try clear hb)
    (try clear hb2)
    (try clear hk)
    (try clear hi)
    obtain ⟨Ao22, co22, eo22⟩ := Kd.R_slice HO_5.out
    (first | subst eo22 | (injection eo22 with f1_ f2_ f3_; have f4_ := f1_.symm; have f5_ := f3_.symm; clear f1_ f2_ f3_; subst f4_; subst f5_))
    refine hK.out _ _ ⟨(σk BK349.out 0).trans rfl, (σk BK349.out 1).trans rfl, (σk BK349.out 2).trans rfl⟩ (fun hHeld => ?_)
    clear hK K
    refine norm_ (a' := ?_) ?_ ?_
    rotate_left
    ·
     show Act.put _ (some 33) _ = _
     simp only [Act.put, σm, σn, σo, i64_w, i32_w]
     rfl
    refine pure_ (i := 8) (N := some 34) (v := ?_) (a' := ?_) σ9 rfl rfl (any_of HT_.out (by kernel_rfl)) (fun _ _ _ h => h) (Or.inl ⟨by rfl, ?_⟩) ?_ ?_
    rotate_left; · (intro w'; go_simp; with_reducible rfl)
    rotate_left; · (simp only [Act.put, σm, σn, σo, i64_w, i32_w]; rfl)
    refine one_ (i := 9) (N := some 35) σ10 rfl rfl (one_of HT_.out (by kernel_rfl)) (by decide) (fun K hK => ?_)
    refine goes_ Try.func31 (by kernel_rfl) rfl #[.agg #[.int .i64 7, .int .i64 (wrap64 (60 * (wrap64 (2 + t346)))), .int .i64 0], .slice Ao22 x5_1.length co22, .agg #[.int .i64 (wrap64 ((wrap64 (x6_1 + 1)) + t356)), .int .i64 (wrap64 (1 + t359)), .bool t362]] (by rfl) rfl rfl (by (try simp only [List.map_toArray, List.map_cons, List.map_nil]); first | done | rfl | (simp only [List.length_drop, List.length_take]; rfl)) ?_
    with_reducible refine (spec_MakeOffer.calls k1 7 (wrap64 (60 * (wrap64 (2 + t346)))) 0 _ _ x5_1 (wrap64 ((wrap64 (x6_1 + 1)) + t356)) (wrap64 (1 + t359)) t362 t365 t368 _ ?side1 ?side2 A17.out).mono ?_
    (case side1 => repeat (first | exact (Kd.R_reads' HO_5.out).2.2 | (with_reducible refine Kd.C_alloc ?_ _) | (with_reducible refine Kd.C_drewN ?_ _) | (with_reducible refine Kd.C_drew ?_)))
    (case side2 => exact (Kd.R_reads' HO_5.out).2.1)
    rintro e w23 ⟨v366, rfl, ho0, hb⟩
    refine ⟨_, rfl, ?_⟩
    have n0_ := σp (Kd.R_elder' (by (with_reducible repeat (first | apply Kd.R_alloc | apply Kd.R_drewN | apply Kd.R_drew)); exact HO_5.out) (Kd.R_base ho0) hb)
    have n1_ := σp (Kd.R_lower (Kd.R_new' ho0 (Kd.R_lt (by (with_reducible repeat (first | apply Kd.R_alloc | apply Kd.R_drewN | apply Kd.R_drew)); exact HO_5.out))) (keep_size (w := w) (g := g) (row := none) (by repeat (first | (with_reducible first | exact HK.out | apply KeepBut.set_ | apply keep_drewN | apply keep_drew | apply keep_alloc | refine keep_far ?_ GW345.out _ | refine keep_far ?_ GW349.out _) | exact HK.out))))
    have n2_ := σp (blk_below (g := gb345) (o := .cells #[.int .i64 0, .int .i64 0, .int .i64 0] 25 (0, 0)) (by (with_reducible repeat (first | refine σa ?_ _ | refine σc ?_ | refine σb ?_ _)); exact BK345.out) hb)
    have n3_ := σp (blk_below (g := gb349) (o := .cells #[.int .i64 7, .int .i64 (wrap64 (60 * (wrap64 (2 + t346)))), .int .i64 0] 25 (0, 0)) (by (with_reducible repeat (first | refine σa ?_ _ | refine σc ?_ | refine σb ?_ _)); exact BK349.out) hb)
    have n4_ := σp (IsS86.below (by repeat (first | (with_reducible first | exact HI0.out | apply IsS86.alloc | apply IsS86.drewN | apply IsS86.drew | apply IsS86.set_1 | apply IsS86.set_2 | refine IsS86.far ?_ NB0_345.out _ | refine IsS86.far ?_ NB0_349.out _) | exact HI0.out)) hb)
    have n5_ := σp (KeepBut.trans (by repeat (first | (with_reducible first | exact HK.out | apply KeepBut.set_ | apply keep_drewN | apply keep_drew | apply keep_alloc | refine keep_far ?_ GW345.out _ | refine keep_far ?_ GW349.out _) | exact HK.out)) (KeepBut.of_below hb g none) (.inl rfl))
    have n6_ := σp (below_step (by repeat (first | (with_reducible first | exact HB.out | apply σj | apply σh | apply σi | refine σg ?_ (IsS86.ge HI0.out) | refine σg ?_ GE345.out | refine σg ?_ GE349.out) | exact HB.out)) hb)
    clear HO_5
    clear BK345
    clear BK349
    clear HI0
    clear HK
    clear HB
    have HO_5 := n0_
    have HO367 := n1_
    have BK345 := n2_
    have BK349 := n3_
    have HI0 := n4_
    have HK := n5_
    have HB := n6_
    clear n0_ n1_ n2_ n3_ n4_ n5_ n6_
    (try clear hb)
    (try clear hb2)
    (try clear hk)
    (try clear hi)
    (try clear ho0)
    refine hK.out _ _ ⟨(σk BK349.out 0).trans rfl, (σk BK349.out 1).trans rfl, (σk BK349.out 2).trans rfl⟩ (fun hHeld => ?_)
    clear hK K
    refine norm_ (a' := ?_) ?_ ?_
    rotate_left
    ·
     show Act.put _ (some 35) _ = _
     simp only [Act.put, σm, σn, σo, i64_w, i32_w]
     rfl
    refine pure_ (i := 10) (N := some 25) (v := ?_) (a' := ?_) σ11 rfl rfl (any_of HT_.out (by kernel_rfl)) (fun _ _ _ h => h) (Or.inl ⟨by rfl, ?_⟩) ?_ ?_
    rotate_left; · (intro w'; go_simp; with_reducible rfl)
    rotate_left; · (simp only [Act.put, σm, σn, σo, i64_w, i32_w]; rfl)
    refine pure_ (i := 11) (N := some 36) (v := ?_) (a' := ?_) σ12 rfl rfl (any_of HT_.out (by kernel_rfl)) (fun _ _ _ h => h) (Or.inl ⟨by rfl, ?_⟩) ?_ ?_
    rotate_left; · (intro w'; go_simp; with_reducible rfl)
    rotate_left; · (simp only [Act.put, σm, σn, σo, i64_w, i32_w]; rfl)
    refine pure_ (i := 12) (N := some 37) (v := ?_) (a' := ?_) σ13 rfl rfl (any_of HT_.out (by kernel_rfl)) (fun _ _ _ h => h) (Or.inl ⟨by rfl, ?_⟩) ?_ ?_
    rotate_left; · (intro w'; go_simp; with_reducible rfl)
    rotate_left; · (simp only [Act.put, σm, σn, σo, i64_w, i32_w]; rfl)
    refine pure_ (i := 13) (N := some 5) (v := ?_) (a' := ?_) σ14 rfl rfl (any_of HT_.out (by kernel_rfl)) (fun _ _ _ h => h) (Or.inl ⟨by rfl, ?_⟩) ?_ ?_
    rotate_left; · (intro w'; go_simp; with_reducible rfl)
    rotate_left; · (simp only [Act.put, σm, σn, σo, i64_w, i32_w]; rfl)
    refine done_ (done_of HT_.out (by kernel_rfl)) ?_
    try go_wp2
    go_roundg k1
    case measure => have := HK1.out; omega
    case rel => exact ⟨(t365), (wrap64 ((wrap64 (x6_1 + 1)) + t356)), (wrap64 (x7_1 - 1)), (t363), (t364), (by first | rfl | (simp; done) | (simp [*]; done)), (by first | rfl | (simp; done) | (simp [*]; done)), H', ⟨by have := HK1.out; omega⟩, ⟨by (with_reducible repeat (first | apply Kd.R_alloc | apply Kd.R_drewN | apply Kd.R_drew)); exact Kd.R_mono HO367.out (fun _ hk => trivial)⟩, ⟨by (with_reducible repeat (first | refine σa ?_ _ | refine σc ?_ | refine σb ?_ _)); exact BK345.out⟩, ⟨by (with_reducible repeat (first | refine σa ?_ _ | refine σc ?_ | refine σb ?_ _)); exact BK349.out⟩, ⟨by repeat (first | (with_reducible first | exact HI0.out | apply IsS86.alloc | apply IsS86.drewN | apply IsS86.drew | apply IsS86.set_1 | apply IsS86.set_2 | refine IsS86.far ?_ NB0_345.out _ | refine IsS86.far ?_ NB0_349.out _) | exact HI0.out)⟩, ⟨by repeat (first | (with_reducible first | exact HK.out | apply KeepBut.set_ | apply keep_drewN | apply keep_drew | apply keep_alloc | refine keep_far ?_ GW345.out _ | refine keep_far ?_ GW349.out _) | exact HK.out)⟩, ⟨by repeat (first | (with_reducible first | exact HB.out | apply σj | apply σh | apply σi | refine σg ?_ (IsS86.ge HI0.out) | refine σg ?_ GE345.out | refine σg ?_ GE349.out) | exact HB.out)⟩⟩
   rw [if_neg c13] at H
   have c13b0 : decide (0 < x7_1) = false := decide_eq_false c13
   clear c13
   replace H := Option.bind_eq_some_iff.mp H
   obtain ⟨⟨t369, t370, t371⟩, A240, H⟩ := H
   try dsimp only at H
   have A24 := σp A240
   clear A240
   by_cases c25 : t369 = 0
   ·
    rw [if_pos c25] at H
    have c25b0 : (t369 == 0) = true := beq_iff_eq.mpr c25
    have c25b1 : (t369 != 0) = false := bne_eq_false_iff_eq.mpr c25
    clear c25
    obtain ⟨y372, hy372⟩ : ∃ y_ : List Int, y_ = (([119, 120, 1000, 1001] : List Int)) := ⟨_, rfl⟩
    replace H : ((spec_l1Int.f s0_0 t370 t371 y372).bind fun bt375 => (some (7, bt375.1, 0, x5_1, bt375.2.1, bt375.2.2))) = some (r1, r2, r3, r4, r5, r6) := by first | (rw [hy372]; with_reducible exact H) | (have H2_ := (Option.bind_some _ _).symm.trans H; rw [hy372]; with_reducible exact H2_) | (have H2_ := (Option.bind_some _ _).symm.trans H; with_reducible exact H2_) | with_reducible exact H | (rw [hy372]; exact H) | exact H
    have Ny372 := σp hy372
    clear hy372
    replace H := Option.bind_eq_some_iff.mp H
    obtain ⟨⟨t375, t376, t377⟩, A260, H⟩ := H
    try dsimp only at H
    have A26 := σp A260
    clear A260
    simp only [Option.some.injEq, Prod.mk.injEq] at H
    obtain ⟨rfl, rfl, rfl, rfl, rfl, rfl⟩ := H
    go_wp2_with (first | ((with_reducible refine gate_callee (f := 64) rfl ?_); refine goesL_ (some 39) rfl rfl Try.func64 (by kernel_rfl) rfl #[.pointer (some ⟨g, 0, none⟩), .int .i64 10] rfl (by (try simp only [List.map_toArray, List.map_cons, List.map_nil]); first | done | rfl | (simp only [List.length_drop, List.length_take]; rfl)) ?_; (with_reducible refine (spec_l1Below.calls g s0_0 x1001_1 x1002_1 10 t369 t370 t371 w0 _ ?side1 ?side2 A24.out).mono ?_); (case side1 => repeat (first | (with_reducible first | exact HI0.out | apply IsS86.alloc | apply IsS86.drewN | apply IsS86.drew | apply IsS86.set_1 | apply IsS86.set_2 | refine IsS86.far ?_ NB0_345.out _ | refine IsS86.far ?_ NB0_349.out _) | exact HI0.out)); (case side2 => repeat (first | (with_reducible first | exact HB.out | apply σj | apply σh | apply σi | refine σg ?_ (IsS86.ge HI0.out) | refine σg ?_ GE345.out | refine σg ?_ GE349.out) | exact HB.out)); rintro e w27 ⟨rfl, hi, hb, hk⟩; refine ⟨_, rfl, ?_⟩; have n0_ := σp (Kd.R_mono (Kd.R_keep (IsS86.apart (show IsS86 w0 _ g s0_0 x1001_1 x1002_1 from by repeat (first | (with_reducible first | exact HI0.out | apply IsS86.alloc | apply IsS86.drewN | apply IsS86.drew | apply IsS86.set_1 | apply IsS86.set_2 | refine IsS86.far ?_ NB0_345.out _ | refine IsS86.far ?_ NB0_349.out _) | exact HI0.out)) (by (with_reducible repeat (first | apply Kd.R_alloc | apply Kd.R_drewN | apply Kd.R_drew)); exact HO_5.out) (by decide)) hk (fun _ h => h.2)) (fun _ h => h.1)); have n1_ := σp (KeepBut.blk hk (g' := gb345) (o := .cells #[.int .i64 0, .int .i64 0, .int .i64 0] 25 (0, 0)) (by (with_reducible repeat (first | refine σa ?_ _ | refine σc ?_ | refine σb ?_ _)); exact BK345.out) NB345_0.out (by simp)); have n2_ := σp (KeepBut.blk hk (g' := gb349) (o := .cells #[.int .i64 7, .int .i64 (wrap64 (60 * (wrap64 (2 + t346)))), .int .i64 0] 25 (0, 0)) (by (with_reducible repeat (first | refine σa ?_ _ | refine σc ?_ | refine σb ?_ _)); exact BK349.out) NB349_0.out (by simp)); have n3_ := σp (KeepBut.trans (by repeat (first | (with_reducible first | exact HK.out | apply KeepBut.set_ | apply keep_drewN | apply keep_drew | apply keep_alloc | refine keep_far ?_ GW345.out _ | refine keep_far ?_ GW349.out _) | exact HK.out)) hk (.inl rfl)); have n4_ := σp (hb); have n5_ := σp (hi); clear HO_5; clear BK345; clear BK349; clear HK; clear HB; clear HI0; have HO_5 := n0_; have BK345 := n1_; have BK349 := n2_; have HK := n3_; have HB := n4_; have HI0 := n5_; clear n0_ n1_ n2_ n3_ n4_ n5_; (try clear hb); (try clear hb2); (try clear hk); (try clear hi)) | ((with_reducible refine gate_dst (N := 43) rfl ?_); refine Kd.R_lit (Kd.int .i64) _ 3 ?hg (N := 43) ?hd (xs := ([119, 120, 1000, 1001] : List Int)) (inner := [.int .i64 119, .int .i64 120, .int .i64 1000, .int .i64 1001]) (ok := fun _ => True) (okp := fun _ => True) ?hr ?hp (fun _ hk => hk) trivial (Below.refl _ _) (Nat.le_refl _) (by simp) ?_; (case hd => rfl); (case hg => rfl); (case hr => first | (go_simp; done) | (go_simp; rfl)); (case hp => exact (Reps.one (show Kd.M (Kd.int .i64) _ _ _ 119 [.int .i64 119] from rfl) (Reps.one (show Kd.M (Kd.int .i64) _ _ _ 120 [.int .i64 120] from rfl) (Reps.one (show Kd.M (Kd.int .i64) _ _ _ 1000 [.int .i64 1000] from rfl) (Reps.one (show Kd.M (Kd.int .i64) _ _ _ 1001 [.int .i64 1001] from rfl) (Reps.none _ _)))))); intro v373 w28 ho29 hb hg_ hnew_; clear hg_ hnew_; (first | rw [← Ny372.out] at ho29 | (simp only [Int.reduceToNat] at ho29; rw [← Ny372.out] at ho29)); have n0_ := σp (Kd.R_below (by (with_reducible repeat (first | apply Kd.R_alloc | apply Kd.R_drewN | apply Kd.R_drew)); exact HO_5.out) hb); have n1_ := σp (Kd.R_lower ho29 (keep_size (w := w) (g := g) (row := none) (by repeat (first | (with_reducible first | exact HK.out | apply KeepBut.set_ | apply keep_drewN | apply keep_drew | apply keep_alloc | refine keep_far ?_ GW345.out _ | refine keep_far ?_ GW349.out _) | exact HK.out)))); have n2_ := σp (blk_below (g := gb345) (o := .cells #[.int .i64 0, .int .i64 0, .int .i64 0] 25 (0, 0)) (by (with_reducible repeat (first | refine σa ?_ _ | refine σc ?_ | refine σb ?_ _)); exact BK345.out) hb); have n3_ := σp (blk_below (g := gb349) (o := .cells #[.int .i64 7, .int .i64 (wrap64 (60 * (wrap64 (2 + t346)))), .int .i64 0] 25 (0, 0)) (by (with_reducible repeat (first | refine σa ?_ _ | refine σc ?_ | refine σb ?_ _)); exact BK349.out) hb); have n4_ := σp (IsS86.below (by repeat (first | (with_reducible first | exact HI0.out | apply IsS86.alloc | apply IsS86.drewN | apply IsS86.drew | apply IsS86.set_1 | apply IsS86.set_2 | refine IsS86.far ?_ NB0_345.out _ | refine IsS86.far ?_ NB0_349.out _) | exact HI0.out)) hb); have n5_ := σp (KeepBut.trans (by repeat (first | (with_reducible first | exact HK.out | apply KeepBut.set_ | apply keep_drewN | apply keep_drew | apply keep_alloc | refine keep_far ?_ GW345.out _ | refine keep_far ?_ GW349.out _) | exact HK.out)) (KeepBut.of_below hb g none) (.inl rfl)); have n6_ := σp (below_step (by repeat (first | (with_reducible first | exact HB.out | apply σj | apply σh | apply σi | refine σg ?_ (IsS86.ge HI0.out) | refine σg ?_ GE345.out | refine σg ?_ GE349.out) | exact HB.out)) hb); clear HO_5; clear BK345; clear BK349; clear HI0; clear HK; clear HB; have HO_5 := n0_; have HO374 := n1_; have BK345 := n2_; have BK349 := n3_; have HI0 := n4_; have HK := n5_; have HB := n6_; clear n0_ n1_ n2_ n3_ n4_ n5_ n6_; clear hb ho29; obtain ⟨Ao30, co30, eo30⟩ := Kd.R_slice HO374.out; subst eo30) | ((with_reducible refine gate_callee (f := 65) rfl ?_); refine goesL_ (some 44) rfl rfl Try.func65 (by kernel_rfl) rfl #[.pointer (some ⟨g, 0, none⟩), .slice Ao30 y372.length co30] rfl (by (try simp only [List.map_toArray, List.map_cons, List.map_nil]); first | done | rfl | (simp only [List.length_drop, List.length_take]; rfl)) ?_; (with_reducible refine (spec_l1Int.calls g s0_0 t370 t371 _ _ y372 t375 t376 t377 w0 _ ?side1 ?side2 ?side3 ?side4 ?side5 A26.out).mono ?_); (case side1 => repeat (first | (with_reducible first | exact HI0.out | apply IsS86.alloc | apply IsS86.drewN | apply IsS86.drew | apply IsS86.set_1 | apply IsS86.set_2 | refine IsS86.far ?_ NB0_345.out _ | refine IsS86.far ?_ NB0_349.out _) | exact HI0.out)); (case side2 => repeat (first | (with_reducible first | exact HB.out | apply σj | apply σh | apply σi | refine σg ?_ (IsS86.ge HI0.out) | refine σg ?_ GE345.out | refine σg ?_ GE349.out) | exact HB.out)); (case side3 => repeat (first | exact (Kd.R_reads' HO374.out).2.2 | (with_reducible refine Kd.C_alloc ?_ _) | (with_reducible refine Kd.C_drewN ?_ _) | (with_reducible refine Kd.C_drew ?_))); (case side4 => exact (Kd.R_reads' HO374.out).2.1); (case side5 => exact far_slice (IsS86.own_ne HI0.out HO374.out (by decide))); rintro e w31 ⟨rfl, hi, hb, hk⟩; refine ⟨_, rfl, ?_⟩; have n0_ := σp (Kd.R_mono (Kd.R_keep (IsS86.apart (show IsS86 w0 _ g s0_0 t370 t371 from by repeat (first | (with_reducible first | exact HI0.out | apply IsS86.alloc | apply IsS86.drewN | apply IsS86.drew | apply IsS86.set_1 | apply IsS86.set_2 | refine IsS86.far ?_ NB0_345.out _ | refine IsS86.far ?_ NB0_349.out _) | exact HI0.out)) (by (with_reducible repeat (first | apply Kd.R_alloc | apply Kd.R_drewN | apply Kd.R_drew)); exact HO_5.out) (by decide)) hk (fun _ h => h.2)) (fun _ h => h.1)); have n1_ := σp (KeepBut.blk hk (g' := gb345) (o := .cells #[.int .i64 0, .int .i64 0, .int .i64 0] 25 (0, 0)) (by (with_reducible repeat (first | refine σa ?_ _ | refine σc ?_ | refine σb ?_ _)); exact BK345.out) NB345_0.out (by simp)); have n2_ := σp (KeepBut.blk hk (g' := gb349) (o := .cells #[.int .i64 7, .int .i64 (wrap64 (60 * (wrap64 (2 + t346)))), .int .i64 0] 25 (0, 0)) (by (with_reducible repeat (first | refine σa ?_ _ | refine σc ?_ | refine σb ?_ _)); exact BK349.out) NB349_0.out (by simp)); have n3_ := σp (Kd.R_mono (Kd.R_keep (IsS86.apart (show IsS86 w0 _ g s0_0 t370 t371 from by repeat (first | (with_reducible first | exact HI0.out | apply IsS86.alloc | apply IsS86.drewN | apply IsS86.drew | apply IsS86.set_1 | apply IsS86.set_2 | refine IsS86.far ?_ NB0_345.out _ | refine IsS86.far ?_ NB0_349.out _) | exact HI0.out)) (by (with_reducible repeat (first | apply Kd.R_alloc | apply Kd.R_drewN | apply Kd.R_drew)); exact HO374.out) (by decide)) hk (fun _ h => h.2)) (fun _ h => h.1)); have n4_ := σp (KeepBut.trans (by repeat (first | (with_reducible first | exact HK.out | apply KeepBut.set_ | apply keep_drewN | apply keep_drew | apply keep_alloc | refine keep_far ?_ GW345.out _ | refine keep_far ?_ GW349.out _) | exact HK.out)) hk (.inl rfl)); have n5_ := σp (hb); have n6_ := σp (hi); clear HO_5; clear BK345; clear BK349; clear HO374; clear HK; clear HB; clear HI0; have HO_5 := n0_; have BK345 := n1_; have BK349 := n2_; have HO374 := n3_; have HK := n4_; have HB := n5_; have HI0 := n6_; clear n0_ n1_ n2_ n3_ n4_ n5_ n6_; (try clear hb); (try clear hb2); (try clear hk); (try clear hi); have hnb32 := NB349_345.out; have hnc32 := NB345_349.out; have hnb33 := NB349_0.out; have hnc33 := NB0_349.out; have hcz34_0 : w31.cell? ⟨gb349, 0, none⟩ = some (.int .i64 7) := (σk BK349.out 0).trans rfl; have hcz34_1 : w31.cell? ⟨gb349, 1, none⟩ = some (.int .i64 (wrap64 (60 * (wrap64 (2 + t346))))) := (σk BK349.out 1).trans rfl; have hcz34_2 : w31.cell? ⟨gb349, 2, none⟩ = some (.int .i64 0) := (σk BK349.out 2).trans rfl; have hfz34_0 := blk_frozen BK349.out 0; have hfz34_1 := blk_frozen BK349.out 1; have hfz34_2 := blk_frozen BK349.out 2; have hnb35 := NB345_0.out; have hnc35 := NB0_345.out; have hcz36_0 : w31.cell? ⟨gb345, 0, none⟩ = some (.int .i64 0) := (σk BK345.out 0).trans rfl; have hcz36_1 : w31.cell? ⟨gb345, 1, none⟩ = some (.int .i64 0) := (σk BK345.out 1).trans rfl; have hcz36_2 : w31.cell? ⟨gb345, 2, none⟩ = some (.int .i64 0) := (σk BK345.out 2).trans rfl; have hfz36_0 := blk_frozen BK345.out 0; have hfz36_1 := blk_frozen BK345.out 1; have hfz36_2 := blk_frozen BK345.out 2))
    refine bodyPost_ret (results_ct rfl _ _ gb345 25 #[.int .i64 7, .int .i64 t375, .int .i64 0] (0, 0) _ rfl (by (with_reducible repeat (first | refine σa ?_ _ | refine σc ?_ | refine σb ?_ _)); refine blk_put (cs := #[.int .i64 7, .int .i64 t375, .int .i64 0]) ?_ 2 _ rfl; (with_reducible repeat (first | refine σa ?_ _ | refine σc ?_ | refine σb ?_ _)); refine blk_put (cs := #[.int .i64 7, .int .i64 0, .int .i64 0]) ?_ 1 _ rfl; (with_reducible repeat (first | refine σa ?_ _ | refine σc ?_ | refine σb ?_ _)); refine blk_put (cs := #[.int .i64 0, .int .i64 0, .int .i64 0]) ?_ 0 _ rfl; (with_reducible repeat (first | refine σa ?_ _ | refine σc ?_ | refine σb ?_ _)); refine blk_far ?_ NB345_349.out _; (with_reducible repeat (first | refine σa ?_ _ | refine σc ?_ | refine σb ?_ _)); exact BK345.out) Try.underlying25 rfl (by kernel_rfl)) rfl ?_
    exact ⟨_, by first | rfl | (simp [errW_none, errW_some] <;> rfl) | (simp [*, errW_none, errW_some] <;> rfl), by (with_reducible repeat (first | apply Kd.R_alloc | apply Kd.R_drewN | apply Kd.R_drew)); exact Kd.R_mono (Kd.R_far (p := ⟨gb345, 2, none⟩) (Kd.R_far (p := ⟨gb345, 1, none⟩) (Kd.R_far (p := ⟨gb345, 0, none⟩) (Kd.R_far (p := ⟨gb349, 1, none⟩) (Kd.R_types (Kd.R_types HO_5.out BK349.out (by decide)) BK345.out (by decide)) (fun _ hk => hk.1.2) (.int .i64 t375)) (fun _ hk => hk.2) (.int .i64 7)) (fun _ hk => hk.2) (.int .i64 t375)) (fun _ hk => hk.2) (.int .i64 0)) (fun _ hk => trivial), by repeat (first | (with_reducible first | exact HI0.out | apply IsS86.alloc | apply IsS86.drewN | apply IsS86.drew | apply IsS86.set_1 | apply IsS86.set_2 | refine IsS86.far ?_ NB0_345.out _ | refine IsS86.far ?_ NB0_349.out _) | exact HI0.out), by repeat (first | (with_reducible first | exact HB.out | apply σj | apply σh | apply σi | refine σg ?_ (IsS86.ge HI0.out) | refine σg ?_ GE345.out | refine σg ?_ GE349.out) | exact HB.out), by repeat (first | (with_reducible first | exact HK.out | apply KeepBut.set_ | apply keep_drewN | apply keep_drew | apply keep_alloc | refine keep_far ?_ GW345.out _ | refine keep_far ?_ GW349.out _) | exact HK.out)⟩
   rw [if_neg c25] at H
   have c25b0 : (t369 == 0) = false := beq_eq_false_iff_ne.mpr c25
   have c25b1 : (t369 != 0) = true := bne_iff_ne.mpr c25
   by_cases c37 : t369 = 1
   ·
    rw [if_pos c37] at H
    have c37b0 : (t369 == 1) = true := beq_iff_eq.mpr c37
    have c37b1 : (t369 != 1) = false := bne_eq_false_iff_eq.mpr c37
    clear c37
    simp only [Option.some.injEq, Prod.mk.injEq] at H
    obtain ⟨rfl, rfl, rfl, rfl, rfl, rfl⟩ := H
    go_wp2_with (first | ((with_reducible refine gate_callee (f := 64) rfl ?_); refine goesL_ (some 39) rfl rfl Try.func64 (by kernel_rfl) rfl #[.pointer (some ⟨g, 0, none⟩), .int .i64 10] rfl (by (try simp only [List.map_toArray, List.map_cons, List.map_nil]); first | done | rfl | (simp only [List.length_drop, List.length_take]; rfl)) ?_; (with_reducible refine (spec_l1Below.calls g s0_0 x1001_1 x1002_1 10 t369 t370 t371 w0 _ ?side1 ?side2 A24.out).mono ?_); (case side1 => repeat (first | (with_reducible first | exact HI0.out | apply IsS86.alloc | apply IsS86.drewN | apply IsS86.drew | apply IsS86.set_1 | apply IsS86.set_2 | refine IsS86.far ?_ NB0_345.out _ | refine IsS86.far ?_ NB0_349.out _) | exact HI0.out)); (case side2 => repeat (first | (with_reducible first | exact HB.out | apply σj | apply σh | apply σi | refine σg ?_ (IsS86.ge HI0.out) | refine σg ?_ GE345.out | refine σg ?_ GE349.out) | exact HB.out)); rintro e w38 ⟨rfl, hi, hb, hk⟩; refine ⟨_, rfl, ?_⟩; have n0_ := σp (Kd.R_mono (Kd.R_keep (IsS86.apart (show IsS86 w0 _ g s0_0 x1001_1 x1002_1 from by repeat (first | (with_reducible first | exact HI0.out | apply IsS86.alloc | apply IsS86.drewN | apply IsS86.drew | apply IsS86.set_1 | apply IsS86.set_2 | refine IsS86.far ?_ NB0_345.out _ | refine IsS86.far ?_ NB0_349.out _) | exact HI0.out)) (by (with_reducible repeat (first | apply Kd.R_alloc | apply Kd.R_drewN | apply Kd.R_drew)); exact HO_5.out) (by decide)) hk (fun _ h => h.2)) (fun _ h => h.1)); have n1_ := σp (KeepBut.blk hk (g' := gb345) (o := .cells #[.int .i64 0, .int .i64 0, .int .i64 0] 25 (0, 0)) (by (with_reducible repeat (first | refine σa ?_ _ | refine σc ?_ | refine σb ?_ _)); exact BK345.out) NB345_0.out (by simp)); have n2_ := σp (KeepBut.blk hk (g' := gb349) (o := .cells #[.int .i64 7, .int .i64 (wrap64 (60 * (wrap64 (2 + t346)))), .int .i64 0] 25 (0, 0)) (by (with_reducible repeat (first | refine σa ?_ _ | refine σc ?_ | refine σb ?_ _)); exact BK349.out) NB349_0.out (by simp)); have n3_ := σp (KeepBut.trans (by repeat (first | (with_reducible first | exact HK.out | apply KeepBut.set_ | apply keep_drewN | apply keep_drew | apply keep_alloc | refine keep_far ?_ GW345.out _ | refine keep_far ?_ GW349.out _) | exact HK.out)) hk (.inl rfl)); have n4_ := σp (hb); have n5_ := σp (hi); clear HO_5; clear BK345; clear BK349; clear HK; clear HB; clear HI0; have HO_5 := n0_; have BK345 := n1_; have BK349 := n2_; have HK := n3_; have HB := n4_; have HI0 := n5_; clear n0_ n1_ n2_ n3_ n4_ n5_; (try clear hb); (try clear hb2); (try clear hk); (try clear hi); have hnb39 := NB349_345.out; have hnc39 := NB345_349.out; have hnb40 := NB349_0.out; have hnc40 := NB0_349.out; have hcz41_0 : w38.cell? ⟨gb349, 0, none⟩ = some (.int .i64 7) := (σk BK349.out 0).trans rfl; have hcz41_1 : w38.cell? ⟨gb349, 1, none⟩ = some (.int .i64 (wrap64 (60 * (wrap64 (2 + t346))))) := (σk BK349.out 1).trans rfl; have hcz41_2 : w38.cell? ⟨gb349, 2, none⟩ = some (.int .i64 0) := (σk BK349.out 2).trans rfl; have hfz41_0 := blk_frozen BK349.out 0; have hfz41_1 := blk_frozen BK349.out 1; have hfz41_2 := blk_frozen BK349.out 2; have hnb42 := NB345_0.out; have hnc42 := NB0_345.out; have hcz43_0 : w38.cell? ⟨gb345, 0, none⟩ = some (.int .i64 0) := (σk BK345.out 0).trans rfl; have hcz43_1 : w38.cell? ⟨gb345, 1, none⟩ = some (.int .i64 0) := (σk BK345.out 1).trans rfl; have hcz43_2 : w38.cell? ⟨gb345, 2, none⟩ = some (.int .i64 0) := (σk BK345.out 2).trans rfl; have hfz43_0 := blk_frozen BK345.out 0; have hfz43_1 := blk_frozen BK345.out 1; have hfz43_2 := blk_frozen BK345.out 2))
    refine bodyPost_ret (results_ct rfl _ _ gb345 25 #[.int .i64 2, .int .i64 (wrap64 (60 * (wrap64 (2 + t346)))), .int .i64 0] (0, 0) _ rfl (by (with_reducible repeat (first | refine σa ?_ _ | refine σc ?_ | refine σb ?_ _)); refine blk_put (cs := #[.int .i64 2, .int .i64 (wrap64 (60 * (wrap64 (2 + t346)))), .int .i64 0]) ?_ 2 _ rfl; (with_reducible repeat (first | refine σa ?_ _ | refine σc ?_ | refine σb ?_ _)); refine blk_put (cs := #[.int .i64 2, .int .i64 0, .int .i64 0]) ?_ 1 _ rfl; (with_reducible repeat (first | refine σa ?_ _ | refine σc ?_ | refine σb ?_ _)); refine blk_put (cs := #[.int .i64 0, .int .i64 0, .int .i64 0]) ?_ 0 _ rfl; (with_reducible repeat (first | refine σa ?_ _ | refine σc ?_ | refine σb ?_ _)); refine blk_far ?_ NB345_349.out _; (with_reducible repeat (first | refine σa ?_ _ | refine σc ?_ | refine σb ?_ _)); exact BK345.out) Try.underlying25 rfl (by kernel_rfl)) rfl ?_
    exact ⟨_, by first | rfl | (simp [errW_none, errW_some] <;> rfl) | (simp [*, errW_none, errW_some] <;> rfl), by (with_reducible repeat (first | apply Kd.R_alloc | apply Kd.R_drewN | apply Kd.R_drew)); exact Kd.R_mono (Kd.R_far (p := ⟨gb345, 2, none⟩) (Kd.R_far (p := ⟨gb345, 1, none⟩) (Kd.R_far (p := ⟨gb345, 0, none⟩) (Kd.R_far (p := ⟨gb349, 0, none⟩) (Kd.R_types (Kd.R_types HO_5.out BK349.out (by decide)) BK345.out (by decide)) (fun _ hk => hk.1.2) (.int .i64 2)) (fun _ hk => hk.2) (.int .i64 2)) (fun _ hk => hk.2) (.int .i64 (wrap64 (60 * (wrap64 (2 + t346)))))) (fun _ hk => hk.2) (.int .i64 0)) (fun _ hk => trivial), by repeat (first | (with_reducible first | exact HI0.out | apply IsS86.alloc | apply IsS86.drewN | apply IsS86.drew | apply IsS86.set_1 | apply IsS86.set_2 | refine IsS86.far ?_ NB0_345.out _ | refine IsS86.far ?_ NB0_349.out _) | exact HI0.out), by repeat (first | (with_reducible first | exact HB.out | apply σj | apply σh | apply σi | refine σg ?_ (IsS86.ge HI0.out) | refine σg ?_ GE345.out | refine σg ?_ GE349.out) | exact HB.out), by repeat (first | (with_reducible first | exact HK.out | apply KeepBut.set_ | apply keep_drewN | apply keep_drew | apply keep_alloc | refine keep_far ?_ GW345.out _ | refine keep_far ?_ GW349.out _) | exact HK.out)⟩
   rw [if_neg c37] at H
   have c37b0 : (t369 == 1) = false := beq_eq_false_iff_ne.mpr c37
   have c37b1 : (t369 != 1) = true := bne_iff_ne.mpr c37
   simp only [Option.some.injEq, Prod.mk.injEq] at H
   obtain ⟨rfl, rfl, rfl, rfl, rfl, rfl⟩ := H
   go_wp2_with (first | ((with_reducible refine gate_callee (f := 64) rfl ?_); refine goesL_ (some 39) rfl rfl Try.func64 (by kernel_rfl) rfl #[.pointer (some ⟨g, 0, none⟩), .int .i64 10] rfl (by (try simp only [List.map_toArray, List.map_cons, List.map_nil]); first | done | rfl | (simp only [List.length_drop, List.length_take]; rfl)) ?_; (with_reducible refine (spec_l1Below.calls g s0_0 x1001_1 x1002_1 10 t369 t370 t371 w0 _ ?side1 ?side2 A24.out).mono ?_); (case side1 => repeat (first | (with_reducible first | exact HI0.out | apply IsS86.alloc | apply IsS86.drewN | apply IsS86.drew | apply IsS86.set_1 | apply IsS86.set_2 | refine IsS86.far ?_ NB0_345.out _ | refine IsS86.far ?_ NB0_349.out _) | exact HI0.out)); (case side2 => repeat (first | (with_reducible first | exact HB.out | apply σj | apply σh | apply σi | refine σg ?_ (IsS86.ge HI0.out) | refine σg ?_ GE345.out | refine σg ?_ GE349.out) | exact HB.out)); rintro e w44 ⟨rfl, hi, hb, hk⟩; refine ⟨_, rfl, ?_⟩; have n0_ := σp (Kd.R_mono (Kd.R_keep (IsS86.apart (show IsS86 w0 _ g s0_0 x1001_1 x1002_1 from by repeat (first | (with_reducible first | exact HI0.out | apply IsS86.alloc | apply IsS86.drewN | apply IsS86.drew | apply IsS86.set_1 | apply IsS86.set_2 | refine IsS86.far ?_ NB0_345.out _ | refine IsS86.far ?_ NB0_349.out _) | exact HI0.out)) (by (with_reducible repeat (first | apply Kd.R_alloc | apply Kd.R_drewN | apply Kd.R_drew)); exact HO_5.out) (by decide)) hk (fun _ h => h.2)) (fun _ h => h.1)); have n1_ := σp (KeepBut.blk hk (g' := gb345) (o := .cells #[.int .i64 0, .int .i64 0, .int .i64 0] 25 (0, 0)) (by (with_reducible repeat (first | refine σa ?_ _ | refine σc ?_ | refine σb ?_ _)); exact BK345.out) NB345_0.out (by simp)); have n2_ := σp (KeepBut.blk hk (g' := gb349) (o := .cells #[.int .i64 7, .int .i64 (wrap64 (60 * (wrap64 (2 + t346)))), .int .i64 0] 25 (0, 0)) (by (with_reducible repeat (first | refine σa ?_ _ | refine σc ?_ | refine σb ?_ _)); exact BK349.out) NB349_0.out (by simp)); have n3_ := σp (KeepBut.trans (by repeat (first | (with_reducible first | exact HK.out | apply KeepBut.set_ | apply keep_drewN | apply keep_drew | apply keep_alloc | refine keep_far ?_ GW345.out _ | refine keep_far ?_ GW349.out _) | exact HK.out)) hk (.inl rfl)); have n4_ := σp (hb); have n5_ := σp (hi); clear HO_5; clear BK345; clear BK349; clear HK; clear HB; clear HI0; have HO_5 := n0_; have BK345 := n1_; have BK349 := n2_; have HK := n3_; have HB := n4_; have HI0 := n5_; clear n0_ n1_ n2_ n3_ n4_ n5_; (try clear hb); (try clear hb2); (try clear hk); (try clear hi); have hnb45 := NB349_345.out; have hnc45 := NB345_349.out; have hnb46 := NB349_0.out; have hnc46 := NB0_349.out; have hcz47_0 : w44.cell? ⟨gb349, 0, none⟩ = some (.int .i64 7) := (σk BK349.out 0).trans rfl; have hcz47_1 : w44.cell? ⟨gb349, 1, none⟩ = some (.int .i64 (wrap64 (60 * (wrap64 (2 + t346))))) := (σk BK349.out 1).trans rfl; have hcz47_2 : w44.cell? ⟨gb349, 2, none⟩ = some (.int .i64 0) := (σk BK349.out 2).trans rfl; have hfz47_0 := blk_frozen BK349.out 0; have hfz47_1 := blk_frozen BK349.out 1; have hfz47_2 := blk_frozen BK349.out 2; have hnb48 := NB345_0.out; have hnc48 := NB0_345.out; have hcz49_0 : w44.cell? ⟨gb345, 0, none⟩ = some (.int .i64 0) := (σk BK345.out 0).trans rfl; have hcz49_1 : w44.cell? ⟨gb345, 1, none⟩ = some (.int .i64 0) := (σk BK345.out 1).trans rfl; have hcz49_2 : w44.cell? ⟨gb345, 2, none⟩ = some (.int .i64 0) := (σk BK345.out 2).trans rfl; have hfz49_0 := blk_frozen BK345.out 0; have hfz49_1 := blk_frozen BK345.out 1; have hfz49_2 := blk_frozen BK345.out 2))
   refine bodyPost_ret (results_ct rfl _ _ gb345 25 #[.int .i64 7, .int .i64 (wrap64 (60 * (wrap64 (2 + t346)))), .int .i64 0] (0, 0) _ rfl (by (with_reducible repeat (first | refine σa ?_ _ | refine σc ?_ | refine σb ?_ _)); refine blk_put (cs := #[.int .i64 7, .int .i64 (wrap64 (60 * (wrap64 (2 + t346)))), .int .i64 0]) ?_ 2 _ rfl; (with_reducible repeat (first | refine σa ?_ _ | refine σc ?_ | refine σb ?_ _)); refine blk_put (cs := #[.int .i64 7, .int .i64 0, .int .i64 0]) ?_ 1 _ rfl; (with_reducible repeat (first | refine σa ?_ _ | refine σc ?_ | refine σb ?_ _)); refine blk_put (cs := #[.int .i64 0, .int .i64 0, .int .i64 0]) ?_ 0 _ rfl; (with_reducible repeat (first | refine σa ?_ _ | refine σc ?_ | refine σb ?_ _)); exact BK345.out) Try.underlying25 rfl (by kernel_rfl)) rfl ?_
   exact ⟨_, by first | rfl | (simp [errW_none, errW_some] <;> rfl) | (simp [*, errW_none, errW_some] <;> rfl), by (with_reducible repeat (first | apply Kd.R_alloc | apply Kd.R_drewN | apply Kd.R_drew)); exact Kd.R_mono (Kd.R_far (p := ⟨gb345, 2, none⟩) (Kd.R_far (p := ⟨gb345, 1, none⟩) (Kd.R_far (p := ⟨gb345, 0, none⟩) (Kd.R_types HO_5.out BK345.out (by decide)) (fun _ hk => hk.2) (.int .i64 7)) (fun _ hk => hk.2) (.int .i64 (wrap64 (60 * (wrap64 (2 + t346)))))) (fun _ hk => hk.2) (.int .i64 0)) (fun _ hk => trivial), by repeat (first | (with_reducible first | exact HI0.out | apply IsS86.alloc | apply IsS86.drewN | apply IsS86.drew | apply IsS86.set_1 | apply IsS86.set_2 | refine IsS86.far ?_ NB0_345.out _ | refine IsS86.far ?_ NB0_349.out _) | exact HI0.out), by repeat (first | (with_reducible first | exact HB.out | apply σj | apply σh | apply σi | refine σg ?_ (IsS86.ge HI0.out) | refine σg ?_ GE345.out | refine σg ?_ GE349.out) | exact HB.out), by repeat (first | (with_reducible first | exact HK.out | apply KeepBut.set_ | apply keep_drewN | apply keep_drew | apply keep_alloc | refine keep_far ?_ GW345.out _ | refine keep_far ?_ GW349.out _) | exact HK.out)⟩

end Go.Proofs.Ytimikonnmcgljaa.QFnOffers
