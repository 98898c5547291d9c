-- LAWGEN: by hand and by wip/lawgen.py, by this session. Lean checks it.
import Derived.Test.YtfdalcklgfdadaaQFnExactAmendAllx0
import Derived.Test.YtfdalcklgfdadaaQFnExactAmendAllx1
import Derived.Test.YtfdalcklgfdadaaQFnExactAmendAllx2
import Derived.Test.YtfdalcklgfdadaaQFnExactAmendAllx3
import Derived.Test.YtfdalcklgfdadaaQFnExactAmendAllx4
namespace Go.Proofs.Ytfdalcklgfdadaa.QFnExactAmendAll
open Go.RowKit Go.Proofs.YtfdalcklgfdadaaW.PrintWords Go.Proofs.YtfdalcklgfdadaaW.PrintLast Go.Proofs.YtfdalcklgfdadaaW.PrintMore
attribute [local go_sem] max2_int min2_int max_two min_two max_three min_three max_four min_four   -- for this text's walks alone
set_option linter.unusedVariables false
set_option linter.unusedSimpArgs false

theorem size_drewN_ {n : Nat} {w : World} (h : n ≤ w.heap.size) (m : Nat) : n ≤ (w.drewN m).heap.size := h
theorem R_iv {α : Type} {d : Kd α} {e b n : Nat} {W W' : World} {v : Value} {xs : List α} (h : Kd.R d e W' W.heap.size (fun _ => True) v xs ∧ W.heap.size ≤ W'.heap.size) (hb : b ≤ W.heap.size) (hn : n ≤ W.heap.size) : ∃ m, n ≤ m ∧ m ≤ W'.heap.size ∧ Kd.R d e W' b (fun k => n ≤ k ∧ k < m) v xs :=
  ⟨W'.heap.size, Nat.le_trans hn h.2, Nat.le_refl _, Kd.R_lower (Kd.R_mono (Kd.R_bound h.1) (fun k hk => ⟨Nat.le_trans hn hk.2.1, hk.2.2.1⟩)) hb⟩
theorem S_iv {α : Type} {d : Kd α} {e b n : Nat} {W W' : World} {v : Value} {xs : List α} (h : Kd.S d e W' W.heap.size (fun _ => True) v xs ∧ W.heap.size ≤ W'.heap.size) (hb : b ≤ W.heap.size) (hn : n ≤ W.heap.size) : ∃ m, n ≤ m ∧ m ≤ W'.heap.size ∧ Kd.S d e W' b (fun k => n ≤ k ∧ k < m) v xs :=
  ⟨W'.heap.size, Nat.le_trans hn h.2, Nat.le_refl _, Kd.S_lower (Kd.S_mono (Kd.S_bound h.1) (fun k hk => ⟨Nat.le_trans hn hk.2.1, hk.2.2.1⟩)) hb⟩
/-! ### laws_markAmendS: function 38, by hand: a row of amendments, each written field by field, its own row by markIntS -/
def laws_markAmendS.l0 : Nat → List S28 → Int → Int → Option (Int × List S28)
  | 0, _, _, _ => none
  | k + 1, x0, x1, x5 => if x5 < (x0.length : Int) then (if 0 ≤ x5 then ((laws_markIntS.f k (rd_T28 x0 x5).f2 (wrap64 (wrap64 (x1 + 1) + 1))).bind fun bt => (laws_markAmendS.l0 k (x0.set (x5 : Int).toNat ⟨x1, wrap64 (x1 + 1), bt.2⟩) bt.1 (wrap64 (x5 + 1)))) else (none)) else (some (x1, x0))
def laws_markAmendS.f (k : Nat) (l0 : List S28) (a1 : Int) : Option (Int × List S28) := laws_markAmendS.l0 k l0 a1 0
theorem laws_markAmendS.mono_l : ∀ k, (∀ y0 y1 y2, LeO (laws_markAmendS.l0 k y0 y1 y2) (laws_markAmendS.l0 (k + 1) y0 y1 y2))
  | 0 => fun _ _ _ r h => by simp [laws_markAmendS.l0] at h
  | k + 1 => by
    have ih0 := laws_markAmendS.mono_l k
    · intro y0 y1 y2
      unfold laws_markAmendS.l0
      repeat' first
      | (with_reducible exact ih0 _ _ _)
      | (with_reducible exact laws_markIntS.mono _ _ _)
      | (with_reducible exact LeO.refl _)
      | (with_reducible exact LeO.none _)
      | (with_reducible refine LeO.ite ?_ ?_)
      | (with_reducible refine LeO.bind ?_ (fun _ => ?_))
      | exact ih0 _ _ _
      | exact laws_markIntS.mono _ _ _
      | exact LeO.none _
      | refine LeO.ite ?_ ?_
      | refine LeO.bind ?_ (fun _ => ?_)
theorem laws_markAmendS.mono : ∀ a0 a1 k, LeO (laws_markAmendS.f k a0 a1) (laws_markAmendS.f (k + 1) a0 a1) := by
  intro a0 a1 k
  have ih0 := laws_markAmendS.mono_l k
  unfold laws_markAmendS.f
  exact ih0 _ _ _
section Lent
variable {W : World} {base : Nat} {ok oki : Nat → Prop} {g n cap : Nat} {xs : List S28} {i : Int} {x y v : Value}
/-- An element lent: its three cells. -/
theorem H_facts (hH : Kd.H k28 28 W base ok (.slice (some ⟨g, 0, none⟩) n cap) xs i oki [x, y, v]) (h0 : 0 ≤ i) (h1 : i < n) :
    W.cell? ⟨g, (i : Int).toNat * 3, none⟩ = some x ∧ W.cell? ⟨g, (i : Int).toNat * 3 + 1, none⟩ = some y ∧ W.cell? ⟨g, (i : Int).toNat * 3 + 2, none⟩ = some v ∧
      W.frozen? ⟨g, (i : Int).toNat * 3, none⟩ = false ∧ W.frozen? ⟨g, (i : Int).toNat * 3 + 1, none⟩ = false := by
  obtain ⟨rows, _, _, _, _, hcc, _⟩ := Kd.H_raw hH h0 h1
  obtain ⟨_, f, hR⟩ := hH
  obtain ⟨_, _, _, _, hfr⟩ := Kd.R_elem hR (z28, 0) i h0 h1
  exact ⟨hcc 0 _ rfl, hcc 1 _ rfl, hcc 2 _ rfl, hfr 0, hfr 1⟩
theorem H_put0 (hH : Kd.H k28 28 W base ok (.slice (some ⟨g, 0, none⟩) n cap) xs i oki [x, y, v]) (h0 : 0 ≤ i) (h1 : i < n) (a : Int) :
    Kd.H k28 28 (W.setCell ⟨g, (i : Int).toNat * 3, none⟩ (.int .i64 a)) base ok (.slice (some ⟨g, 0, none⟩) n cap) xs i oki [.int .i64 a, y, v] :=
  (Kd.H_seg hH h0 h1 (seg := [.int .i64 a]) (j := 0) (show 0 + 1 ≤ 3 from by decide) (fun q hq => by rw [List.mem_singleton.1 hq]; rfl)).1
theorem H_put1 (hH : Kd.H k28 28 W base ok (.slice (some ⟨g, 0, none⟩) n cap) xs i oki [x, y, v]) (h0 : 0 ≤ i) (h1 : i < n) (a : Int) :
    Kd.H k28 28 (W.setCell ⟨g, (i : Int).toNat * 3 + 1, none⟩ (.int .i64 a)) base ok (.slice (some ⟨g, 0, none⟩) n cap) xs i oki [x, .int .i64 a, v] :=
  (Kd.H_seg hH h0 h1 (seg := [.int .i64 a]) (j := 1) (show 1 + 1 ≤ 3 from by decide) (fun q hq => by rw [List.mem_singleton.1 hq]; rfl)).1
theorem elem_A (h : Kd.S k28 28 W base ok (.slice (some ⟨g, 0, none⟩) n cap) xs) (i : Int) (h0 : 0 ≤ i) (h1 : i < n) :
    ∃ (oki : Nat → Prop) (v : Value), Kd.R (Kd.int .i64) 3 W base oki v (rd_T28 xs i).f2 ∧ (∀ k, oki k → ok k ∧ k ≠ g) ∧ Kd.H k28 28 W base ok (.slice (some ⟨g, 0, none⟩) n cap) xs i oki [.int .i64 (rd_T28 xs i).f0, .int .i64 (rd_T28 xs i).f1, v] := by
  obtain ⟨oki, c, hcl, hM, hcc, hoki, hH⟩ := Kd.S_lend h z28 i h0 h1
  obtain ⟨v, rfl, hR⟩ := k28_openM hM
  exact ⟨oki, v, hR, hoki, hH⟩
end Lent
set_option maxHeartbeats 8000000 in
set_option maxRecDepth 100000 in
theorem laws_markAmendS.calls (k : Nat) (P0_ : Nat → Prop) (u9_ : Value) (l0 : List S28) (a1 : Int) (r1 : Int) (r2 : List S28) (w0 w : World) (hB : Below w0.heap.size w0 w) (ho0 : Kd.S k28 28 w w0.heap.size P0_ u9_ l0) (h : laws_markAmendS.f k l0 a1 = some (r1, r2)) :
    Calls Try.prog 38 #[u9_, .int .i64 a1] w fun e w' => e = .returned (.int .i64 r1) ∧ Kd.S k28 28 w' w0.heap.size P0_ u9_ r2 ∧ Below w0.heap.size w0 w' ∧ Kept w w' P0_ := by
  have hu28 := Try.underlying28
  obtain ⟨A0, c0, e0⟩ := Kd.S_slice ho0
  subst e0
  have HS := Aside0.mk ho0
  have HB := Aside0.mk hB
  have HKP := Aside0.mk (Kept.refl w P0_)
  clear ho0 hB
  have H : (laws_markAmendS.l0 k l0 a1 0) = some (r1, r2) := h
  clear h
  have H' := Aside0.mk H
  clear H
  go_enter Try.func38, Try.ntmps38
  go_wp2
  go_loopg [1, 5] k (fun kq v1 v5 w' => ∃ (l' : List S28) (x1_1 : Int) (x5_1 : Int), v1 = .int .i64 x1_1 ∧ v5 = .int .i64 x5_1 ∧ Aside0 (laws_markAmendS.l0 kq l' x1_1 x5_1 = some (r1, r2)) ∧ Aside0 (kq ≤ k) ∧ Aside0 (Kd.S k28 28 w' w0.heap.size P0_ (.slice A0 l0.length c0) l') ∧ Aside0 (Below w0.heap.size w0 w') ∧ Aside0 (Kept w w' P0_))
  case atStart => exact ⟨l0, a1, 0, (by first | rfl | (simp; done) | (simp [*]; done)), (by first | rfl | (simp; done) | (simp [*]; done)), H', ⟨Nat.le_refl _⟩, HS, HB, HKP⟩
  case round =>
    clear H' HS HB HKP
    try clear p2
    obtain ⟨l', x1_1, x5_1, rfl, rfl, HA, HK1, HS, HB, HKP⟩ := hrel
    cases gk with
    | zero => exact absurd HA.out (by simp [laws_markAmendS.l0])
    | succ k1 =>
      have H := HA.out
      clear HA
      simp only [laws_markAmendS.l0] at H
      have hlen : l0.length = l'.length := (Kd.S_reads' HS.out).1
      rw [← hlen] at H
      clear hlen
      by_cases c3 : x5_1 < (l0.length : Int)
      · rw [if_pos c3] at H
        have c3b0 : decide (x5_1 < (l0.length : Int)) = true := decide_eq_true c3
        by_cases c4 : 0 ≤ x5_1
        · rw [if_pos c4] at H
          have c4b0 : decide (0 ≤ x5_1) = true := decide_eq_true c4
          replace H := Option.bind_eq_some_iff.mp H
          obtain ⟨⟨t1, t2⟩, A50, H⟩ := H
          replace H : (laws_markAmendS.l0 k1 (l'.set (x5_1 : Int).toNat ⟨x1_1, wrap64 (x1_1 + 1), t2⟩) t1 (wrap64 (x5_1 + 1))) = some (r1, r2) := H
          have A5 := Aside0.mk A50
          clear A50
          have H' := Aside0.mk H
          clear H
          obtain ⟨ad, _, _, e156, _⟩ := at_T28 (Kd.S_reads' HS.out).2.2 x5_1 c4 (by rw [← (Kd.S_reads' HS.out).1]; exact c3)
          cases e156
          obtain ⟨g, eg⟩ := Kd.R_head (Kd.S_R HS.out)
          subst eg
          have HPG := Aside0.mk (show P0_ g from (Kd.S_R HS.out).1 g (by simp [Value.ownBlock]))
          have HGB := Aside0.mk (Kd.S_base HS.out g (by simp [Value.ownBlock]))
          obtain ⟨oki, v, hR, hok, hH⟩ := elem_A HS.out x5_1 c4 c3
          obtain ⟨hx0, hx1, hx2, hf0, hf1⟩ := H_facts hH c4 c3
          have HR := Aside0.mk hR
          have HOK := Aside0.mk hok
          have HH := Aside0.mk hH
          have HC4 := Aside0.mk c4
          have HC3 := Aside0.mk c3
          clear hR hok hH HS
          have p156 := eq_true c4
          have q156 := eq_true c3
          clear c3 c4
          go_wp2_with (first
            | ((with_reducible refine gate_store (t := 3) (p := 16) rfl ?_); refine store_event (t := 3) (p := 16) (v := ?vo_w11) (w1 := (wr.setCell ⟨g, (x5_1 : Int).toNat * 3, none⟩ (.int .i64 x1_1))) ?hg ?ho ?hn ?hr ?_; (case ho => rfl); (case hg => rfl); (case hn => rfl); (case hr => first | (go_simp; done) | (go_simp; rfl)); intro w11 hw; have n0_ := Aside0.mk (show Kd.H k28 28 w11 w0.heap.size P0_ (.slice (some ⟨g, 0, none⟩) l0.length c0) l' x5_1 oki [.int .i64 x1_1, .int .i64 (rd_T28 l' x5_1).f1, v] from (by rw [hw]; exact H_put0 HH.out HC4.out HC3.out x1_1)); have n1_ := Aside0.mk (show Kd.R (Kd.int .i64) 3 w11 w0.heap.size oki v (rd_T28 l' x5_1).f2 from (by rw [hw]; exact Kd.R_far (p := ⟨g, (x5_1 : Int).toNat * 3, none⟩) HR.out (fun k_ h_ => (HOK.out k_ h_).2) _)); have n2_ := Aside0.mk (show Below w0.heap.size w0 w11 from (by rw [hw]; exact below_set HB.out HGB.out)); have n3_ := Aside0.mk (show Kept w w11 P0_ from (by rw [hw]; exact Kept.setCell HKP.out (.inl HPG.out) _)); clear HH HR HB HKP hx0 hx1 hx2 hf0 hf1 hw; have HH := n0_; have HR := n1_; have HB := n2_; have HKP := n3_; clear n0_ n1_ n2_ n3_; obtain ⟨hx0, hx1, hx2, hf0, hf1⟩ := H_facts HH.out HC4.out HC3.out)
            | ((with_reducible refine gate_store (t := 3) (p := 23) rfl ?_); refine store_event (t := 3) (p := 23) (v := ?vo_w13) (w1 := (w11.setCell ⟨g, (x5_1 : Int).toNat * 3 + 1, none⟩ (.int .i64 (wrap64 (x1_1 + 1))))) ?hg ?ho ?hn ?hr ?_; (case ho => rfl); (case hg => rfl); (case hn => rfl); (case hr => first | (go_simp; done) | (go_simp; rfl)); intro w13 hw; have n0_ := Aside0.mk (show Kd.H k28 28 w13 w0.heap.size P0_ (.slice (some ⟨g, 0, none⟩) l0.length c0) l' x5_1 oki [.int .i64 x1_1, .int .i64 (wrap64 (x1_1 + 1)), v] from (by rw [hw]; exact H_put1 HH.out HC4.out HC3.out _)); have n1_ := Aside0.mk (show Kd.R (Kd.int .i64) 3 w13 w0.heap.size oki v (rd_T28 l' x5_1).f2 from (by rw [hw]; exact Kd.R_far (p := ⟨g, (x5_1 : Int).toNat * 3 + 1, none⟩) HR.out (fun k_ h_ => (HOK.out k_ h_).2) _)); have n2_ := Aside0.mk (show Below w0.heap.size w0 w13 from (by rw [hw]; exact below_set HB.out HGB.out)); have n3_ := Aside0.mk (show Kept w w13 P0_ from (by rw [hw]; exact Kept.setCell HKP.out (.inl HPG.out) _)); clear HH HR HB HKP hx0 hx1 hx2 hf0 hf1 hw; have HH := n0_; have HR := n1_; have HB := n2_; have HKP := n3_; clear n0_ n1_ n2_ n3_; obtain ⟨hx0, hx1, hx2, hf0, hf1⟩ := H_facts HH.out HC4.out HC3.out)
            | ((with_reducible refine gate_callee (f := 25) rfl ?_); refine goesL_ (some 32) rfl rfl Try.func25 (by kernel_rfl) rfl #[v, .int .i64 (wrap64 (wrap64 (x1_1 + 1) + 1))] rfl (by (try simp only [List.map_toArray, List.map_cons, List.map_nil]); first | done | rfl) ?_; (refine (laws_markIntS.calls k1 oki v (rd_T28 l' x5_1).f2 (wrap64 (wrap64 (x1_1 + 1) + 1)) t1 t2 w0 _ HB.out HR.out A5.out).mono ?_); rintro e w2 ⟨rfl, hy0, hb, hkp⟩; refine ⟨_, rfl, ?_⟩; have n0_ := Aside0.mk (Kd.H_back (Kd.H_step HH.out (fun k_ _ hno hlt => hkp.2 k_ hlt hno)) (x' := (⟨x1_1, wrap64 (x1_1 + 1), t2⟩ : S28)) (okp := oki) (k28_mkM _ _ _ (⟨x1_1, wrap64 (x1_1 + 1), t2⟩ : S28) (Kd.R_reok rfl hy0 (fun k_ e_ => HR.out.1 k_ e_))) (fun _ h_ => h_)); have n1_ := Aside0.mk hb; have n2_ := Aside0.mk (HKP.out.then_ hkp (fun k_ hk_ => .inl (HOK.out k_ hk_).1)); clear HB HKP HH HR hx0 hx1 hx2 hf0 hf1; have HS := n0_; have HB := n1_; have HKP := n2_; clear n0_ n1_ n2_ hy0 hb hkp))
          go_roundg k1
          case measure => have := HK1.out; omega
          case rel => exact ⟨l'.set (x5_1 : Int).toNat ⟨x1_1, wrap64 (x1_1 + 1), t2⟩, t1, (wrap64 (x5_1 + 1)), (by first | rfl | (simp; done) | (simp [*]; done)), (by first | rfl | (simp; done) | (simp [*]; done)), H', ⟨by have := HK1.out; omega⟩, HS, HB, HKP⟩
        · rw [if_neg c4] at H
          exact absurd H (by simp)
      · rw [if_neg c3] at H
        have c3b0 : decide (x5_1 < (l0.length : Int)) = false := decide_eq_false c3
        clear c3
        have H2 := Option.some.inj H
        obtain ⟨e1, e2⟩ := Prod.mk.inj H2
        subst e1 e2
        go_wp2
        go_ret
        exact ⟨by first | rfl | (simp; done) | (simp [*]; done), HS.out, HB.out, HKP.out⟩
/-! ### laws_FnExactAmendAll: function 8, laid by lawgen.py -/
def laws_FnExactAmendAll.f (k : Nat) (l0 : List (Int)) (l1 : List (S24)) : Option (Bool) := if (l0.length : Int) > 1048576 then (some true) else ((laws_szAmendS.f k l1 1048576).bind fun t1 => (if t1 < 0 then (some true) else ((laws_toIntS.f k l0).bind fun t2 => ((laws_toAmendS.f k l1).bind fun t3 => ((spec_AmendAll.f k t2 t3).bind fun bt4 => ((laws_toIntS.f k l0).bind fun t5 => ((laws_toAmendS.f k l1).bind fun t6 => ((impl_AmendAll.f k t5 t6).bind fun bt7 => ((laws_eqIntS.f k bt7.1 bt4.1).bind fun b8 => (if b8 = true then (if bt7.2 = bt4.2 then ((laws_toIntS.f k l0).bind fun t9 => ((laws_eqIntS.f k t5 t9).bind fun b10 => (if b10 = true then ((laws_toAmendS.f k l1).bind fun t11 => ((laws_eqAmendS.f k t6 t11).bind fun b12 => (if b12 = true then ((laws_markIntS.f k t5 1).bind fun bt13 => ((laws_markAmendS.f k t6 bt13.1).bind fun bt14 => ((laws_eqIntS.f k bt7.1 bt4.1).bind fun b15 => (if bt14.1 < 0 then (some false) else (if b15 = true then (if bt7.2 = bt4.2 then ((laws_markIntS.f k bt7.1 1).bind fun bt16 => ((laws_heldIntS.f k bt16.2 1).bind fun t17 => (if t17 < 0 then (some false) else (if t17 = bt16.1 then ((laws_toIntS.f k l0).bind fun t18 => ((laws_toAmendS.f k l1).bind fun t19 => ((impl_AmendAll.f k t18 t19).bind fun bt20 => ((laws_eqIntS.f k bt20.1 bt4.1).bind fun b21 => (if b21 = true then (if bt20.2 = bt4.2 then ((laws_heldIntS.f k bt16.2 1).bind fun t22 => (if t22 < 0 then (some false) else (if t22 = bt16.1 then (some true) else (some false)))) else (some false)) else (some false)))))) else (some false))))) else (some false)) else (some false)))))) else (some false)))) else (some false)))) else (some false)) else (some false)))))))))))
theorem laws_FnExactAmendAll.mono : ∀ l0 l1 k, LeO (laws_FnExactAmendAll.f k l0 l1) (laws_FnExactAmendAll.f (k + 1) l0 l1) := by
  intro l0 l1 k
  unfold laws_FnExactAmendAll.f
  repeat' first
      | (with_reducible exact laws_szAmendS.mono _ _ _)
      | (with_reducible exact laws_toIntS.mono _ _)
      | (with_reducible exact laws_toAmendS.mono _ _)
      | (with_reducible exact spec_AmendAll.mono _ _ _)
      | (with_reducible exact impl_AmendAll.mono _ _ _)
      | (with_reducible exact laws_eqIntS.mono _ _ _)
      | (with_reducible exact laws_eqAmendS.mono _ _ _)
      | (with_reducible exact laws_markIntS.mono _ _ _)
      | (with_reducible exact laws_markAmendS.mono _ _ _)
      | (with_reducible exact laws_heldIntS.mono _ _ _)
      | (with_reducible exact LeO.refl _)
      | (with_reducible exact LeO.none _)
      | (with_reducible refine LeO.ite ?_ ?_)
      | (with_reducible refine LeO.bind ?_ (fun _ => ?_))
      | exact laws_szAmendS.mono _ _ _
      | exact laws_toIntS.mono _ _
      | exact laws_toAmendS.mono _ _
      | exact spec_AmendAll.mono _ _ _
      | exact impl_AmendAll.mono _ _ _
      | exact laws_eqIntS.mono _ _ _
      | exact laws_eqAmendS.mono _ _ _
      | exact laws_markIntS.mono _ _ _
      | exact laws_markAmendS.mono _ _ _
      | exact laws_heldIntS.mono _ _ _
      | exact LeO.none _
      | refine LeO.ite ?_ ?_
      | refine LeO.bind ?_ (fun _ => ?_)
set_option maxHeartbeats 8000000 in
set_option maxRecDepth 100000 in
theorem laws_FnExactAmendAll.calls (k : Nat) (A0 : Option Addr) (c0 : Nat) (l0 : List (Int)) (A1 : Option Addr) (c1 : Nat) (l1 : List (S24)) (r : Bool) (w : World) (hr0 : Kd.C (Kd.int .i64) w A0 l0.length l0) (hc0 : l0.length ≤ c0) (hr1 : Kd.C k24 w A1 l1.length l1) (hc1 : l1.length ≤ c1) (hr_ : r = true) (h : laws_FnExactAmendAll.f k l0 l1 = some r) :
    Calls Try.prog 8 #[.slice A0 l0.length c0, .slice A1 l1.length c1] w fun e w' => e = .returned (.bool r) ∧ Below w.heap.size w w' := by
  subst hr_
  unfold laws_FnExactAmendAll.f at h
  have HR0 := Aside0.mk hr0
  have HC0 := Aside0.mk hc0
  clear hr0 hc0
  have HR1 := Aside0.mk hr1
  have HC1 := Aside0.mk hc1
  clear hr1 hc1
  have HB := Aside0.mk (Below.refl w.heap.size w)
  have HN := Aside0.mk (Nat.le_refl w.heap.size)
  by_cases cc0 : (l0.length : Int) > 1048576
  case pos =>
    clear h
    have cc0b0 : decide (1048576 < (l0.length : Int)) = true := decide_eq_true cc0
    have cc0b1 : decide (1048576 < l0.length) = true := decide_eq_true (by omega)
    clear cc0
    go_enter Try.func8, Try.ntmps8
    go_wp2
    go_ret
    exact ⟨by first | rfl | (simp; done) | (simp [*]; done), HB.out⟩
  rw [if_neg cc0] at h
  have cc0b0 : decide (1048576 < (l0.length : Int)) = false := decide_eq_false cc0
  have cc0b1 : decide (1048576 < l0.length) = false := decide_eq_false (by omega)
  clear cc0
  replace h := Option.bind_eq_some_iff.mp h
  obtain ⟨t1, A_10, h⟩ := h
  have A_1 := Aside0.mk A_10
  clear A_10
  by_cases cc1 : t1 < 0
  case pos =>
    clear h
    have cc1b0 : decide (t1 < 0) = true := decide_eq_true cc1
    clear cc1
    go_enter Try.func8, Try.ntmps8
    go_wp2_with (first
        | ((with_reducible refine gate_callee (f := 33) rfl ?_); refine goesL_ (some 22) rfl rfl Try.func33 (by kernel_rfl) rfl #[.slice A1 l1.length c1, .int .i64 1048576] rfl (by (try simp only [List.map_toArray, List.map_cons, List.map_nil]); first | done | rfl) ?_; (refine (laws_szAmendS.calls k _ _ l1 1048576 t1 _ (Kd.C_below HR1.out HB.out) HC1.out A_1.out).mono ?_); rintro e w_1 ⟨rfl, hb⟩; refine ⟨_, rfl, ?_⟩; have n_B := Aside0.mk (below_step HB.out hb); have n_N := Aside0.mk (Nat.le_trans HN.out hb.size); clear  HB HN hb; have HB := n_B; have HN := n_N; clear  n_B n_N))
    go_ret
    exact ⟨by first | rfl | (simp; done) | (simp [*]; done), HB.out⟩
  rw [if_neg cc1] at h
  have cc1b0 : decide (t1 < 0) = false := decide_eq_false cc1
  clear cc1
  replace h := Option.bind_eq_some_iff.mp h
  obtain ⟨t2, A_20, h⟩ := h
  have A_2 := Aside0.mk A_20
  clear A_20
  replace h := Option.bind_eq_some_iff.mp h
  obtain ⟨t3, A_30, h⟩ := h
  have A_3 := Aside0.mk A_30
  clear A_30
  replace h := Option.bind_eq_some_iff.mp h
  obtain ⟨⟨t4_1, t4_2⟩, A_40, h⟩ := h
  have A_4 := Aside0.mk A_40
  clear A_40
  replace h := Option.bind_eq_some_iff.mp h
  obtain ⟨t5, A_50, h⟩ := h
  have A_5 := Aside0.mk A_50
  clear A_50
  replace h := Option.bind_eq_some_iff.mp h
  obtain ⟨t6, A_60, h⟩ := h
  have A_6 := Aside0.mk A_60
  clear A_60
  replace h := Option.bind_eq_some_iff.mp h
  obtain ⟨⟨t7_1, t7_2⟩, A_70, h⟩ := h
  have A_7 := Aside0.mk A_70
  clear A_70
  replace h := Option.bind_eq_some_iff.mp h
  obtain ⟨b8, A_80, h⟩ := h
  have A_8 := Aside0.mk A_80
  clear A_80
  cases hb8 : b8 with
  | false => rw [hb8] at h; exact absurd h (by simp)
  | true =>
  rw [if_pos hb8] at h
  subst hb8
  by_cases cc3 : t7_2 = t4_2
  case neg => rw [if_neg cc3] at h; exact absurd h (by simp)
  rw [if_pos cc3] at h
  have cc3b1 : (t7_2 != t4_2) = false := bne_eq_false_iff_eq.mpr cc3
  have cc3b2 : (t7_2 == t4_2) = true := beq_iff_eq.mpr cc3
  clear cc3
  replace h := Option.bind_eq_some_iff.mp h
  obtain ⟨t9, A_90, h⟩ := h
  have A_9 := Aside0.mk A_90
  clear A_90
  replace h := Option.bind_eq_some_iff.mp h
  obtain ⟨b10, A_100, h⟩ := h
  have A_10 := Aside0.mk A_100
  clear A_100
  cases hb10 : b10 with
  | false => rw [hb10] at h; exact absurd h (by simp)
  | true =>
  rw [if_pos hb10] at h
  subst hb10
  replace h := Option.bind_eq_some_iff.mp h
  obtain ⟨t11, A_110, h⟩ := h
  have A_11 := Aside0.mk A_110
  clear A_110
  replace h := Option.bind_eq_some_iff.mp h
  obtain ⟨b12, A_120, h⟩ := h
  have A_12 := Aside0.mk A_120
  clear A_120
  cases hb12 : b12 with
  | false => rw [hb12] at h; exact absurd h (by simp)
  | true =>
  rw [if_pos hb12] at h
  subst hb12
  replace h := Option.bind_eq_some_iff.mp h
  obtain ⟨⟨t13_1, t13_2⟩, A_130, h⟩ := h
  have A_13 := Aside0.mk A_130
  clear A_130
  replace h := Option.bind_eq_some_iff.mp h
  obtain ⟨⟨t14_1, t14_2⟩, A_140, h⟩ := h
  have A_14 := Aside0.mk A_140
  clear A_140
  replace h := Option.bind_eq_some_iff.mp h
  obtain ⟨b15, A_150, h⟩ := h
  have A_15 := Aside0.mk A_150
  clear A_150
  by_cases cc6 : t14_1 < 0
  case pos => rw [if_pos cc6] at h; exact absurd h (by simp)
  rw [if_neg cc6] at h
  have cc6b0 : decide (t14_1 < 0) = false := decide_eq_false cc6
  clear cc6
  cases hb15 : b15 with
  | false => rw [hb15] at h; exact absurd h (by simp)
  | true =>
  rw [if_pos hb15] at h
  subst hb15
  by_cases cc8 : t7_2 = t4_2
  case neg => rw [if_neg cc8] at h; exact absurd h (by simp)
  rw [if_pos cc8] at h
  have cc8b1 : (t7_2 != t4_2) = false := bne_eq_false_iff_eq.mpr cc8
  have cc8b2 : (t7_2 == t4_2) = true := beq_iff_eq.mpr cc8
  clear cc8
  replace h := Option.bind_eq_some_iff.mp h
  obtain ⟨⟨t16_1, t16_2⟩, A_160, h⟩ := h
  have A_16 := Aside0.mk A_160
  clear A_160
  replace h := Option.bind_eq_some_iff.mp h
  obtain ⟨t17, A_170, h⟩ := h
  have A_17 := Aside0.mk A_170
  clear A_170
  by_cases cc9 : t17 < 0
  case pos => rw [if_pos cc9] at h; exact absurd h (by simp)
  rw [if_neg cc9] at h
  have cc9b0 : decide (t17 < 0) = false := decide_eq_false cc9
  clear cc9
  by_cases cc10 : t17 = t16_1
  case neg => rw [if_neg cc10] at h; exact absurd h (by simp)
  rw [if_pos cc10] at h
  have cc10b1 : (t17 != t16_1) = false := bne_eq_false_iff_eq.mpr cc10
  have cc10b2 : (t17 == t16_1) = true := beq_iff_eq.mpr cc10
  clear cc10
  replace h := Option.bind_eq_some_iff.mp h
  obtain ⟨t18, A_180, h⟩ := h
  have A_18 := Aside0.mk A_180
  clear A_180
  replace h := Option.bind_eq_some_iff.mp h
  obtain ⟨t19, A_190, h⟩ := h
  have A_19 := Aside0.mk A_190
  clear A_190
  replace h := Option.bind_eq_some_iff.mp h
  obtain ⟨⟨t20_1, t20_2⟩, A_200, h⟩ := h
  have A_20 := Aside0.mk A_200
  clear A_200
  replace h := Option.bind_eq_some_iff.mp h
  obtain ⟨b21, A_210, h⟩ := h
  have A_21 := Aside0.mk A_210
  clear A_210
  cases hb21 : b21 with
  | false => rw [hb21] at h; exact absurd h (by simp)
  | true =>
  rw [if_pos hb21] at h
  subst hb21
  by_cases cc12 : t20_2 = t4_2
  case neg => rw [if_neg cc12] at h; exact absurd h (by simp)
  rw [if_pos cc12] at h
  have cc12b1 : (t20_2 != t4_2) = false := bne_eq_false_iff_eq.mpr cc12
  have cc12b2 : (t20_2 == t4_2) = true := beq_iff_eq.mpr cc12
  clear cc12
  replace h := Option.bind_eq_some_iff.mp h
  obtain ⟨t22, A_220, h⟩ := h
  have A_22 := Aside0.mk A_220
  clear A_220
  by_cases cc13 : t22 < 0
  case pos => rw [if_pos cc13] at h; exact absurd h (by simp)
  rw [if_neg cc13] at h
  have cc13b0 : decide (t22 < 0) = false := decide_eq_false cc13
  clear cc13
  by_cases cc14 : t22 = t16_1
  case neg => rw [if_neg cc14] at h; exact absurd h (by simp)
  rw [if_pos cc14] at h
  have cc14b1 : (t22 != t16_1) = false := bne_eq_false_iff_eq.mpr cc14
  have cc14b2 : (t22 == t16_1) = true := beq_iff_eq.mpr cc14
  clear cc14
  clear h
  go_enter Try.func8, Try.ntmps8
  go_wp2_with (first
      | ((with_reducible refine gate_callee (f := 33) rfl ?_); refine goesL_ (some 22) rfl rfl Try.func33 (by kernel_rfl) rfl #[.slice A1 l1.length c1, .int .i64 1048576] rfl (by (try simp only [List.map_toArray, List.map_cons, List.map_nil]); first | done | rfl) ?_; (refine (laws_szAmendS.calls k _ _ l1 1048576 t1 _ (Kd.C_below HR1.out HB.out) HC1.out A_1.out).mono ?_); rintro e w_1 ⟨rfl, hb⟩; refine ⟨_, rfl, ?_⟩; have n_B := Aside0.mk (below_step HB.out hb); have n_N := Aside0.mk (Nat.le_trans HN.out hb.size); clear  HB HN hb; have HB := n_B; have HN := n_N; clear  n_B n_N)
      | ((with_reducible refine gate_callee (f := 16) rfl ?_); refine goesL_ (some 27) rfl rfl Try.func16 (by kernel_rfl) rfl #[.slice A0 l0.length c0] rfl (by (try simp only [List.map_toArray, List.map_cons, List.map_nil]); first | done | rfl) ?_; (refine (laws_toIntS.calls k _ _ l0 t2 _ (Kd.C_below HR0.out HB.out) HC0.out A_2.out).mono ?_); rintro e w_2 ⟨v_2, rfl, ho0, hb⟩; refine ⟨_, rfl, ?_⟩; obtain ⟨n_2, o1_, o2_, o3_⟩ := R_iv ⟨ho0, hb.size⟩ (below_size HB.out) HN.out; have O_2 := Aside0.mk o1_; have n_B := Aside0.mk (below_step HB.out hb); clear  HB HN ho0 hb o1_; have HB := n_B; have HN := Aside0.mk o2_; have H_x2 := Aside0.mk o3_; clear  n_B o2_ o3_; obtain ⟨Ao_x2, co_x2, eo_⟩ := Kd.R_slice H_x2.out; subst eo_)
      | ((with_reducible refine gate_callee (f := 35) rfl ?_); refine goesL_ (some 29) rfl rfl Try.func35 (by kernel_rfl) rfl #[.slice A1 l1.length c1] rfl (by (try simp only [List.map_toArray, List.map_cons, List.map_nil]); first | done | rfl) ?_; (refine (laws_toAmendS.calls k _ _ l1 t3 _ (Kd.C_below HR1.out HB.out) HC1.out A_3.out).mono ?_); rintro e w_3 ⟨v_3, rfl, ho0, hb⟩; refine ⟨_, rfl, ?_⟩; have n_x2 := Aside0.mk (Kd.R_below H_x2.out hb); obtain ⟨n_3, o1_, o2_, o3_⟩ := S_iv ⟨ho0, hb.size⟩ (below_size HB.out) HN.out; have O_3 := Aside0.mk o1_; have n_B := Aside0.mk (below_step HB.out hb); clear H_x2 HB HN ho0 hb o1_; have H_x2 := n_x2; have HB := n_B; have HN := Aside0.mk o2_; have H_x3 := Aside0.mk o3_; clear n_x2 n_B o2_ o3_; obtain ⟨Ao_x3, co_x3, eo_⟩ := Kd.S_slice H_x3.out; subst eo_)
      | ((with_reducible refine gate_callee (f := 34) rfl ?_); refine goesL_ (some 30) rfl rfl Try.func34 (by kernel_rfl) rfl #[.slice Ao_x2 t2.length co_x2, .slice Ao_x3 t3.length co_x3] rfl (by (try simp only [List.map_toArray, List.map_cons, List.map_nil]); first | done | rfl) ?_; (refine (spec_AmendAll.calls k _ _ t2 _ _ t3 t4_1 t4_2 _ (Kd.R_reads' H_x2.out).2.2 (by have h_ := Kd.R_reads' H_x2.out; omega) (Kd.S_reads' H_x3.out).2.2 (by have h_ := Kd.S_reads' H_x3.out; omega) A_4.out).mono ?_); rintro e w_4 ⟨v_4, rfl, ho0, hb⟩; refine ⟨_, rfl, ?_⟩; have n_x2 := Aside0.mk (Kd.R_below H_x2.out hb); have n_x3 := Aside0.mk (Kd.S_below H_x3.out hb); obtain ⟨n_4, o1_, o2_, o3_⟩ := R_iv ⟨ho0, hb.size⟩ (below_size HB.out) HN.out; have O_4 := Aside0.mk o1_; have n_B := Aside0.mk (below_step HB.out hb); clear H_x2 H_x3 HB HN ho0 hb o1_; have H_x2 := n_x2; have H_x3 := n_x3; have HB := n_B; have HN := Aside0.mk o2_; have H_x4 := Aside0.mk o3_; clear n_x2 n_x3 n_B o2_ o3_; obtain ⟨Ao_x4, co_x4, eo_⟩ := Kd.R_slice H_x4.out; subst eo_)
      | ((with_reducible refine gate_callee (f := 16) rfl ?_); refine goesL_ (some 34) rfl rfl Try.func16 (by kernel_rfl) rfl #[.slice A0 l0.length c0] rfl (by (try simp only [List.map_toArray, List.map_cons, List.map_nil]); first | done | rfl) ?_; (refine (laws_toIntS.calls k _ _ l0 t5 _ (Kd.C_below HR0.out HB.out) HC0.out A_5.out).mono ?_); rintro e w_5 ⟨v_5, rfl, ho0, hb⟩; refine ⟨_, rfl, ?_⟩; have n_x2 := Aside0.mk (Kd.R_below H_x2.out hb); have n_x3 := Aside0.mk (Kd.S_below H_x3.out hb); have n_x4 := Aside0.mk (Kd.R_below H_x4.out hb); obtain ⟨n_5, o1_, o2_, o3_⟩ := R_iv ⟨ho0, hb.size⟩ (below_size HB.out) HN.out; have O_5 := Aside0.mk o1_; have n_B := Aside0.mk (below_step HB.out hb); clear H_x2 H_x3 H_x4 HB HN ho0 hb o1_; have H_x2 := n_x2; have H_x3 := n_x3; have H_x4 := n_x4; have HB := n_B; have HN := Aside0.mk o2_; have H_x5 := Aside0.mk o3_; clear n_x2 n_x3 n_x4 n_B o2_ o3_; obtain ⟨Ao_x5, co_x5, eo_⟩ := Kd.R_slice H_x5.out; subst eo_)
      | ((with_reducible refine gate_callee (f := 35) rfl ?_); refine goesL_ (some 36) rfl rfl Try.func35 (by kernel_rfl) rfl #[.slice A1 l1.length c1] rfl (by (try simp only [List.map_toArray, List.map_cons, List.map_nil]); first | done | rfl) ?_; (refine (laws_toAmendS.calls k _ _ l1 t6 _ (Kd.C_below HR1.out HB.out) HC1.out A_6.out).mono ?_); rintro e w_6 ⟨v_6, rfl, ho0, hb⟩; refine ⟨_, rfl, ?_⟩; have n_x2 := Aside0.mk (Kd.R_below H_x2.out hb); have n_x3 := Aside0.mk (Kd.S_below H_x3.out hb); have n_x4 := Aside0.mk (Kd.R_below H_x4.out hb); have n_x5 := Aside0.mk (Kd.R_below H_x5.out hb); obtain ⟨n_6, o1_, o2_, o3_⟩ := S_iv ⟨ho0, hb.size⟩ (below_size HB.out) HN.out; have O_6 := Aside0.mk o1_; have n_B := Aside0.mk (below_step HB.out hb); clear H_x2 H_x3 H_x4 H_x5 HB HN ho0 hb o1_; have H_x2 := n_x2; have H_x3 := n_x3; have H_x4 := n_x4; have H_x5 := n_x5; have HB := n_B; have HN := Aside0.mk o2_; have H_x6 := Aside0.mk o3_; clear n_x2 n_x3 n_x4 n_x5 n_B o2_ o3_; obtain ⟨Ao_x6, co_x6, eo_⟩ := Kd.S_slice H_x6.out; subst eo_)
      | ((with_reducible refine gate_callee (f := 36) rfl ?_); refine goesL_ (some 40) rfl rfl Try.func36 (by kernel_rfl) rfl #[.slice Ao_x5 t5.length co_x5, .slice Ao_x6 t6.length co_x6] rfl (by (try simp only [List.map_toArray, List.map_cons, List.map_nil]); first | done | rfl) ?_; (refine (impl_AmendAll.calls k _ _ t5 _ _ t6 t7_1 t7_2 _ (Kd.R_reads' H_x5.out).2.2 (by have h_ := Kd.R_reads' H_x5.out; omega) (Kd.S_reads' H_x6.out).2.2 (by have h_ := Kd.S_reads' H_x6.out; omega) A_7.out).mono ?_); rintro e w_7 ⟨v_7, rfl, ho0, hb⟩; refine ⟨_, rfl, ?_⟩; have n_x2 := Aside0.mk (Kd.R_below H_x2.out hb); have n_x3 := Aside0.mk (Kd.S_below H_x3.out hb); have n_x4 := Aside0.mk (Kd.R_below H_x4.out hb); have n_x5 := Aside0.mk (Kd.R_below H_x5.out hb); have n_x6 := Aside0.mk (Kd.S_below H_x6.out hb); obtain ⟨n_7, o1_, o2_, o3_⟩ := R_iv ⟨ho0, hb.size⟩ (below_size HB.out) HN.out; have O_7 := Aside0.mk o1_; have n_B := Aside0.mk (below_step HB.out hb); clear H_x2 H_x3 H_x4 H_x5 H_x6 HB HN ho0 hb o1_; have H_x2 := n_x2; have H_x3 := n_x3; have H_x4 := n_x4; have H_x5 := n_x5; have H_x6 := n_x6; have HB := n_B; have HN := Aside0.mk o2_; have H_x7 := Aside0.mk o3_; clear n_x2 n_x3 n_x4 n_x5 n_x6 n_B o2_ o3_; obtain ⟨Ao_x7, co_x7, eo_⟩ := Kd.R_slice H_x7.out; subst eo_)
      | ((with_reducible refine gate_callee (f := 19) rfl ?_); refine goesL_ (some 45) rfl rfl Try.func19 (by kernel_rfl) rfl #[.slice Ao_x7 t7_1.length co_x7, .slice Ao_x4 t4_1.length co_x4] rfl (by (try simp only [List.map_toArray, List.map_cons, List.map_nil]); first | done | rfl) ?_; (refine (laws_eqIntS.calls k _ _ t7_1 _ _ t4_1 true _ (Kd.R_reads' H_x7.out).2.2 (by have h_ := Kd.R_reads' H_x7.out; omega) (Kd.R_reads' H_x4.out).2.2 (by have h_ := Kd.R_reads' H_x4.out; omega) A_8.out).mono ?_); rintro e w' ⟨rfl, ⟨nd, rfl⟩⟩; refine ⟨_, rfl, ?_⟩; have n_x2 := Aside0.mk (Kd.R_drewN H_x2.out nd); have n_x3 := Aside0.mk (Kd.S_drewN H_x3.out nd); have n_x4 := Aside0.mk (Kd.R_drewN H_x4.out nd); have n_x5 := Aside0.mk (Kd.R_drewN H_x5.out nd); have n_x6 := Aside0.mk (Kd.S_drewN H_x6.out nd); have n_x7 := Aside0.mk (Kd.R_drewN H_x7.out nd); have n_B := Aside0.mk (pw_below_drewN HB.out nd); have n_N := Aside0.mk (size_drewN_ HN.out nd); clear H_x2 H_x3 H_x4 H_x5 H_x6 H_x7 HB HN; have H_x2 := n_x2; have H_x3 := n_x3; have H_x4 := n_x4; have H_x5 := n_x5; have H_x6 := n_x6; have H_x7 := n_x7; have HB := n_B; have HN := n_N; clear n_x2 n_x3 n_x4 n_x5 n_x6 n_x7 n_B n_N; generalize World.drewN _ nd = w_8 at H_x2 H_x3 H_x4 H_x5 H_x6 H_x7 HB HN ⊢)
      | ((with_reducible refine gate_callee (f := 16) rfl ?_); refine goesL_ (some 54) rfl rfl Try.func16 (by kernel_rfl) rfl #[.slice A0 l0.length c0] rfl (by (try simp only [List.map_toArray, List.map_cons, List.map_nil]); first | done | rfl) ?_; (refine (laws_toIntS.calls k _ _ l0 t9 _ (Kd.C_below HR0.out HB.out) HC0.out A_9.out).mono ?_); rintro e w_9 ⟨v_9, rfl, ho0, hb⟩; refine ⟨_, rfl, ?_⟩; have n_x2 := Aside0.mk (Kd.R_below H_x2.out hb); have n_x3 := Aside0.mk (Kd.S_below H_x3.out hb); have n_x4 := Aside0.mk (Kd.R_below H_x4.out hb); have n_x5 := Aside0.mk (Kd.R_below H_x5.out hb); have n_x6 := Aside0.mk (Kd.S_below H_x6.out hb); have n_x7 := Aside0.mk (Kd.R_below H_x7.out hb); obtain ⟨n_9, o1_, o2_, o3_⟩ := R_iv ⟨ho0, hb.size⟩ (below_size HB.out) HN.out; have O_9 := Aside0.mk o1_; have n_B := Aside0.mk (below_step HB.out hb); clear H_x2 H_x3 H_x4 H_x5 H_x6 H_x7 HB HN ho0 hb o1_; have H_x2 := n_x2; have H_x3 := n_x3; have H_x4 := n_x4; have H_x5 := n_x5; have H_x6 := n_x6; have H_x7 := n_x7; have HB := n_B; have HN := Aside0.mk o2_; have H_x9 := Aside0.mk o3_; clear n_x2 n_x3 n_x4 n_x5 n_x6 n_x7 n_B o2_ o3_; obtain ⟨Ao_x9, co_x9, eo_⟩ := Kd.R_slice H_x9.out; subst eo_)
      | ((with_reducible refine gate_callee (f := 19) rfl ?_); refine goesL_ (some 55) rfl rfl Try.func19 (by kernel_rfl) rfl #[.slice Ao_x5 t5.length co_x5, .slice Ao_x9 t9.length co_x9] rfl (by (try simp only [List.map_toArray, List.map_cons, List.map_nil]); first | done | rfl) ?_; (refine (laws_eqIntS.calls k _ _ t5 _ _ t9 true _ (Kd.R_reads' H_x5.out).2.2 (by have h_ := Kd.R_reads' H_x5.out; omega) (Kd.R_reads' H_x9.out).2.2 (by have h_ := Kd.R_reads' H_x9.out; omega) A_10.out).mono ?_); rintro e w' ⟨rfl, ⟨nd, rfl⟩⟩; refine ⟨_, rfl, ?_⟩; have n_x2 := Aside0.mk (Kd.R_drewN H_x2.out nd); have n_x3 := Aside0.mk (Kd.S_drewN H_x3.out nd); have n_x4 := Aside0.mk (Kd.R_drewN H_x4.out nd); have n_x5 := Aside0.mk (Kd.R_drewN H_x5.out nd); have n_x6 := Aside0.mk (Kd.S_drewN H_x6.out nd); have n_x7 := Aside0.mk (Kd.R_drewN H_x7.out nd); have n_x9 := Aside0.mk (Kd.R_drewN H_x9.out nd); have n_B := Aside0.mk (pw_below_drewN HB.out nd); have n_N := Aside0.mk (size_drewN_ HN.out nd); clear H_x2 H_x3 H_x4 H_x5 H_x6 H_x7 H_x9 HB HN; have H_x2 := n_x2; have H_x3 := n_x3; have H_x4 := n_x4; have H_x5 := n_x5; have H_x6 := n_x6; have H_x7 := n_x7; have H_x9 := n_x9; have HB := n_B; have HN := n_N; clear n_x2 n_x3 n_x4 n_x5 n_x6 n_x7 n_x9 n_B n_N; generalize World.drewN _ nd = w_10 at H_x2 H_x3 H_x4 H_x5 H_x6 H_x7 H_x9 HB HN ⊢)
      | ((with_reducible refine gate_callee (f := 35) rfl ?_); refine goesL_ (some 59) rfl rfl Try.func35 (by kernel_rfl) rfl #[.slice A1 l1.length c1] rfl (by (try simp only [List.map_toArray, List.map_cons, List.map_nil]); first | done | rfl) ?_; (refine (laws_toAmendS.calls k _ _ l1 t11 _ (Kd.C_below HR1.out HB.out) HC1.out A_11.out).mono ?_); rintro e w_11 ⟨v_11, rfl, ho0, hb⟩; refine ⟨_, rfl, ?_⟩; have n_x2 := Aside0.mk (Kd.R_below H_x2.out hb); have n_x3 := Aside0.mk (Kd.S_below H_x3.out hb); have n_x4 := Aside0.mk (Kd.R_below H_x4.out hb); have n_x5 := Aside0.mk (Kd.R_below H_x5.out hb); have n_x6 := Aside0.mk (Kd.S_below H_x6.out hb); have n_x7 := Aside0.mk (Kd.R_below H_x7.out hb); have n_x9 := Aside0.mk (Kd.R_below H_x9.out hb); obtain ⟨n_11, o1_, o2_, o3_⟩ := S_iv ⟨ho0, hb.size⟩ (below_size HB.out) HN.out; have O_11 := Aside0.mk o1_; have n_B := Aside0.mk (below_step HB.out hb); clear H_x2 H_x3 H_x4 H_x5 H_x6 H_x7 H_x9 HB HN ho0 hb o1_; have H_x2 := n_x2; have H_x3 := n_x3; have H_x4 := n_x4; have H_x5 := n_x5; have H_x6 := n_x6; have H_x7 := n_x7; have H_x9 := n_x9; have HB := n_B; have HN := Aside0.mk o2_; have H_x11 := Aside0.mk o3_; clear n_x2 n_x3 n_x4 n_x5 n_x6 n_x7 n_x9 n_B o2_ o3_; obtain ⟨Ao_x11, co_x11, eo_⟩ := Kd.S_slice H_x11.out; subst eo_)
      | ((with_reducible refine gate_callee (f := 37) rfl ?_); refine goesL_ (some 60) rfl rfl Try.func37 (by kernel_rfl) rfl #[.slice Ao_x6 t6.length co_x6, .slice Ao_x11 t11.length co_x11] rfl (by (try simp only [List.map_toArray, List.map_cons, List.map_nil]); first | done | rfl) ?_; (refine (laws_eqAmendS.calls k _ _ t6 _ _ t11 true _ (Kd.S_reads' H_x6.out).2.2 (by have h_ := Kd.S_reads' H_x6.out; omega) (Kd.S_reads' H_x11.out).2.2 (by have h_ := Kd.S_reads' H_x11.out; omega) A_12.out).mono ?_); rintro e w_12 ⟨rfl, hb⟩; refine ⟨_, rfl, ?_⟩; have n_x2 := Aside0.mk (Kd.R_below H_x2.out hb); have n_x3 := Aside0.mk (Kd.S_below H_x3.out hb); have n_x4 := Aside0.mk (Kd.R_below H_x4.out hb); have n_x5 := Aside0.mk (Kd.R_below H_x5.out hb); have n_x6 := Aside0.mk (Kd.S_below H_x6.out hb); have n_x7 := Aside0.mk (Kd.R_below H_x7.out hb); have n_x9 := Aside0.mk (Kd.R_below H_x9.out hb); have n_x11 := Aside0.mk (Kd.S_below H_x11.out hb); have n_B := Aside0.mk (below_step HB.out hb); have n_N := Aside0.mk (Nat.le_trans HN.out hb.size); clear H_x2 H_x3 H_x4 H_x5 H_x6 H_x7 H_x9 H_x11 HB HN hb; have H_x2 := n_x2; have H_x3 := n_x3; have H_x4 := n_x4; have H_x5 := n_x5; have H_x6 := n_x6; have H_x7 := n_x7; have H_x9 := n_x9; have H_x11 := n_x11; have HB := n_B; have HN := n_N; clear n_x2 n_x3 n_x4 n_x5 n_x6 n_x7 n_x9 n_x11 n_B n_N)
      | ((with_reducible refine gate_callee (f := 25) rfl ?_); refine goesL_ (some 64) rfl rfl Try.func25 (by kernel_rfl) rfl #[.slice Ao_x5 t5.length co_x5, .int .i64 1] rfl (by (try simp only [List.map_toArray, List.map_cons, List.map_nil]); first | done | rfl) ?_; (refine (laws_markIntS.calls k (fun k_ => n_4 ≤ k_ ∧ k_ < n_5) (.slice Ao_x5 t5.length co_x5) t5 1 t13_1 t13_2 w _ HB.out H_x5.out A_13.out).mono ?_); rintro e w_13 ⟨rfl, hS, hb, hkp⟩; refine ⟨_, rfl, ?_⟩; have n_x2 := Aside0.mk (Kd.R_kept H_x2.out hkp (fun k_ h_ h2_ => by have := O_2.out; have := O_3.out; have := O_4.out; have := O_5.out; have := O_6.out; have := O_7.out; have := O_9.out; have := O_11.out; omega)); have n_x3 := Aside0.mk (Kd.S_kept H_x3.out hkp (fun k_ h_ h2_ => by have := O_2.out; have := O_3.out; have := O_4.out; have := O_5.out; have := O_6.out; have := O_7.out; have := O_9.out; have := O_11.out; omega)); have n_x4 := Aside0.mk (Kd.R_kept H_x4.out hkp (fun k_ h_ h2_ => by have := O_2.out; have := O_3.out; have := O_4.out; have := O_5.out; have := O_6.out; have := O_7.out; have := O_9.out; have := O_11.out; omega)); have n_x6 := Aside0.mk (Kd.S_kept H_x6.out hkp (fun k_ h_ h2_ => by have := O_2.out; have := O_3.out; have := O_4.out; have := O_5.out; have := O_6.out; have := O_7.out; have := O_9.out; have := O_11.out; omega)); have n_x7 := Aside0.mk (Kd.R_kept H_x7.out hkp (fun k_ h_ h2_ => by have := O_2.out; have := O_3.out; have := O_4.out; have := O_5.out; have := O_6.out; have := O_7.out; have := O_9.out; have := O_11.out; omega)); have n_x9 := Aside0.mk (Kd.R_kept H_x9.out hkp (fun k_ h_ h2_ => by have := O_2.out; have := O_3.out; have := O_4.out; have := O_5.out; have := O_6.out; have := O_7.out; have := O_9.out; have := O_11.out; omega)); have n_x11 := Aside0.mk (Kd.S_kept H_x11.out hkp (fun k_ h_ h2_ => by have := O_2.out; have := O_3.out; have := O_4.out; have := O_5.out; have := O_6.out; have := O_7.out; have := O_9.out; have := O_11.out; omega)); have n_x5 := Aside0.mk (Kd.R_reok rfl hS (fun k_ e_ => H_x5.out.1 k_ e_)); have HL_x5 := Aside0.mk (Kd.R_reads' n_x5.out).1; have n_N := Aside0.mk (Nat.le_trans HN.out hkp.1); have n_B := Aside0.mk hb; clear H_x2 H_x3 H_x4 H_x5 H_x6 H_x7 H_x9 H_x11 HB HN hS hb hkp; have H_x2 := n_x2; have H_x3 := n_x3; have H_x4 := n_x4; have H_x5 := n_x5; have H_x6 := n_x6; have H_x7 := n_x7; have H_x9 := n_x9; have H_x11 := n_x11; have HB := n_B; have HN := n_N; clear n_x2 n_x3 n_x4 n_x5 n_x6 n_x7 n_x9 n_x11 n_B n_N)
      | ((with_reducible refine gate_callee (f := 38) rfl ?_); refine goesL_ (some 67) rfl rfl Try.func38 (by kernel_rfl) rfl #[.slice Ao_x6 t6.length co_x6, .int .i64 t13_1] rfl (by (try simp only [List.map_toArray, List.map_cons, List.map_nil]); first | done | rfl) ?_; (refine (laws_markAmendS.calls k (fun k_ => n_5 ≤ k_ ∧ k_ < n_6) (.slice Ao_x6 t6.length co_x6) t6 t13_1 t14_1 t14_2 w _ HB.out H_x6.out A_14.out).mono ?_); rintro e w_14 ⟨rfl, hS, hb, hkp⟩; refine ⟨_, rfl, ?_⟩; have n_x2 := Aside0.mk (Kd.R_kept H_x2.out hkp (fun k_ h_ h2_ => by have := O_2.out; have := O_3.out; have := O_4.out; have := O_5.out; have := O_6.out; have := O_7.out; have := O_9.out; have := O_11.out; omega)); have n_x3 := Aside0.mk (Kd.S_kept H_x3.out hkp (fun k_ h_ h2_ => by have := O_2.out; have := O_3.out; have := O_4.out; have := O_5.out; have := O_6.out; have := O_7.out; have := O_9.out; have := O_11.out; omega)); have n_x4 := Aside0.mk (Kd.R_kept H_x4.out hkp (fun k_ h_ h2_ => by have := O_2.out; have := O_3.out; have := O_4.out; have := O_5.out; have := O_6.out; have := O_7.out; have := O_9.out; have := O_11.out; omega)); have n_x5 := Aside0.mk (Kd.R_kept H_x5.out hkp (fun k_ h_ h2_ => by have := O_2.out; have := O_3.out; have := O_4.out; have := O_5.out; have := O_6.out; have := O_7.out; have := O_9.out; have := O_11.out; omega)); have n_x7 := Aside0.mk (Kd.R_kept H_x7.out hkp (fun k_ h_ h2_ => by have := O_2.out; have := O_3.out; have := O_4.out; have := O_5.out; have := O_6.out; have := O_7.out; have := O_9.out; have := O_11.out; omega)); have n_x9 := Aside0.mk (Kd.R_kept H_x9.out hkp (fun k_ h_ h2_ => by have := O_2.out; have := O_3.out; have := O_4.out; have := O_5.out; have := O_6.out; have := O_7.out; have := O_9.out; have := O_11.out; omega)); have n_x11 := Aside0.mk (Kd.S_kept H_x11.out hkp (fun k_ h_ h2_ => by have := O_2.out; have := O_3.out; have := O_4.out; have := O_5.out; have := O_6.out; have := O_7.out; have := O_9.out; have := O_11.out; omega)); have n_x6 := Aside0.mk hS; have HL_x6 := Aside0.mk (Kd.S_reads' n_x6.out).1; have n_N := Aside0.mk (Nat.le_trans HN.out hkp.1); have n_B := Aside0.mk hb; clear H_x2 H_x3 H_x4 H_x5 H_x6 H_x7 H_x9 H_x11 HB HN hS hb hkp; have H_x2 := n_x2; have H_x3 := n_x3; have H_x4 := n_x4; have H_x5 := n_x5; have H_x6 := n_x6; have H_x7 := n_x7; have H_x9 := n_x9; have H_x11 := n_x11; have HB := n_B; have HN := n_N; clear n_x2 n_x3 n_x4 n_x5 n_x6 n_x7 n_x9 n_x11 n_B n_N)
      | ((with_reducible refine gate_callee (f := 19) rfl ?_); refine gate_guard (by first | rfl | kernel_rfl) ?_; refine goesL_ (some 73) rfl rfl Try.func19 (by kernel_rfl) rfl #[.slice Ao_x7 t7_1.length co_x7, .slice Ao_x4 t4_1.length co_x4] rfl (by (try simp only [List.map_toArray, List.map_cons, List.map_nil]); first | done | rfl) ?_; (refine (laws_eqIntS.calls k _ _ t7_1 _ _ t4_1 true _ (Kd.R_reads' H_x7.out).2.2 (by have h_ := Kd.R_reads' H_x7.out; omega) (Kd.R_reads' H_x4.out).2.2 (by have h_ := Kd.R_reads' H_x4.out; omega) A_15.out).mono ?_); rintro e w' ⟨rfl, ⟨nd, rfl⟩⟩; refine ⟨_, rfl, ?_⟩; have n_x2 := Aside0.mk (Kd.R_drewN H_x2.out nd); have n_x3 := Aside0.mk (Kd.S_drewN H_x3.out nd); have n_x4 := Aside0.mk (Kd.R_drewN H_x4.out nd); have n_x5 := Aside0.mk (Kd.R_drewN H_x5.out nd); have n_x6 := Aside0.mk (Kd.S_drewN H_x6.out nd); have n_x7 := Aside0.mk (Kd.R_drewN H_x7.out nd); have n_x9 := Aside0.mk (Kd.R_drewN H_x9.out nd); have n_x11 := Aside0.mk (Kd.S_drewN H_x11.out nd); have n_B := Aside0.mk (pw_below_drewN HB.out nd); have n_N := Aside0.mk (size_drewN_ HN.out nd); clear H_x2 H_x3 H_x4 H_x5 H_x6 H_x7 H_x9 H_x11 HB HN; have H_x2 := n_x2; have H_x3 := n_x3; have H_x4 := n_x4; have H_x5 := n_x5; have H_x6 := n_x6; have H_x7 := n_x7; have H_x9 := n_x9; have H_x11 := n_x11; have HB := n_B; have HN := n_N; clear n_x2 n_x3 n_x4 n_x5 n_x6 n_x7 n_x9 n_x11 n_B n_N; generalize World.drewN _ nd = w_15 at H_x2 H_x3 H_x4 H_x5 H_x6 H_x7 H_x9 H_x11 HB HN ⊢)
      | ((with_reducible refine gate_callee (f := 25) rfl ?_); refine goesL_ (some 83) rfl rfl Try.func25 (by kernel_rfl) rfl #[.slice Ao_x7 t7_1.length co_x7, .int .i64 1] rfl (by (try simp only [List.map_toArray, List.map_cons, List.map_nil]); first | done | rfl) ?_; (refine (laws_markIntS.calls k (fun k_ => n_6 ≤ k_ ∧ k_ < n_7) (.slice Ao_x7 t7_1.length co_x7) t7_1 1 t16_1 t16_2 w _ HB.out H_x7.out A_16.out).mono ?_); rintro e w_16 ⟨rfl, hS, hb, hkp⟩; refine ⟨_, rfl, ?_⟩; have n_x2 := Aside0.mk (Kd.R_kept H_x2.out hkp (fun k_ h_ h2_ => by have := O_2.out; have := O_3.out; have := O_4.out; have := O_5.out; have := O_6.out; have := O_7.out; have := O_9.out; have := O_11.out; omega)); have n_x3 := Aside0.mk (Kd.S_kept H_x3.out hkp (fun k_ h_ h2_ => by have := O_2.out; have := O_3.out; have := O_4.out; have := O_5.out; have := O_6.out; have := O_7.out; have := O_9.out; have := O_11.out; omega)); have n_x4 := Aside0.mk (Kd.R_kept H_x4.out hkp (fun k_ h_ h2_ => by have := O_2.out; have := O_3.out; have := O_4.out; have := O_5.out; have := O_6.out; have := O_7.out; have := O_9.out; have := O_11.out; omega)); have n_x5 := Aside0.mk (Kd.R_kept H_x5.out hkp (fun k_ h_ h2_ => by have := O_2.out; have := O_3.out; have := O_4.out; have := O_5.out; have := O_6.out; have := O_7.out; have := O_9.out; have := O_11.out; omega)); have n_x6 := Aside0.mk (Kd.S_kept H_x6.out hkp (fun k_ h_ h2_ => by have := O_2.out; have := O_3.out; have := O_4.out; have := O_5.out; have := O_6.out; have := O_7.out; have := O_9.out; have := O_11.out; omega)); have n_x9 := Aside0.mk (Kd.R_kept H_x9.out hkp (fun k_ h_ h2_ => by have := O_2.out; have := O_3.out; have := O_4.out; have := O_5.out; have := O_6.out; have := O_7.out; have := O_9.out; have := O_11.out; omega)); have n_x11 := Aside0.mk (Kd.S_kept H_x11.out hkp (fun k_ h_ h2_ => by have := O_2.out; have := O_3.out; have := O_4.out; have := O_5.out; have := O_6.out; have := O_7.out; have := O_9.out; have := O_11.out; omega)); have n_x7 := Aside0.mk (Kd.R_reok rfl hS (fun k_ e_ => H_x7.out.1 k_ e_)); have HL_x7 := Aside0.mk (Kd.R_reads' n_x7.out).1; have n_N := Aside0.mk (Nat.le_trans HN.out hkp.1); have n_B := Aside0.mk hb; clear H_x2 H_x3 H_x4 H_x5 H_x6 H_x7 H_x9 H_x11 HB HN hS hb hkp; have H_x2 := n_x2; have H_x3 := n_x3; have H_x4 := n_x4; have H_x5 := n_x5; have H_x6 := n_x6; have H_x7 := n_x7; have H_x9 := n_x9; have H_x11 := n_x11; have HB := n_B; have HN := n_N; clear n_x2 n_x3 n_x4 n_x5 n_x6 n_x7 n_x9 n_x11 n_B n_N)
      | ((with_reducible refine gate_callee (f := 32) rfl ?_); refine goesL_ (some 86) rfl rfl Try.func32 (by kernel_rfl) rfl #[.slice Ao_x7 t16_2.length co_x7, .int .i64 1] rfl (by rw [← HL_x7.out]; (try simp only [List.map_toArray, List.map_cons, List.map_nil]); first | done | rfl) ?_; (refine (laws_heldIntS.calls k _ _ t16_2 1 t17 _ (Kd.R_reads' H_x7.out).2.2 (by have h_ := Kd.R_reads' H_x7.out; omega) A_17.out).mono ?_); rintro e w' ⟨rfl, ⟨nd, rfl⟩⟩; refine ⟨_, rfl, ?_⟩; have n_x2 := Aside0.mk (Kd.R_drewN H_x2.out nd); have n_x3 := Aside0.mk (Kd.S_drewN H_x3.out nd); have n_x4 := Aside0.mk (Kd.R_drewN H_x4.out nd); have n_x5 := Aside0.mk (Kd.R_drewN H_x5.out nd); have n_x6 := Aside0.mk (Kd.S_drewN H_x6.out nd); have n_x7 := Aside0.mk (Kd.R_drewN H_x7.out nd); have n_x9 := Aside0.mk (Kd.R_drewN H_x9.out nd); have n_x11 := Aside0.mk (Kd.S_drewN H_x11.out nd); have n_B := Aside0.mk (pw_below_drewN HB.out nd); have n_N := Aside0.mk (size_drewN_ HN.out nd); clear H_x2 H_x3 H_x4 H_x5 H_x6 H_x7 H_x9 H_x11 HB HN; have H_x2 := n_x2; have H_x3 := n_x3; have H_x4 := n_x4; have H_x5 := n_x5; have H_x6 := n_x6; have H_x7 := n_x7; have H_x9 := n_x9; have H_x11 := n_x11; have HB := n_B; have HN := n_N; clear n_x2 n_x3 n_x4 n_x5 n_x6 n_x7 n_x9 n_x11 n_B n_N; generalize World.drewN _ nd = w_17 at H_x2 H_x3 H_x4 H_x5 H_x6 H_x7 H_x9 H_x11 HB HN ⊢)
      | ((with_reducible refine gate_callee (f := 16) rfl ?_); refine goesL_ (some 94) rfl rfl Try.func16 (by kernel_rfl) rfl #[.slice A0 l0.length c0] rfl (by (try simp only [List.map_toArray, List.map_cons, List.map_nil]); first | done | rfl) ?_; (refine (laws_toIntS.calls k _ _ l0 t18 _ (Kd.C_below HR0.out HB.out) HC0.out A_18.out).mono ?_); rintro e w_18 ⟨v_18, rfl, ho0, hb⟩; refine ⟨_, rfl, ?_⟩; have n_x2 := Aside0.mk (Kd.R_below H_x2.out hb); have n_x3 := Aside0.mk (Kd.S_below H_x3.out hb); have n_x4 := Aside0.mk (Kd.R_below H_x4.out hb); have n_x5 := Aside0.mk (Kd.R_below H_x5.out hb); have n_x6 := Aside0.mk (Kd.S_below H_x6.out hb); have n_x7 := Aside0.mk (Kd.R_below H_x7.out hb); have n_x9 := Aside0.mk (Kd.R_below H_x9.out hb); have n_x11 := Aside0.mk (Kd.S_below H_x11.out hb); obtain ⟨n_18, o1_, o2_, o3_⟩ := R_iv ⟨ho0, hb.size⟩ (below_size HB.out) HN.out; have O_18 := Aside0.mk o1_; have n_B := Aside0.mk (below_step HB.out hb); clear H_x2 H_x3 H_x4 H_x5 H_x6 H_x7 H_x9 H_x11 HB HN ho0 hb o1_; have H_x2 := n_x2; have H_x3 := n_x3; have H_x4 := n_x4; have H_x5 := n_x5; have H_x6 := n_x6; have H_x7 := n_x7; have H_x9 := n_x9; have H_x11 := n_x11; have HB := n_B; have HN := Aside0.mk o2_; have H_x18 := Aside0.mk o3_; clear n_x2 n_x3 n_x4 n_x5 n_x6 n_x7 n_x9 n_x11 n_B o2_ o3_; obtain ⟨Ao_x18, co_x18, eo_⟩ := Kd.R_slice H_x18.out; subst eo_)
      | ((with_reducible refine gate_callee (f := 35) rfl ?_); refine goesL_ (some 96) rfl rfl Try.func35 (by kernel_rfl) rfl #[.slice A1 l1.length c1] rfl (by (try simp only [List.map_toArray, List.map_cons, List.map_nil]); first | done | rfl) ?_; (refine (laws_toAmendS.calls k _ _ l1 t19 _ (Kd.C_below HR1.out HB.out) HC1.out A_19.out).mono ?_); rintro e w_19 ⟨v_19, rfl, ho0, hb⟩; refine ⟨_, rfl, ?_⟩; have n_x2 := Aside0.mk (Kd.R_below H_x2.out hb); have n_x3 := Aside0.mk (Kd.S_below H_x3.out hb); have n_x4 := Aside0.mk (Kd.R_below H_x4.out hb); have n_x5 := Aside0.mk (Kd.R_below H_x5.out hb); have n_x6 := Aside0.mk (Kd.S_below H_x6.out hb); have n_x7 := Aside0.mk (Kd.R_below H_x7.out hb); have n_x9 := Aside0.mk (Kd.R_below H_x9.out hb); have n_x11 := Aside0.mk (Kd.S_below H_x11.out hb); have n_x18 := Aside0.mk (Kd.R_below H_x18.out hb); obtain ⟨n_19, o1_, o2_, o3_⟩ := S_iv ⟨ho0, hb.size⟩ (below_size HB.out) HN.out; have O_19 := Aside0.mk o1_; have n_B := Aside0.mk (below_step HB.out hb); clear H_x2 H_x3 H_x4 H_x5 H_x6 H_x7 H_x9 H_x11 H_x18 HB HN ho0 hb o1_; have H_x2 := n_x2; have H_x3 := n_x3; have H_x4 := n_x4; have H_x5 := n_x5; have H_x6 := n_x6; have H_x7 := n_x7; have H_x9 := n_x9; have H_x11 := n_x11; have H_x18 := n_x18; have HB := n_B; have HN := Aside0.mk o2_; have H_x19 := Aside0.mk o3_; clear n_x2 n_x3 n_x4 n_x5 n_x6 n_x7 n_x9 n_x11 n_x18 n_B o2_ o3_; obtain ⟨Ao_x19, co_x19, eo_⟩ := Kd.S_slice H_x19.out; subst eo_)
      | ((with_reducible refine gate_callee (f := 36) rfl ?_); refine goesL_ (some 97) rfl rfl Try.func36 (by kernel_rfl) rfl #[.slice Ao_x18 t18.length co_x18, .slice Ao_x19 t19.length co_x19] rfl (by (try simp only [List.map_toArray, List.map_cons, List.map_nil]); first | done | rfl) ?_; (refine (impl_AmendAll.calls k _ _ t18 _ _ t19 t20_1 t20_2 _ (Kd.R_reads' H_x18.out).2.2 (by have h_ := Kd.R_reads' H_x18.out; omega) (Kd.S_reads' H_x19.out).2.2 (by have h_ := Kd.S_reads' H_x19.out; omega) A_20.out).mono ?_); rintro e w_20 ⟨v_20, rfl, ho0, hb⟩; refine ⟨_, rfl, ?_⟩; have n_x2 := Aside0.mk (Kd.R_below H_x2.out hb); have n_x3 := Aside0.mk (Kd.S_below H_x3.out hb); have n_x4 := Aside0.mk (Kd.R_below H_x4.out hb); have n_x5 := Aside0.mk (Kd.R_below H_x5.out hb); have n_x6 := Aside0.mk (Kd.S_below H_x6.out hb); have n_x7 := Aside0.mk (Kd.R_below H_x7.out hb); have n_x9 := Aside0.mk (Kd.R_below H_x9.out hb); have n_x11 := Aside0.mk (Kd.S_below H_x11.out hb); have n_x18 := Aside0.mk (Kd.R_below H_x18.out hb); have n_x19 := Aside0.mk (Kd.S_below H_x19.out hb); obtain ⟨n_20, o1_, o2_, o3_⟩ := R_iv ⟨ho0, hb.size⟩ (below_size HB.out) HN.out; have O_20 := Aside0.mk o1_; have n_B := Aside0.mk (below_step HB.out hb); clear H_x2 H_x3 H_x4 H_x5 H_x6 H_x7 H_x9 H_x11 H_x18 H_x19 HB HN ho0 hb o1_; have H_x2 := n_x2; have H_x3 := n_x3; have H_x4 := n_x4; have H_x5 := n_x5; have H_x6 := n_x6; have H_x7 := n_x7; have H_x9 := n_x9; have H_x11 := n_x11; have H_x18 := n_x18; have H_x19 := n_x19; have HB := n_B; have HN := Aside0.mk o2_; have H_x20 := Aside0.mk o3_; clear n_x2 n_x3 n_x4 n_x5 n_x6 n_x7 n_x9 n_x11 n_x18 n_x19 n_B o2_ o3_; obtain ⟨Ao_x20, co_x20, eo_⟩ := Kd.R_slice H_x20.out; subst eo_)
      | ((with_reducible refine gate_callee (f := 19) rfl ?_); refine goesL_ (some 102) rfl rfl Try.func19 (by kernel_rfl) rfl #[.slice Ao_x20 t20_1.length co_x20, .slice Ao_x4 t4_1.length co_x4] rfl (by (try simp only [List.map_toArray, List.map_cons, List.map_nil]); first | done | rfl) ?_; (refine (laws_eqIntS.calls k _ _ t20_1 _ _ t4_1 true _ (Kd.R_reads' H_x20.out).2.2 (by have h_ := Kd.R_reads' H_x20.out; omega) (Kd.R_reads' H_x4.out).2.2 (by have h_ := Kd.R_reads' H_x4.out; omega) A_21.out).mono ?_); rintro e w' ⟨rfl, ⟨nd, rfl⟩⟩; refine ⟨_, rfl, ?_⟩; have n_x2 := Aside0.mk (Kd.R_drewN H_x2.out nd); have n_x3 := Aside0.mk (Kd.S_drewN H_x3.out nd); have n_x4 := Aside0.mk (Kd.R_drewN H_x4.out nd); have n_x5 := Aside0.mk (Kd.R_drewN H_x5.out nd); have n_x6 := Aside0.mk (Kd.S_drewN H_x6.out nd); have n_x7 := Aside0.mk (Kd.R_drewN H_x7.out nd); have n_x9 := Aside0.mk (Kd.R_drewN H_x9.out nd); have n_x11 := Aside0.mk (Kd.S_drewN H_x11.out nd); have n_x18 := Aside0.mk (Kd.R_drewN H_x18.out nd); have n_x19 := Aside0.mk (Kd.S_drewN H_x19.out nd); have n_x20 := Aside0.mk (Kd.R_drewN H_x20.out nd); have n_B := Aside0.mk (pw_below_drewN HB.out nd); have n_N := Aside0.mk (size_drewN_ HN.out nd); clear H_x2 H_x3 H_x4 H_x5 H_x6 H_x7 H_x9 H_x11 H_x18 H_x19 H_x20 HB HN; have H_x2 := n_x2; have H_x3 := n_x3; have H_x4 := n_x4; have H_x5 := n_x5; have H_x6 := n_x6; have H_x7 := n_x7; have H_x9 := n_x9; have H_x11 := n_x11; have H_x18 := n_x18; have H_x19 := n_x19; have H_x20 := n_x20; have HB := n_B; have HN := n_N; clear n_x2 n_x3 n_x4 n_x5 n_x6 n_x7 n_x9 n_x11 n_x18 n_x19 n_x20 n_B n_N; generalize World.drewN _ nd = w_21 at H_x2 H_x3 H_x4 H_x5 H_x6 H_x7 H_x9 H_x11 H_x18 H_x19 H_x20 HB HN ⊢)
      | ((with_reducible refine gate_callee (f := 32) rfl ?_); refine goesL_ (some 111) rfl rfl Try.func32 (by kernel_rfl) rfl #[.slice Ao_x7 t16_2.length co_x7, .int .i64 1] rfl (by rw [← HL_x7.out]; (try simp only [List.map_toArray, List.map_cons, List.map_nil]); first | done | rfl) ?_; (refine (laws_heldIntS.calls k _ _ t16_2 1 t22 _ (Kd.R_reads' H_x7.out).2.2 (by have h_ := Kd.R_reads' H_x7.out; omega) A_22.out).mono ?_); rintro e w' ⟨rfl, ⟨nd, rfl⟩⟩; refine ⟨_, rfl, ?_⟩; have n_x2 := Aside0.mk (Kd.R_drewN H_x2.out nd); have n_x3 := Aside0.mk (Kd.S_drewN H_x3.out nd); have n_x4 := Aside0.mk (Kd.R_drewN H_x4.out nd); have n_x5 := Aside0.mk (Kd.R_drewN H_x5.out nd); have n_x6 := Aside0.mk (Kd.S_drewN H_x6.out nd); have n_x7 := Aside0.mk (Kd.R_drewN H_x7.out nd); have n_x9 := Aside0.mk (Kd.R_drewN H_x9.out nd); have n_x11 := Aside0.mk (Kd.S_drewN H_x11.out nd); have n_x18 := Aside0.mk (Kd.R_drewN H_x18.out nd); have n_x19 := Aside0.mk (Kd.S_drewN H_x19.out nd); have n_x20 := Aside0.mk (Kd.R_drewN H_x20.out nd); have n_B := Aside0.mk (pw_below_drewN HB.out nd); have n_N := Aside0.mk (size_drewN_ HN.out nd); clear H_x2 H_x3 H_x4 H_x5 H_x6 H_x7 H_x9 H_x11 H_x18 H_x19 H_x20 HB HN; have H_x2 := n_x2; have H_x3 := n_x3; have H_x4 := n_x4; have H_x5 := n_x5; have H_x6 := n_x6; have H_x7 := n_x7; have H_x9 := n_x9; have H_x11 := n_x11; have H_x18 := n_x18; have H_x19 := n_x19; have H_x20 := n_x20; have HB := n_B; have HN := n_N; clear n_x2 n_x3 n_x4 n_x5 n_x6 n_x7 n_x9 n_x11 n_x18 n_x19 n_x20 n_B n_N; generalize World.drewN _ nd = w_22 at H_x2 H_x3 H_x4 H_x5 H_x6 H_x7 H_x9 H_x11 H_x18 H_x19 H_x20 HB HN ⊢))
  go_ret
  exact ⟨by first | rfl | (simp; done) | (simp [*]; done), HB.out⟩
end Go.Proofs.Ytfdalcklgfdadaa.QFnExactAmendAll
