-- Written by own_print.py of this session's repo over the kit's print (its output, turned at some places).
import Derived.Test.YtkpidjmhdagkfaaQFnExactSchemesForx0
import Derived.Test.YtkpidjmhdagkfaaQFnExactSchemesForx10
import Derived.Test.YtkpidjmhdagkfaaQFnExactSchemesForx13
namespace Go.Proofs.Ytkpidjmhdagkfaa.QFnExactSchemesFor
open Go.RowKit Go.Proofs.YtkpidjmhdagkfaaW.PrintWords Go.Proofs.YtkpidjmhdagkfaaW.PrintLast Go.Proofs.YtkpidjmhdagkfaaW.PrintMore
attribute [local go_sem] max2_int min2_int max_two min_two max_three min_three max_four min_four   -- for this text's walks alone
set_option linter.unusedVariables false
set_option linter.unusedSimpArgs false

/-! ### impl_isRight: function 64 -/
def impl_isRight.l0 : Nat → Int → List Int → Int → Int → Option (Bool)
 | 0, _, _, _, _ => none
 | k + 1, x5, x17, x18, x19 => if x19 < x18 then (if 0 ≤ x19 then (if x19 < (x17.length : Int) then (if (rd x17 x19) = (wrap64 (x5 + x19)) then (impl_isRight.l0 k x5 x17 x18 (wrap64 (x19 + 1))) else (some false)) else (none)) else (none)) else (some true)
def impl_isRight.f (k : Nat) (a0_0 : Int) (a0_1 : Int) (l0_2 : List Int) (l0_3 : List Int) (l0_4 : List Int) (a1 : ByteArray) : Option (Bool) := (slices_Min_int64_int64.f k l0_2).bind fun t462 => ((slices_Min_int64_int64.f k l0_3).bind fun t463 => ((impl_readForm.f k a0_0 a0_1 l0_2 l0_3 l0_4 a1).bind fun t464 => (impl_isRight.l0 k (mn t462 t463) t464 (t464.length : Int) 0)))
theorem impl_isRight.mono_l : ∀ k, (∀ y0 y1 y2 y3, LeO (impl_isRight.l0 k y0 y1 y2 y3) (impl_isRight.l0 (k + 1) y0 y1 y2 y3))
 | 0 => fun _ _ _ _ r h => by simp [impl_isRight.l0] at h
 | k + 1 => by
  have ih0 := impl_isRight.mono_l k
  ·intro y0 y1 y2 y3
   unfold impl_isRight.l0
   repeat' first
   | (with_reducible exact ih0 _ _ _ _)
   | (with_reducible exact impl_readForm.mono _ _ _ _ _ _ _)
   | (with_reducible exact slices_Min_int64_int64.mono _ _)
   | (with_reducible exact LeO.refl _)
   | (with_reducible exact LeO.none _)
   | (with_reducible refine LeO.ite ?_ ?_)
   | (with_reducible refine LeO.bind ?_ (fun _ => ?_))
   | exact ih0 _ _ _ _
   | exact impl_readForm.mono _ _ _ _ _ _ _
   | exact slices_Min_int64_int64.mono _ _
   | exact LeO.none _
   | refine LeO.ite ?_ ?_
   | refine LeO.bind ?_ (fun _ => ?_)
theorem impl_isRight.mono : ∀ a0 a1 a2 a3 a4 a5 k, LeO (impl_isRight.f k a0 a1 a2 a3 a4 a5) (impl_isRight.f (k + 1) a0 a1 a2 a3 a4 a5) := by
 intro a0 a1 a2 a3 a4 a5 k
 have ih0 := impl_isRight.mono_l k
 unfold impl_isRight.f
 repeat' first
   | (with_reducible exact ih0 _ _ _ _)
   | (with_reducible exact impl_readForm.mono _ _ _ _ _ _ _)
   | (with_reducible exact slices_Min_int64_int64.mono _ _)
   | (with_reducible exact LeO.refl _)
   | (with_reducible exact LeO.none _)
   | (with_reducible refine LeO.ite ?_ ?_)
   | (with_reducible refine LeO.bind ?_ (fun _ => ?_))
   | exact ih0 _ _ _ _
   | exact impl_readForm.mono _ _ _ _ _ _ _
   | exact slices_Min_int64_int64.mono _ _
   | exact LeO.none _
   | refine LeO.ite ?_ ?_
   | refine LeO.bind ?_ (fun _ => ?_)
def impl_isRight.T1 : Bool × List (List Nat × List Nat) := (true, [([], []), ([0], [0]), ([1], [1]), ([], []), ([3], [3]), ([4, 2], [4]), ([2, 5], [2, 5]), ([6, 5, 0, 1, 2, 3, 4, 5, 6], [6])])
def impl_isRight.B1 : List Nat := [0, 1, 3, 0, 8, 31, 63, 127]
theorem impl_isRight.tab1 : rtab .any (opsOf Try.f64 1) = impl_isRight.T1 := by kernel_rfl
theorem impl_isRight.bits1 : waitsOk impl_isRight.T1.2 impl_isRight.B1 = true := by kernel_rfl
set_option maxHeartbeats 8000000 in
set_option maxRecDepth 100000 in
theorem impl_isRight.calls (k : Nat) (a0_0 : Int) (a0_1 : Int) (A0_2 : Option Addr) (c0_2 : Nat) (l0_2 : List Int) (A0_3 : Option Addr) (c0_3 : Nat) (l0_3 : List Int) (A0_4 : Option Addr) (c0_4 : Nat) (l0_4 : List Int) (a1 : ByteArray) (r : Bool) (w : World) (hr0_2 : Kd.C (Kd.int .i64) w A0_2 l0_2.length l0_2) (hc0_2 : l0_2.length ≤ c0_2) (hr0_3 : Kd.C (Kd.int .i64) w A0_3 l0_3.length l0_3) (hc0_3 : l0_3.length ≤ c0_3) (hr0_4 : Kd.C (Kd.int .i64) w A0_4 l0_4.length l0_4) (hc0_4 : l0_4.length ≤ c0_4) (h : impl_isRight.f k a0_0 a0_1 l0_2 l0_3 l0_4 a1 = some r) :
  Calls Try.prog 64 #[.agg #[.int .i64 a0_0, .int .i64 a0_1, .slice A0_2 l0_2.length c0_2, .slice A0_3 l0_3.length c0_3, .slice A0_4 l0_4.length c0_4], .string a1] w fun e w' => e = .returned (.bool r) ∧ Below w.heap.size w w' := by
 have hu27 := Try.underlying27
 have HR0_2 := Aside0.mk hr0_2
 have HC0_2 := Aside0.mk hc0_2
 clear hr0_2 hc0_2
 have HR0_3 := Aside0.mk hr0_3
 have HC0_3 := Aside0.mk hc0_3
 clear hr0_3 hc0_3
 have HR0_4 := Aside0.mk hr0_4
 have HC0_4 := Aside0.mk hc0_4
 clear hr0_4 hc0_4
 have HB := a_ (Below.refl w.heap.size w)
 have H : ((slices_Min_int64_int64.f k l0_2).bind fun t462 => ((slices_Min_int64_int64.f k l0_3).bind fun t463 => ((impl_readForm.f k a0_0 a0_1 l0_2 l0_3 l0_4 a1).bind fun t464 => (impl_isRight.l0 k (mn t462 t463) t464 (t464.length : Int) 0)))) = some r := h
 clear h
 replace H := Option.bind_eq_some_iff.mp H
 obtain ⟨t462, A30, H⟩ := H
 replace H : ((slices_Min_int64_int64.f k l0_3).bind fun t463 => ((impl_readForm.f k a0_0 a0_1 l0_2 l0_3 l0_4 a1).bind fun t464 => (impl_isRight.l0 k (mn t462 t463) t464 (t464.length : Int) 0))) = some r := H
 have A3 := Aside0.mk A30
 clear A30
 replace H := Option.bind_eq_some_iff.mp H
 obtain ⟨t463, A40, H⟩ := H
 replace H : ((impl_readForm.f k a0_0 a0_1 l0_2 l0_3 l0_4 a1).bind fun t464 => (impl_isRight.l0 k (mn t462 t463) t464 (t464.length : Int) 0)) = some r := H
 have A4 := Aside0.mk A40
 clear A40
 obtain ⟨ji5, hji5⟩ : ∃ j_ : Int, (mn t462 t463) = j_ := ⟨_, rfl⟩
 replace H : ((impl_readForm.f k a0_0 a0_1 l0_2 l0_3 l0_4 a1).bind fun t464 => (impl_isRight.l0 k ji5 t464 (t464.length : Int) 0)) = some r := by first | (rw [hji5] at H; exact H) | (simp only [hji5] at H ⊢; exact H)
 (try rw [hji5] at A3)
 (try rw [hji5] at A4)
 have hji5_ : (if t463 < t462 then t463 else t462) = ji5 := hji5
 replace H := Option.bind_eq_some_iff.mp H
 obtain ⟨t464, A60, H⟩ := H
 replace H : (impl_isRight.l0 k ji5 t464 (t464.length : Int) 0) = some r := H
 have A6 := Aside0.mk A60
 clear A60
 have H' := Aside0.mk H
 clear H
 go_enter Try.func64, Try.ntmps64
 try go_wp2_with (first | ((with_reducible refine gate_dst (N := 2) rfl ?_); refine box_event ?hg (N := 2) ?hd (cs := #[.int .i64 a0_0, .int .i64 a0_1, .slice A0_2 l0_2.length c0_2, .slice A0_3 l0_3.length c0_3, .slice A0_4 l0_4.length c0_4]) (t := 27) ?hr ?_; (case hd => rfl); (case hg => rfl); (case hr => first | (go_simp; done) | (go_simp; rfl)); intro gb461 hg w7 hbox hb; have BK461 := a_ (hbox); have GW461 := a_ ((z30_ : w.heap.size ≤ gb461)); have GE461 := a_ ((z30_ : w.heap.size ≤ gb461)); replace HB := a_ (below_step z31_ hb); clear hb hbox hg))
 replace BK461 := a_ (blk_drew BK461.out)
 replace HB := a_ (below_drew1 HB.out)
 refine start_ (n := 8) (S := fun w' => w'.cell? ⟨gb461, 0, none⟩ = some (.int .i64 a0_0) ∧ w'.cell? ⟨gb461, 1, none⟩ = some (.int .i64 a0_1) ∧ w'.cell? ⟨gb461, 2, none⟩ = some (.slice A0_2 l0_2.length c0_2) ∧ w'.cell? ⟨gb461, 3, none⟩ = some (.slice A0_3 l0_3.length c0_3) ∧ w'.cell? ⟨gb461, 4, none⟩ = some (.slice A0_4 l0_4.length c0_4)) (ds := []) #[false, false, false, false, false, false, false, false] (by kernel_rfl) rfl rfl ⟨(blk_cell BK461.out 0).trans rfl, (blk_cell BK461.out 1).trans rfl, (blk_cell BK461.out 2).trans rfl, (blk_cell BK461.out 3).trans rfl, (blk_cell BK461.out 4).trans rfl⟩ (fun hHeld => ?_); refine with_tabW impl_isRight.tab1 impl_isRight.bits1 (fun HT_ HW_ => ?_)
 generalize w7.drew = w8 at BK461 HB hHeld ⊢
 refine pu_ (i := 0) (N := some 8) #[true, false, false, false, false, false, false, false] ?_
 refine pu_ (i := 3) (N := some 11) #[true, false, false, true, false, false, false, false] ?_
 refine tk5_ (i := 1) (N := some 9) #[true, true, false, true, false, false, false, false] hHeld ?_
 refine tk5_ (i := 4) (N := some 12) #[true, true, false, true, true, false, false, false] hHeld ?_
 refine one_ (i := 2) (N := some 10) #[true, true, true, true, true, false, false, false] rfl rfl (one_of HT_.out (by kernel_rfl)) (by decide) (fun K hK => ?_)
 refine goes_ Try.func79 (by kernel_rfl) rfl #[.slice A0_2 l0_2.length c0_2] (by rfl) rfl rfl z34_ ?_
 with_reducible refine (slices_Min_int64_int64.calls k _ _ l0_2 t462 _ ?side1 ?side2 A3.out).mono ?_
 (case side1 => exact kc_ (Kd.C_below HR0_2.out HB.out))
 (case side2 => exact HC0_2.out)
 rintro e w9 ⟨rfl, hb⟩
 refine ⟨_, rfl, ?_⟩
 replace BK461 := a_ (blk_below (g := gb461) (rb_ BK461.out) hb)
 replace HB := a_ (below_step z28_ hb)
 (try clear hb)
 (try clear hb2)
 (try clear hk)
 (try clear hi)
 refine hK.out _ _ ⟨(blk_cell BK461.out 0).trans rfl, (blk_cell BK461.out 1).trans rfl, (blk_cell BK461.out 2).trans rfl, (blk_cell BK461.out 3).trans rfl, (blk_cell BK461.out 4).trans rfl⟩ (fun hHeld => ?_)
 clear hK K
 refine nm_ ?_
 refine one_ (i := 5) (N := some 13) #[true, true, true, true, true, true, false, false] rfl rfl (one_of HT_.out (by kernel_rfl)) (by decide) (fun K hK => ?_)
 refine goes_ Try.func79 (by kernel_rfl) rfl #[.slice A0_3 l0_3.length c0_3] (by rfl) rfl rfl z34_ ?_
 with_reducible refine (slices_Min_int64_int64.calls k _ _ l0_3 t463 _ ?side1 ?side2 A4.out).mono ?_
 (case side1 => exact kc_ (Kd.C_below HR0_3.out HB.out))
 (case side2 => exact HC0_3.out)
 rintro e w10 ⟨rfl, hb⟩
 refine ⟨_, rfl, ?_⟩
 replace BK461 := a_ (blk_below (g := gb461) (rb_ BK461.out) hb)
 replace HB := a_ (below_step z28_ hb)
 (try clear hb)
 (try clear hb2)
 (try clear hk)
 (try clear hi)
 refine hK.out _ _ ⟨(blk_cell BK461.out 0).trans rfl, (blk_cell BK461.out 1).trans rfl, (blk_cell BK461.out 2).trans rfl, (blk_cell BK461.out 3).trans rfl, (blk_cell BK461.out 4).trans rfl⟩ (fun hHeld => ?_)
 clear hK K
 refine nm_ ?_
 refine pu_ (i := 6) (N := some 14) #[true, true, true, true, true, true, true, false] ?_
 refine pu_ (i := 7) (N := some 5) #[true, true, true, true, true, true, true, true] ?_
 refine done_ (done_of HT_.out (by kernel_rfl)) ?_
 obtain ⟨hcz11_0, hcz11_1, hcz11_2, hcz11_3, hcz11_4, hfz11_0, hfz11_1, hfz11_2, hfz11_3, hfz11_4⟩ := cz5_ (w := w10) BK461.out
 try go_wp2_with (first | ((with_reducible refine gate_callee (f := 80) rfl ?_); refine goesL_ (some 17) rfl rfl Try.func80 (by kernel_rfl) rfl #[.agg #[.int .i64 a0_0, .int .i64 a0_1, .slice A0_2 l0_2.length c0_2, .slice A0_3 l0_3.length c0_3, .slice A0_4 l0_4.length c0_4], .string a1] rfl z34_ ?_; (with_reducible refine (impl_readForm.calls k a0_0 a0_1 _ _ l0_2 _ _ l0_3 _ _ l0_4 a1 t464 _ ?side1 ?side2 ?side3 ?side4 ?side5 ?side6 A6.out).mono ?_); (case side1 => exact kc_ (Kd.C_below HR0_2.out HB.out)); (case side2 => exact HC0_2.out); (case side3 => exact kc_ (Kd.C_below HR0_3.out HB.out)); (case side4 => exact HC0_3.out); (case side5 => exact kc_ (Kd.C_below HR0_4.out HB.out)); (case side6 => exact HC0_4.out); rintro e w12 ⟨v465, rfl, ho0, hb⟩; refine ⟨_, rfl, ?_⟩; have HO466 := a_ (Kd.R_lower ho0 (below_size z28_)); replace BK461 := a_ (blk_below (g := gb461) (rb_ BK461.out) hb); replace HB := a_ (below_step z28_ hb); (try clear hb); (try clear hb2); (try clear hk); (try clear hi); (try clear ho0); obtain ⟨Ao13, co13, eo13⟩ := Kd.R_slice HO466.out; subst eo13))
 go_loopg [19] k (fun kq v19 w' => ∃ (x19_1 : Int), v19 = .int .i64 x19_1 ∧ Aside0 (impl_isRight.l0 kq ji5 t464 (t464.length : Int) x19_1 = some r) ∧ Aside0 (kq ≤ k) ∧ Aside0 (Kd.R (Kd.int .i64) 2 w' w.heap.size (fun _ => True) (.slice Ao13 t464.length co13) t464) ∧ Aside0 (w'.heap[gb461]? = some (.cells #[.int .i64 a0_0, .int .i64 a0_1, (.slice A0_2 l0_2.length c0_2), (.slice A0_3 l0_3.length c0_3), (.slice A0_4 l0_4.length c0_4)] 27 (0, 0))) ∧ Aside0 (Below w.heap.size w w'))
 case atStart => exact ⟨(0), z81_, H', ⟨Nat.le_refl _⟩, ⟨by (with_reducible repeat (first | apply Kd.R_alloc | apply Kd.R_drewN | apply Kd.R_drew)); exact HO466.out⟩, ⟨by (with_reducible repeat (first | refine blk_drewN ?_ _ | refine blk_drew ?_ | refine blk_alloc ?_ _)); exact BK461.out⟩, ⟨z28_⟩⟩
 case round =>
  clear H'
  try clear hcz11_0 hcz11_1 hcz11_2 hcz11_3 hcz11_4; try clear hfz11_0 hfz11_1 hfz11_2 hfz11_3 hfz11_4
  obtain ⟨x19_1, rfl, HA, HK1, HO_17, BK461, HB⟩ := hrel
  cases gk with
  | zero => exact absurd HA.out (by simp [impl_isRight.l0])
  | succ k1 =>
   have H := HA.out
   clear HA
   simp only [impl_isRight.l0] at H
   by_cases c14 : x19_1 < (t464.length : Int)
   ·rw [if_pos c14] at H
    have c14b0 : decide (x19_1 < (t464.length : Int)) = true := decide_eq_true c14
    clear c14
    by_cases c15 : 0 ≤ x19_1
    ·rw [if_pos c15] at H
     have c15b0 : decide (0 ≤ x19_1) = true := decide_eq_true c15
     clear c15
     by_cases c16 : x19_1 < (t464.length : Int)
     ·rw [if_pos c16] at H
      have c16b0 : decide (x19_1 < (t464.length : Int)) = true := decide_eq_true c16
      clear c16
      by_cases c17 : (rd t464 x19_1) = (wrap64 (ji5 + x19_1))
      ·rw [if_pos c17] at H
       have c17b0 : ((rd t464 x19_1) == (wrap64 (ji5 + x19_1))) = true := beq_iff_eq.mpr c17
       have c17b1 : ((rd t464 x19_1) != (wrap64 (ji5 + x19_1))) = false := bne_eq_false_iff_eq.mpr c17
       clear c17
       have H' := Aside0.mk H
       clear H
       have p467 : 0 ≤ (x19_1 : Int) := of_decide_eq_true z80_
       have q467 : x19_1 < (t464.length : Int) := of_decide_eq_true z80_
       obtain ⟨ad467, e467, hx467_0⟩ := Kd.at_int (Kd.R_reads' HO_17.out).2.2 x19_1 p467 q467
       cases e467
       replace p467 := eq_true p467
       replace q467 := eq_true q467
       go_wp2
       go_roundg k1
       case measure => have := HK1.out; omega
       case rel => exact ⟨(wrap64 (x19_1 + 1)), z81_, H', ⟨z85_⟩, ⟨by (with_reducible repeat (first | apply Kd.R_alloc | apply Kd.R_drewN | apply Kd.R_drew)); exact HO_17.out⟩, ⟨by (with_reducible repeat (first | refine blk_drewN ?_ _ | refine blk_drew ?_ | refine blk_alloc ?_ _)); exact BK461.out⟩, ⟨z28_⟩⟩
      ·rw [if_neg c17] at H
       have c17b0 : ((rd t464 x19_1) == (wrap64 (ji5 + x19_1))) = false := beq_eq_false_iff_ne.mpr c17
       have c17b1 : ((rd t464 x19_1) != (wrap64 (ji5 + x19_1))) = true := bne_iff_ne.mpr c17
       obtain rfl := Option.some.inj H
       have p467 : 0 ≤ (x19_1 : Int) := of_decide_eq_true z80_
       have q467 : x19_1 < (t464.length : Int) := of_decide_eq_true z80_
       obtain ⟨ad467, e467, hx467_0⟩ := Kd.at_int (Kd.R_reads' HO_17.out).2.2 x19_1 p467 q467
       cases e467
       replace p467 := eq_true p467
       replace q467 := eq_true q467
       go_wp2
       go_ret
       exact ⟨by first | rfl | (simp only [Go.IntWalk.i64_left]; first | done | rfl) | (simp [errW_none, errW_some] <;> rfl) | (simp only [← hji5]; first | rfl | (simp [errW_none, errW_some] <;> rfl)) | (simp [*, errW_none, errW_some] <;> rfl), z28_⟩
     ·rw [if_neg c16] at H
      exact absurd H (by simp)
    ·rw [if_neg c15] at H
     exact absurd H (by simp)
   ·rw [if_neg c14] at H
    have c14b0 : decide (x19_1 < (t464.length : Int)) = false := decide_eq_false c14
    clear c14
    obtain rfl := Option.some.inj H
    go_wp2
    go_ret
    exact ⟨by first | rfl | (simp only [Go.IntWalk.i64_left]; first | done | rfl) | (simp [errW_none, errW_some] <;> rfl) | (simp only [← hji5]; first | rfl | (simp [errW_none, errW_some] <;> rfl)) | (simp [*, errW_none, errW_some] <;> rfl), z28_⟩

-- NOT PRINTED: function 63 (impl_SchemesFor_1)

end Go.Proofs.Ytkpidjmhdagkfaa.QFnExactSchemesFor
-- halved
