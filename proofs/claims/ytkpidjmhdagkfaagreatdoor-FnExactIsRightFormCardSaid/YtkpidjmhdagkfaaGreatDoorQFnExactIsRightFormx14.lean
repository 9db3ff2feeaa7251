-- Written by own_print.py of this session's repo over the kit's print (its output, turned at some places).
import Derived.Test.YtkpidjmhdagkfaaGreatDoorQFnExactIsRightFormx0
import Derived.Test.YtkpidjmhdagkfaaGreatDoorQFnExactIsRightFormx1
import Derived.Test.YtkpidjmhdagkfaaGreatDoorQFnExactIsRightFormx7
import Derived.Test.YtkpidjmhdagkfaaGreatDoorQFnExactIsRightFormx13
namespace Go.Proofs.YtkpidjmhdagkfaaGreatDoor.QFnExactIsRightForm
open Go.RowKit Go.Proofs.YtkpidjmhdagkfaaGreatDoorW.PrintWords Go.Proofs.YtkpidjmhdagkfaaGreatDoorW.PrintLast Go.Proofs.YtkpidjmhdagkfaaGreatDoorW.PrintMore
attribute [local go_sem] max2_int min2_int max_two min_two max_three min_three max_four min_four   -- for this text's walks alone
set_option linter.unusedVariables false
set_option linter.unusedSimpArgs false

/-! ### laws_FnExactIsRightForm: function 3 -/
def laws_FnExactIsRightForm.j0 : Nat → Bool → Int → Int → List Int → List Int → List Int → Int → Int → List Int → List Int → List Int → Option (Bool)
 | 0, _, _, _, _, _, _, _, _, _, _, _ => none
 | k + 1, x41, x420000, x420001, x420002, x420003, x420004, x446000, x446001, x446002, x446003, x446004 => if x41 = true then (none) else ((laws_toForm.f k x420000 x420001 x420002 x420003 x420004).bind fun bt448 => ((laws_eqForm.f k x446000 x446001 x446002 x446003 x446004 bt448.1 bt448.2.1 bt448.2.2.1 bt448.2.2.2.1 bt448.2.2.2.2).bind fun t459 => (if t459 = true then (some true) else (none))))
def laws_FnExactIsRightForm.f (k : Nat) (a0_0 : Int) (a0_1 : Int) (l0_2 : List Int) (l0_3 : List Int) (l0_4 : List Int) (a1 : ByteArray) : Option (Bool) := if (a1.size : Int) > 1048576 then (some true) else ((laws_szForm.f a0_0 a0_1 l0_2 l0_3 l0_4 1048576).bind fun t420 => (if t420 < 0 then (some true) else ((laws_toForm.f k a0_0 a0_1 l0_2 l0_3 l0_4).bind fun bt421 => ((spec_IsRightForm.f k bt421.1 bt421.2.1 bt421.2.2.1 bt421.2.2.2.1 bt421.2.2.2.2 a1).bind fun bt432 => ((laws_toForm.f k a0_0 a0_1 l0_2 l0_3 l0_4).bind fun bt434 => ((impl_IsRightForm.f k bt434.1 bt434.2.1 bt434.2.2.1 bt434.2.2.2.1 bt434.2.2.2.2 a1).bind fun bt446 => (if (bt446.1 != bt432.1) = true then (none) else (laws_FnExactIsRightForm.j0 k (bt446.2 != bt432.2) a0_0 a0_1 l0_2 l0_3 l0_4 bt434.1 bt434.2.1 bt434.2.2.1 bt434.2.2.2.1 bt434.2.2.2.2))))))))
theorem laws_FnExactIsRightForm.mono_l : ∀ k, (∀ y0 y1 y2 y3 y4 y5 y6 y7 y8 y9 y10, LeO (laws_FnExactIsRightForm.j0 k y0 y1 y2 y3 y4 y5 y6 y7 y8 y9 y10) (laws_FnExactIsRightForm.j0 (k + 1) y0 y1 y2 y3 y4 y5 y6 y7 y8 y9 y10))
 | 0 => fun _ _ _ _ _ _ _ _ _ _ _ r h => by simp [laws_FnExactIsRightForm.j0] at h
 | k + 1 => by
  have ih0 := laws_FnExactIsRightForm.mono_l k
  ·intro y0 y1 y2 y3 y4 y5 y6 y7 y8 y9 y10
   unfold laws_FnExactIsRightForm.j0
   repeat' first
   | (with_reducible exact ih0 _ _ _ _ _ _ _ _ _ _ _)
   | (with_reducible exact impl_IsRightForm.mono _ _ _ _ _ _ _)
   | (with_reducible exact laws_eqForm.mono _ _ _ _ _ _ _ _ _ _ _)
   | (with_reducible exact laws_toForm.mono _ _ _ _ _ _)
   | (with_reducible exact spec_IsRightForm.mono _ _ _ _ _ _ _)
   | (with_reducible exact LeO.refl _)
   | (with_reducible exact LeO.none _)
   | (with_reducible refine LeO.ite ?_ ?_)
   | (with_reducible refine LeO.bind ?_ (fun _ => ?_))
   | exact ih0 _ _ _ _ _ _ _ _ _ _ _
   | exact impl_IsRightForm.mono _ _ _ _ _ _ _
   | exact laws_eqForm.mono _ _ _ _ _ _ _ _ _ _ _
   | exact laws_toForm.mono _ _ _ _ _ _
   | exact spec_IsRightForm.mono _ _ _ _ _ _ _
   | exact LeO.none _
   | refine LeO.ite ?_ ?_
   | refine LeO.bind ?_ (fun _ => ?_)
theorem laws_FnExactIsRightForm.mono : ∀ a0 a1 a2 a3 a4 a5 k, LeO (laws_FnExactIsRightForm.f k a0 a1 a2 a3 a4 a5) (laws_FnExactIsRightForm.f (k + 1) a0 a1 a2 a3 a4 a5) := by
 intro a0 a1 a2 a3 a4 a5 k
 have ih0 := laws_FnExactIsRightForm.mono_l k
 unfold laws_FnExactIsRightForm.f
 repeat' first
   | (with_reducible exact ih0 _ _ _ _ _ _ _ _ _ _ _)
   | (with_reducible exact impl_IsRightForm.mono _ _ _ _ _ _ _)
   | (with_reducible exact laws_eqForm.mono _ _ _ _ _ _ _ _ _ _ _)
   | (with_reducible exact laws_toForm.mono _ _ _ _ _ _)
   | (with_reducible exact spec_IsRightForm.mono _ _ _ _ _ _ _)
   | (with_reducible exact LeO.refl _)
   | (with_reducible exact LeO.none _)
   | (with_reducible refine LeO.ite ?_ ?_)
   | (with_reducible refine LeO.bind ?_ (fun _ => ?_))
   | exact ih0 _ _ _ _ _ _ _ _ _ _ _
   | exact impl_IsRightForm.mono _ _ _ _ _ _ _
   | exact laws_eqForm.mono _ _ _ _ _ _ _ _ _ _ _
   | exact laws_toForm.mono _ _ _ _ _ _
   | exact spec_IsRightForm.mono _ _ _ _ _ _ _
   | exact LeO.none _
   | refine LeO.ite ?_ ?_
   | refine LeO.bind ?_ (fun _ => ?_)
set_option maxHeartbeats 8000000 in
set_option maxRecDepth 100000 in
theorem laws_FnExactIsRightForm.calls (k : Nat) (a0_0 : Int) (a0_1 : Int) (A0_2 : Option Addr) (c0_2 : Nat) (l0_2 : List Int) (A0_3 : Option Addr) (c0_3 : Nat) (l0_3 : List Int) (A0_4 : Option Addr) (c0_4 : Nat) (l0_4 : List Int) (a1 : ByteArray) (r : Bool) (w : World) (hr0_2 : Kd.C (Kd.int .i64) w A0_2 l0_2.length l0_2) (hc0_2 : l0_2.length ≤ c0_2) (hr0_3 : Kd.C (Kd.int .i64) w A0_3 l0_3.length l0_3) (hc0_3 : l0_3.length ≤ c0_3) (hr0_4 : Kd.C (Kd.int .i64) w A0_4 l0_4.length l0_4) (hc0_4 : l0_4.length ≤ c0_4) (h : laws_FnExactIsRightForm.f k a0_0 a0_1 l0_2 l0_3 l0_4 a1 = some r) :
  Calls Tryz.prog 3 #[.agg #[.int .i64 a0_0, .int .i64 a0_1, .slice A0_2 l0_2.length c0_2, .slice A0_3 l0_3.length c0_3, .slice A0_4 l0_4.length c0_4], .string a1] w fun e w' => e = .returned (.bool r) ∧ Below w.heap.size w w' := by
 have hu24 := Tryz.underlying24
 have hu28 := Tryz.underlying28
 have HR0_2 := Aside0.mk hr0_2
 have HC0_2 := Aside0.mk hc0_2
 clear hr0_2 hc0_2
 have HR0_3 := Aside0.mk hr0_3
 have HC0_3 := Aside0.mk hc0_3
 clear hr0_3 hc0_3
 have HR0_4 := Aside0.mk hr0_4
 have HC0_4 := Aside0.mk hc0_4
 clear hr0_4 hc0_4
 have HB := a_ (Below.refl w.heap.size w)
 have H : (if (a1.size : Int) > 1048576 then (some true) else ((laws_szForm.f a0_0 a0_1 l0_2 l0_3 l0_4 1048576).bind fun t420 => (if t420 < 0 then (some true) else ((laws_toForm.f k a0_0 a0_1 l0_2 l0_3 l0_4).bind fun bt421 => ((spec_IsRightForm.f k bt421.1 bt421.2.1 bt421.2.2.1 bt421.2.2.2.1 bt421.2.2.2.2 a1).bind fun bt432 => ((laws_toForm.f k a0_0 a0_1 l0_2 l0_3 l0_4).bind fun bt434 => ((impl_IsRightForm.f k bt434.1 bt434.2.1 bt434.2.2.1 bt434.2.2.2.1 bt434.2.2.2.2 a1).bind fun bt446 => (if (bt446.1 != bt432.1) = true then (none) else (laws_FnExactIsRightForm.j0 k (bt446.2 != bt432.2) a0_0 a0_1 l0_2 l0_3 l0_4 bt434.1 bt434.2.1 bt434.2.2.1 bt434.2.2.2.1 bt434.2.2.2.2))))))))) = some r := h
 clear h
 by_cases c3 : (a1.size : Int) > 1048576
 ·rw [if_pos c3] at H
  have c3b0 : decide (1048576 < (a1.size : Int)) = true := decide_eq_true c3
  have c3b1 : decide (1048576 < a1.size) = true := decide_eq_true (by omega)
  clear c3
  obtain rfl := Option.some.inj H
  go_enter Tryz.func3, Tryz.ntmps3
  go_wp2_with (first | ((with_reducible refine gate_dst (N := 2) rfl ?_); refine box_event ?hg (N := 2) ?hd (cs := #[.int .i64 a0_0, .int .i64 a0_1, .slice A0_2 l0_2.length c0_2, .slice A0_3 l0_3.length c0_3, .slice A0_4 l0_4.length c0_4]) (t := 24) ?hr ?_; (case hd => rfl); (case hg => rfl); (case hr => first | (go_simp; done) | (go_simp; rfl)); intro gb419 hg w4 hbox hb; have BK419 := a_ (hbox); have GW419 := a_ ((z31_ : w.heap.size ≤ gb419)); have GE419 := a_ ((z31_ : w.heap.size ≤ gb419)); replace HB := a_ (below_step z32_ hb); clear hb hbox hg))
  go_ret
  exact ⟨z33_, z30_⟩
 ·rw [if_neg c3] at H
  have c3b0 : decide (1048576 < (a1.size : Int)) = false := decide_eq_false c3
  have c3b1 : decide (1048576 < a1.size) = false := decide_eq_false (by omega)
  clear c3
  replace H := Option.bind_eq_some_iff.mp H
  obtain ⟨t420, A50, H⟩ := H
  replace H : (if t420 < 0 then (some true) else ((laws_toForm.f k a0_0 a0_1 l0_2 l0_3 l0_4).bind fun bt421 => ((spec_IsRightForm.f k bt421.1 bt421.2.1 bt421.2.2.1 bt421.2.2.2.1 bt421.2.2.2.2 a1).bind fun bt432 => ((laws_toForm.f k a0_0 a0_1 l0_2 l0_3 l0_4).bind fun bt434 => ((impl_IsRightForm.f k bt434.1 bt434.2.1 bt434.2.2.1 bt434.2.2.2.1 bt434.2.2.2.2 a1).bind fun bt446 => (if (bt446.1 != bt432.1) = true then (none) else (laws_FnExactIsRightForm.j0 k (bt446.2 != bt432.2) a0_0 a0_1 l0_2 l0_3 l0_4 bt434.1 bt434.2.1 bt434.2.2.1 bt434.2.2.2.1 bt434.2.2.2.2))))))) = some r := H
  have A5 := Aside0.mk A50
  clear A50
  by_cases c6 : t420 < 0
  ·rw [if_pos c6] at H
   have c6b0 : decide (t420 < 0) = true := decide_eq_true c6
   clear c6
   obtain rfl := Option.some.inj H
   go_enter Tryz.func3, Tryz.ntmps3
   go_wp2_with (first | ((with_reducible refine gate_dst (N := 2) rfl ?_); refine box_event ?hg (N := 2) ?hd (cs := #[.int .i64 a0_0, .int .i64 a0_1, .slice A0_2 l0_2.length c0_2, .slice A0_3 l0_3.length c0_3, .slice A0_4 l0_4.length c0_4]) (t := 24) ?hr ?_; (case hd => rfl); (case hg => rfl); (case hr => first | (go_simp; done) | (go_simp; rfl)); intro gb419 hg w7 hbox hb; have BK419 := a_ (hbox); have GW419 := a_ ((z31_ : w.heap.size ≤ gb419)); have GE419 := a_ ((z31_ : w.heap.size ≤ gb419)); replace HB := a_ (below_step z32_ hb); clear hb hbox hg; obtain ⟨hcz8_0, hcz8_1, hcz8_2, hcz8_3, hcz8_4, hfz8_0, hfz8_1, hfz8_2, hfz8_3, hfz8_4⟩ := cz5_ (w := w7) BK419.out) | ((with_reducible refine gate_callee (f := 7) rfl ?_); refine goesL_ (some 16) rfl rfl Tryz.func7 (by kernel_rfl) rfl #[.agg #[.int .i64 a0_0, .int .i64 a0_1, .slice A0_2 l0_2.length c0_2, .slice A0_3 l0_3.length c0_3, .slice A0_4 l0_4.length c0_4], .int .i64 1048576] rfl z34_ ?_; (with_reducible refine (laws_szForm.calls a0_0 a0_1 _ _ l0_2 _ _ l0_3 _ _ l0_4 1048576 t420 _ ?side1 ?side2 ?side3 ?side4 ?side5 ?side6 A5.out).mono ?_); (case side1 => exact kc_ (Kd.C_below HR0_2.out HB.out)); (case side2 => exact HC0_2.out); (case side3 => exact kc_ (Kd.C_below HR0_3.out HB.out)); (case side4 => exact HC0_3.out); (case side5 => exact kc_ (Kd.C_below HR0_4.out HB.out)); (case side6 => exact HC0_4.out); rintro e w9 ⟨rfl, hb⟩; refine ⟨_, rfl, ?_⟩; replace BK419 := a_ (blk_below (g := gb419) (rb_ BK419.out) hb); replace HB := a_ (below_step z30_ hb); (try clear hb); (try clear hb2); (try clear hk); (try clear hi)))
   go_ret
   exact ⟨z33_, z30_⟩
  ·rw [if_neg c6] at H
   have c6b0 : decide (t420 < 0) = false := decide_eq_false c6
   clear c6
   replace H := Option.bind_eq_some_iff.mp H
   obtain ⟨⟨t421, t422, t423, t426, t429⟩, A100, H⟩ := H
   replace H : ((spec_IsRightForm.f k t421 t422 t423 t426 t429 a1).bind fun bt432 => ((laws_toForm.f k a0_0 a0_1 l0_2 l0_3 l0_4).bind fun bt434 => ((impl_IsRightForm.f k bt434.1 bt434.2.1 bt434.2.2.1 bt434.2.2.2.1 bt434.2.2.2.2 a1).bind fun bt446 => (if (bt446.1 != bt432.1) = true then (none) else (laws_FnExactIsRightForm.j0 k (bt446.2 != bt432.2) a0_0 a0_1 l0_2 l0_3 l0_4 bt434.1 bt434.2.1 bt434.2.2.1 bt434.2.2.2.1 bt434.2.2.2.2))))) = some r := H
   have A10 := Aside0.mk A100
   clear A100
   replace H := Option.bind_eq_some_iff.mp H
   obtain ⟨⟨t432, t433⟩, A110, H⟩ := H
   replace H : ((laws_toForm.f k a0_0 a0_1 l0_2 l0_3 l0_4).bind fun bt434 => ((impl_IsRightForm.f k bt434.1 bt434.2.1 bt434.2.2.1 bt434.2.2.2.1 bt434.2.2.2.2 a1).bind fun bt446 => (if (bt446.1 != t432) = true then (none) else (laws_FnExactIsRightForm.j0 k (bt446.2 != t433) a0_0 a0_1 l0_2 l0_3 l0_4 bt434.1 bt434.2.1 bt434.2.2.1 bt434.2.2.2.1 bt434.2.2.2.2)))) = some r := H
   have A11 := Aside0.mk A110
   clear A110
   replace H := Option.bind_eq_some_iff.mp H
   obtain ⟨⟨t434, t435, t436, t439, t442⟩, A120, H⟩ := H
   replace H : ((impl_IsRightForm.f k t434 t435 t436 t439 t442 a1).bind fun bt446 => (if (bt446.1 != t432) = true then (none) else (laws_FnExactIsRightForm.j0 k (bt446.2 != t433) a0_0 a0_1 l0_2 l0_3 l0_4 t434 t435 t436 t439 t442))) = some r := H
   have A12 := Aside0.mk A120
   clear A120
   replace H := Option.bind_eq_some_iff.mp H
   obtain ⟨⟨t446, t447⟩, A130, H⟩ := H
   replace H : (if (t446 != t432) = true then (none) else (laws_FnExactIsRightForm.j0 k (t447 != t433) a0_0 a0_1 l0_2 l0_3 l0_4 t434 t435 t436 t439 t442)) = some r := H
   have A13 := Aside0.mk A130
   clear A130
   have HC14 := Aside0.mk H
   clear H
   go_enter Tryz.func3, Tryz.ntmps3
   go_upto_region 10 with (first | ((with_reducible refine gate_dst (N := 2) rfl ?_); refine box_event ?hg (N := 2) ?hd (cs := #[.int .i64 a0_0, .int .i64 a0_1, .slice A0_2 l0_2.length c0_2, .slice A0_3 l0_3.length c0_3, .slice A0_4 l0_4.length c0_4]) (t := 24) ?hr ?_; (case hd => rfl); (case hg => rfl); (case hr => first | (go_simp; done) | (go_simp; rfl)); intro gb419 hg w15 hbox hb; have BK419 := a_ (hbox); have GW419 := a_ ((z31_ : w.heap.size ≤ gb419)); have GE419 := a_ ((z31_ : w.heap.size ≤ gb419)); replace HB := a_ (below_step z32_ hb); clear hb hbox hg; obtain ⟨hcz16_0, hcz16_1, hcz16_2, hcz16_3, hcz16_4, hfz16_0, hfz16_1, hfz16_2, hfz16_3, hfz16_4⟩ := cz5_ (w := w15) BK419.out) | ((with_reducible refine gate_callee (f := 7) rfl ?_); refine goesL_ (some 16) rfl rfl Tryz.func7 (by kernel_rfl) rfl #[.agg #[.int .i64 a0_0, .int .i64 a0_1, .slice A0_2 l0_2.length c0_2, .slice A0_3 l0_3.length c0_3, .slice A0_4 l0_4.length c0_4], .int .i64 1048576] rfl z34_ ?_; (with_reducible refine (laws_szForm.calls a0_0 a0_1 _ _ l0_2 _ _ l0_3 _ _ l0_4 1048576 t420 _ ?side1 ?side2 ?side3 ?side4 ?side5 ?side6 A5.out).mono ?_); (case side1 => exact kc_ (Kd.C_below HR0_2.out HB.out)); (case side2 => exact HC0_2.out); (case side3 => exact kc_ (Kd.C_below HR0_3.out HB.out)); (case side4 => exact HC0_3.out); (case side5 => exact kc_ (Kd.C_below HR0_4.out HB.out)); (case side6 => exact HC0_4.out); rintro e w17 ⟨rfl, hb⟩; refine ⟨_, rfl, ?_⟩; replace BK419 := a_ (blk_below (g := gb419) (rb_ BK419.out) hb); replace HB := a_ (below_step z30_ hb); (try clear hb); (try clear hb2); (try clear hk); (try clear hi); obtain ⟨hcz18_0, hcz18_1, hcz18_2, hcz18_3, hcz18_4, hfz18_0, hfz18_1, hfz18_2, hfz18_3, hfz18_4⟩ := cz5_ (w := w17) BK419.out) | ((with_reducible refine gate_callee (f := 9) rfl ?_); refine goesL_ (some 21) rfl rfl Tryz.func9 (by kernel_rfl) rfl #[.agg #[.int .i64 a0_0, .int .i64 a0_1, .slice A0_2 l0_2.length c0_2, .slice A0_3 l0_3.length c0_3, .slice A0_4 l0_4.length c0_4]] rfl z34_ ?_; (with_reducible refine (laws_toForm.calls k a0_0 a0_1 _ _ l0_2 _ _ l0_3 _ _ l0_4 t421 t422 t423 t426 t429 _ ?side1 ?side2 ?side3 ?side4 ?side5 ?side6 A10.out).mono ?_); (case side1 => exact kc_ (Kd.C_below HR0_2.out HB.out)); (case side2 => exact HC0_2.out); (case side3 => exact kc_ (Kd.C_below HR0_3.out HB.out)); (case side4 => exact HC0_3.out); (case side5 => exact kc_ (Kd.C_below HR0_4.out HB.out)); (case side6 => exact HC0_4.out); rintro e w19 ⟨v424, v427, v430, rfl, ho0, ho1, ho2, hb⟩; refine ⟨_, rfl, ?_⟩; have HO425 := a_ (Kd.R_lower ho0 (below_size z30_)); have HO428 := a_ (Kd.R_lower ho1 (below_size z30_)); have HO431 := a_ (Kd.R_lower ho2 (below_size z30_)); replace BK419 := a_ (blk_below (g := gb419) (rb_ BK419.out) hb); replace HB := a_ (below_step z30_ hb); (try clear hb); (try clear hb2); (try clear hk); (try clear hi); (try clear ho0); (try clear ho1); (try clear ho2); obtain ⟨Ao20, co20, eo20⟩ := Kd.R_slice HO425.out; subst eo20; obtain ⟨Ao21, co21, eo21⟩ := Kd.R_slice HO428.out; subst eo21; obtain ⟨Ao22, co22, eo22⟩ := Kd.R_slice HO431.out; subst eo22) | ((with_reducible refine gate_callee (f := 8) rfl ?_); refine goesL_ (some 23) rfl rfl Tryz.func8 (by kernel_rfl) rfl #[.agg #[.int .i64 t421, .int .i64 t422, .slice Ao20 t423.length co20, .slice Ao21 t426.length co21, .slice Ao22 t429.length co22], .string a1] rfl z34_ ?_; (with_reducible refine (spec_IsRightForm.calls k t421 t422 _ _ t423 _ _ t426 _ _ t429 a1 t432 t433 _ ?side1 ?side2 ?side3 ?side4 ?side5 ?side6 A11.out).mono ?_); (case side1 => exact (by (repeat (first | exact (Kd.R_reads' HO425.out).2.2 | (with_reducible refine Kd.C_alloc ?_ _) | (with_reducible refine Kd.C_drewN ?_ _) | (with_reducible refine Kd.C_drew ?_))); first | done | fail)); (case side2 => exact (Kd.R_reads' HO425.out).2.1); (case side3 => exact (by (repeat (first | exact (Kd.R_reads' HO428.out).2.2 | (with_reducible refine Kd.C_alloc ?_ _) | (with_reducible refine Kd.C_drewN ?_ _) | (with_reducible refine Kd.C_drew ?_))); first | done | fail)); (case side4 => exact (Kd.R_reads' HO428.out).2.1); (case side5 => exact (by (repeat (first | exact (Kd.R_reads' HO431.out).2.2 | (with_reducible refine Kd.C_alloc ?_ _) | (with_reducible refine Kd.C_drewN ?_ _) | (with_reducible refine Kd.C_drew ?_))); first | done | fail)); (case side6 => exact (Kd.R_reads' HO431.out).2.1); rintro e w23 ⟨rfl, hb⟩; refine ⟨_, rfl, ?_⟩; replace HO425 := a_ (Kd.R_below (ra_ HO425.out) hb); replace HO428 := a_ (Kd.R_below (ra_ HO428.out) hb); replace HO431 := a_ (Kd.R_below (ra_ HO431.out) hb); replace BK419 := a_ (blk_below (g := gb419) (rb_ BK419.out) hb); replace HB := a_ (below_step z30_ hb); (try clear hb); (try clear hb2); (try clear hk); (try clear hi); obtain ⟨hcz24_0, hcz24_1, hcz24_2, hcz24_3, hcz24_4, hfz24_0, hfz24_1, hfz24_2, hfz24_3, hfz24_4⟩ := cz5_ (w := w23) BK419.out) | ((with_reducible refine gate_callee (f := 9) rfl ?_); refine goesL_ (some 27) rfl rfl Tryz.func9 (by kernel_rfl) rfl #[.agg #[.int .i64 a0_0, .int .i64 a0_1, .slice A0_2 l0_2.length c0_2, .slice A0_3 l0_3.length c0_3, .slice A0_4 l0_4.length c0_4]] rfl z34_ ?_; (with_reducible refine (laws_toForm.calls k a0_0 a0_1 _ _ l0_2 _ _ l0_3 _ _ l0_4 t434 t435 t436 t439 t442 _ ?side1 ?side2 ?side3 ?side4 ?side5 ?side6 A12.out).mono ?_); (case side1 => exact kc_ (Kd.C_below HR0_2.out HB.out)); (case side2 => exact HC0_2.out); (case side3 => exact kc_ (Kd.C_below HR0_3.out HB.out)); (case side4 => exact HC0_3.out); (case side5 => exact kc_ (Kd.C_below HR0_4.out HB.out)); (case side6 => exact HC0_4.out); rintro e w25 ⟨v437, v440, v443, rfl, ho0, ho1, ho2, hb⟩; refine ⟨_, rfl, ?_⟩; have HO438 := a_ (Kd.R_lower (Kd.R_new' (Kd.R_new' (Kd.R_new' ho0 (Kd.R_lt (ra_ HO425.out))) (Kd.R_lt (ra_ HO428.out))) (Kd.R_lt (ra_ HO431.out))) (below_size z30_)); have HO441 := a_ (Kd.R_lower (Kd.R_new' (Kd.R_new' (Kd.R_new' ho1 (Kd.R_lt (ra_ HO425.out))) (Kd.R_lt (ra_ HO428.out))) (Kd.R_lt (ra_ HO431.out))) (below_size z30_)); have HO444 := a_ (Kd.R_lower (Kd.R_new' (Kd.R_new' (Kd.R_new' ho2 (Kd.R_lt (ra_ HO425.out))) (Kd.R_lt (ra_ HO428.out))) (Kd.R_lt (ra_ HO431.out))) (below_size z30_)); replace HO425 := a_ (Kd.R_mono (Kd.R_told (Kd.R_told (Kd.R_told (Kd.R_old (ra_ HO425.out) hb) (Kd.R_base ho0)) (Kd.R_base ho1)) (Kd.R_base ho2)) (fun _ h_ => h_.1)); replace HO428 := a_ (Kd.R_mono (Kd.R_told (Kd.R_told (Kd.R_told (Kd.R_old (ra_ HO428.out) hb) (Kd.R_base ho0)) (Kd.R_base ho1)) (Kd.R_base ho2)) (fun _ h_ => h_.1)); replace HO431 := a_ (Kd.R_mono (Kd.R_told (Kd.R_told (Kd.R_told (Kd.R_old (ra_ HO431.out) hb) (Kd.R_base ho0)) (Kd.R_base ho1)) (Kd.R_base ho2)) (fun _ h_ => h_.1)); replace BK419 := a_ (blk_below (g := gb419) (rb_ BK419.out) hb); replace HB := a_ (below_step z30_ hb); (try clear hb); (try clear hb2); (try clear hk); (try clear hi); (try clear ho0); (try clear ho1); (try clear ho2)) | ((with_reducible refine gate_dst (N := 8) rfl ?_); refine box_event ?hg (N := 8) ?hd (cs := #[.int .i64 0, .int .i64 0, .slice none 0 0, .slice none 0 0, .slice none 0 0]) (t := 28) ?hr ?_; (case hd => rfl); (case hg => rfl); (case hr => first | (go_simp; done) | (go_simp; rfl)); intro gb445 hg w26 hbox hb; replace HO425 := a_ (Kd.R_below (ra_ HO425.out) hb); replace HO428 := a_ (Kd.R_below (ra_ HO428.out) hb); replace HO431 := a_ (Kd.R_below (ra_ HO431.out) hb); replace HO438 := a_ (Kd.R_below (ra_ HO438.out) hb); replace HO441 := a_ (Kd.R_below (ra_ HO441.out) hb); replace HO444 := a_ (Kd.R_below (ra_ HO444.out) hb); have BK445 := a_ (hbox); have GW445 := a_ ((by rw [hg]; exact (below_size z30_) : w.heap.size ≤ gb445)); have GE445 := a_ ((by rw [hg]; exact (below_size z30_) : w.heap.size ≤ gb445)); replace HB := a_ (below_step z30_ hb); have NB419_445 := a_ ((by rw [hg]; exact Nat.ne_of_lt (blk_lt (g := gb419) (rb_ BK419.out)) : gb419 ≠ gb445)); have NB445_419 := a_ ((by rw [hg]; exact Nat.ne_of_gt (blk_lt (g := gb419) (rb_ BK419.out)) : gb445 ≠ gb419)); replace BK419 := a_ (blk_below (g := gb419) (rb_ BK419.out) hb); clear hb hbox hg; have hnb27 := NB445_419.out; have hnc27 := NB419_445.out; obtain ⟨hcz28_0, hcz28_1, hcz28_2, hcz28_3, hcz28_4, hfz28_0, hfz28_1, hfz28_2, hfz28_3, hfz28_4⟩ := cz5_ (w := w26) BK445.out; obtain ⟨Ao29, co29, eo29⟩ := Kd.R_slice HO438.out; subst eo29; obtain ⟨Ao30, co30, eo30⟩ := Kd.R_slice HO441.out; subst eo30; obtain ⟨Ao31, co31, eo31⟩ := Kd.R_slice HO444.out; subst eo31) | ((with_reducible refine gate_callee (f := 10) rfl ?_); refine goesL_ (some 31) rfl rfl Tryz.func10 (by kernel_rfl) rfl #[.agg #[.int .i64 t434, .int .i64 t435, .slice Ao29 t436.length co29, .slice Ao30 t439.length co30, .slice Ao31 t442.length co31], .string a1] rfl z34_ ?_; (with_reducible refine (impl_IsRightForm.calls k t434 t435 _ _ t436 _ _ t439 _ _ t442 a1 t446 t447 _ ?side1 ?side2 ?side3 ?side4 ?side5 ?side6 A13.out).mono ?_); (case side1 => refine (Kd.R_reads' (e := 2) (base := w.heap.size) (ok := fun k_ => ((((nb_ k_ Ao30 t439.length co30 ∧ nb_ k_ Ao31 t442.length co31) ∧ nb_ k_ Ao20 t423.length co20) ∧ nb_ k_ Ao21 t426.length co21) ∧ nb_ k_ Ao22 t429.length co22)) (n := t436.length) (c := co29) ?_).2.2; exact (rc_ (h := by exact Kd.R_mono (rt5_ HO438.out BK445.out) (fun _ h_ => h_.1)))); (case side2 => exact (Kd.R_reads' HO438.out).2.1); (case side3 => refine (Kd.R_reads' (e := 2) (base := w.heap.size) (ok := fun k_ => ((((nb_ k_ Ao29 t436.length co29 ∧ nb_ k_ Ao31 t442.length co31) ∧ nb_ k_ Ao20 t423.length co20) ∧ nb_ k_ Ao21 t426.length co21) ∧ nb_ k_ Ao22 t429.length co22)) (n := t439.length) (c := co30) ?_).2.2; exact (rc_ (h := by exact Kd.R_mono (rt5_ HO441.out BK445.out) (fun _ h_ => h_.1)))); (case side4 => exact (Kd.R_reads' HO441.out).2.1); (case side5 => refine (Kd.R_reads' (e := 2) (base := w.heap.size) (ok := fun k_ => ((((nb_ k_ Ao29 t436.length co29 ∧ nb_ k_ Ao30 t439.length co30) ∧ nb_ k_ Ao20 t423.length co20) ∧ nb_ k_ Ao21 t426.length co21) ∧ nb_ k_ Ao22 t429.length co22)) (n := t442.length) (c := co31) ?_).2.2; exact (rc_ (h := by exact Kd.R_mono (rt5_ HO444.out BK445.out) (fun _ h_ => h_.1)))); (case side6 => exact (Kd.R_reads' HO444.out).2.1); rintro e w32 ⟨rfl, hb⟩; refine ⟨_, rfl, ?_⟩; replace HO425 := a_ (Kd.R_below (rc_ (h := by exact Kd.R_mono (rt5_ HO425.out BK445.out) (fun _ h_ => h_.1))) hb); replace HO428 := a_ (Kd.R_below (rc_ (h := by exact Kd.R_mono (rt5_ HO428.out BK445.out) (fun _ h_ => h_.1))) hb); replace HO431 := a_ (Kd.R_below (rc_ (h := by exact Kd.R_mono (rt5_ HO431.out BK445.out) (fun _ h_ => h_.1))) hb); replace HO438 := a_ (Kd.R_below (rc_ (h := by exact Kd.R_mono (rt5_ HO438.out BK445.out) (fun _ h_ => h_.1))) hb); replace HO441 := a_ (Kd.R_below (rc_ (h := by exact Kd.R_mono (rt5_ HO441.out BK445.out) (fun _ h_ => h_.1))) hb); replace HO444 := a_ (Kd.R_below (rc_ (h := by exact Kd.R_mono (rt5_ HO444.out BK445.out) (fun _ h_ => h_.1))) hb); replace BK419 := a_ (blk_below (g := gb419) (o := .cells #[.int .i64 a0_0, .int .i64 a0_1, .slice A0_2 l0_2.length c0_2, .slice A0_3 l0_3.length c0_3, .slice A0_4 l0_4.length c0_4] 24 (0, 0)) (rb2_ (h := by exact bf5_ NB419_445.out BK419.out)) hb); replace BK445 := a_ (blk_below (g := gb445) (o := .cells #[.int .i64 t434, .int .i64 t435, .slice Ao29 t436.length co29, .slice Ao30 t439.length co30, .slice Ao31 t442.length co31] 28 (0, 0)) (rb2_ (h := by exact bp5x5_ BK445.out)) hb); replace HB := a_ (below_step z9_ hb); (try clear hb); (try clear hb2); (try clear hk); (try clear hi)))
   (try simp only [Act.put, List.setIfInBounds_toArray, List.set_cons_zero, List.set_cons_succ])
   go_cut [41] (fun v41 wc => ∃ (kq : Nat) (x41_13 : Bool), v41 = .bool x41_13 ∧ Aside0 (laws_FnExactIsRightForm.j0 kq x41_13 a0_0 a0_1 l0_2 l0_3 l0_4 t434 t435 t436 t439 t442 = some r) ∧ Aside0 (kq ≤ k) ∧ Aside0 (Kd.R (Kd.int .i64) 2 wc w.heap.size (fun k_ => nb_ k_ Ao30 t439.length co30 ∧ nb_ k_ Ao31 t442.length co31) (.slice Ao29 t436.length co29) t436) ∧ Aside0 (Kd.R (Kd.int .i64) 2 wc w.heap.size (fun k_ => nb_ k_ Ao29 t436.length co29 ∧ nb_ k_ Ao31 t442.length co31) (.slice Ao30 t439.length co30) t439) ∧ Aside0 (Kd.R (Kd.int .i64) 2 wc w.heap.size (fun k_ => nb_ k_ Ao29 t436.length co29 ∧ nb_ k_ Ao30 t439.length co30) (.slice Ao31 t442.length co31) t442) ∧ Aside0 (wc.heap[gb419]? = some (.cells #[.int .i64 a0_0, .int .i64 a0_1, (.slice A0_2 l0_2.length c0_2), (.slice A0_3 l0_3.length c0_3), (.slice A0_4 l0_4.length c0_4)] 24 (0, 0))) ∧ Aside0 (wc.heap[gb445]? = some (.cells #[.int .i64 t434, .int .i64 t435, (.slice Ao29 t436.length co29), (.slice Ao30 t439.length co30), (.slice Ao31 t442.length co31)] 28 (0, 0))) ∧ Aside0 (Below w.heap.size w wc))
   case first =>
    have H := HC14.out
    clear HC14
    by_cases c33 : (t446 != t432) = true
    ·rw [if_pos c33] at H
     exact absurd H (by simp)
    ·rw [if_neg c33] at H
     have c33b0 : (t446 != t432) = false := by simpa using c33
     (try (have c33b1 : decide (t446 = t432) = true := by simpa using c33))
     (try (have c33b2 : (t446 == t432) = true := by simpa using c33))
     clear c33
     (first | rw [c33b0] | (simp only [i64_w, i32_w]; rw [c33b0]) | skip)
     have H' := Aside0.mk H
     clear H
     go_wp2
     go_meet
     case rel => exact ⟨_, ((t447 != t433)), z76_, H', ⟨z78_⟩, ⟨by (with_reducible repeat (first | apply Kd.R_alloc | apply Kd.R_drewN | apply Kd.R_drew)); exact Kd.R_mono HO438.out (fun _ hk => ⟨hk.1.1.1.1, hk.1.1.1.2⟩)⟩, ⟨by (with_reducible repeat (first | apply Kd.R_alloc | apply Kd.R_drewN | apply Kd.R_drew)); exact Kd.R_mono HO441.out (fun _ hk => ⟨hk.1.1.1.1, hk.1.1.1.2⟩)⟩, ⟨by (with_reducible repeat (first | apply Kd.R_alloc | apply Kd.R_drewN | apply Kd.R_drew)); exact Kd.R_mono HO444.out (fun _ hk => ⟨hk.1.1.1.1, hk.1.1.1.2⟩)⟩, ⟨by (with_reducible repeat (first | refine blk_drewN ?_ _ | refine blk_drew ?_ | refine blk_alloc ?_ _)); exact BK419.out⟩, ⟨by (with_reducible repeat (first | refine blk_drewN ?_ _ | refine blk_drew ?_ | refine blk_alloc ?_ _)); exact BK445.out⟩, ⟨z9_⟩⟩
   case rest =>
    clear HC14; try clear c3b0; try clear c3b1; try clear c6b0; try clear hcz16_0 hcz16_1 hcz16_2 hcz16_3 hcz16_4; try clear hcz18_0 hcz18_1 hcz18_2 hcz18_3 hcz18_4; try clear hcz24_0 hcz24_1 hcz24_2 hcz24_3 hcz24_4; try clear hcz28_0 hcz28_1 hcz28_2 hcz28_3 hcz28_4; try clear hfz16_0 hfz16_1 hfz16_2 hfz16_3 hfz16_4; try clear hfz18_0 hfz18_1 hfz18_2 hfz18_3 hfz18_4; try clear hfz24_0 hfz24_1 hfz24_2 hfz24_3 hfz24_4; try clear hfz28_0 hfz28_1 hfz28_2 hfz28_3 hfz28_4
    obtain ⟨kq, x41_13, rfl, HA, HJ13, HO_446002, HO_446003, HO_446004, BK419, BK445, HB⟩ := hcut
    cases kq with
    | zero => exact absurd HA.out (by simp [laws_FnExactIsRightForm.j0])
    | succ kj13 =>
     have H := HA.out
     clear HA
     simp only [laws_FnExactIsRightForm.j0] at H
     by_cases c34 : x41_13 = true
     ·subst c34
      have H1 : (none) = some r := by rw [if_pos rfl] at H; exact H
      clear H
      have H := H1
      clear H1
      exact absurd H (by simp)
     ·replace c34 := Bool.eq_false_iff.mpr c34
      subst c34
      have H1 : ((laws_toForm.f kj13 a0_0 a0_1 l0_2 l0_3 l0_4).bind fun bt448 => ((laws_eqForm.f kj13 t434 t435 t436 t439 t442 bt448.1 bt448.2.1 bt448.2.2.1 bt448.2.2.2.1 bt448.2.2.2.2).bind fun t459 => (if t459 = true then (some true) else (none)))) = some r := by rw [if_neg (show ¬ (false = true) by decide)] at H; exact H
      clear H
      have H := H1
      clear H1
      replace H := Option.bind_eq_some_iff.mp H
      obtain ⟨⟨t448, t449, t450, t453, t456⟩, A350, H⟩ := H
      replace H : ((laws_eqForm.f kj13 t434 t435 t436 t439 t442 t448 t449 t450 t453 t456).bind fun t459 => (if t459 = true then (some true) else (none))) = some r := H
      have A35 := Aside0.mk A350
      clear A350
      replace H := Option.bind_eq_some_iff.mp H
      obtain ⟨t459, A360, H⟩ := H
      replace H : (if t459 = true then (some true) else (none)) = some r := H
      have A36 := Aside0.mk A360
      clear A360
      by_cases c37 : t459 = true
      ·subst c37
       have H1 : (some true) = some r := by rw [if_pos rfl] at H; exact H
       clear H
       have H := H1
       clear H1
       obtain rfl := Option.some.inj H
       try go_wp2
       replace HO_446002 := a_ (Kd.R_drew HO_446002.out)
       replace HO_446003 := a_ (Kd.R_drew HO_446003.out)
       replace HO_446004 := a_ (Kd.R_drew HO_446004.out)
       replace BK419 := a_ (blk_drew BK419.out)
       replace BK445 := a_ (blk_drew BK445.out)
       replace HB := a_ (below_drew1 HB.out)
       refine start_ (n := 5) (S := fun w' => w'.cell? ⟨gb445, 0, none⟩ = some (.int .i64 t434) ∧ w'.cell? ⟨gb445, 1, none⟩ = some (.int .i64 t435) ∧ w'.cell? ⟨gb445, 2, none⟩ = some (.slice Ao29 t436.length co29) ∧ w'.cell? ⟨gb445, 3, none⟩ = some (.slice Ao30 t439.length co30) ∧ w'.cell? ⟨gb445, 4, none⟩ = some (.slice Ao31 t442.length co31) ∧ w'.cell? ⟨gb419, 0, none⟩ = some (.int .i64 a0_0) ∧ w'.cell? ⟨gb419, 1, none⟩ = some (.int .i64 a0_1) ∧ w'.cell? ⟨gb419, 2, none⟩ = some (.slice A0_2 l0_2.length c0_2) ∧ w'.cell? ⟨gb419, 3, none⟩ = some (.slice A0_3 l0_3.length c0_3) ∧ w'.cell? ⟨gb419, 4, none⟩ = some (.slice A0_4 l0_4.length c0_4)) (ds := []) #[false, false, false, false, false] (by kernel_rfl) rfl rfl ⟨(blk_cell BK445.out 0).trans rfl, (blk_cell BK445.out 1).trans rfl, (blk_cell BK445.out 2).trans rfl, (blk_cell BK445.out 3).trans rfl, (blk_cell BK445.out 4).trans rfl, (blk_cell BK419.out 0).trans rfl, (blk_cell BK419.out 1).trans rfl, (blk_cell BK419.out 2).trans rfl, (blk_cell BK419.out 3).trans rfl, (blk_cell BK419.out 4).trans rfl⟩ (fun hHeld => ?_)
       generalize wc.drew = w38 at HO_446002 HO_446003 HO_446004 BK419 BK445 HB hHeld ⊢
       refine tk10_ (i := 0) (N := some 42) #[true, false, false, false, false] hHeld ?_ (hc := (by kernel_rfl))
       refine tk10_ (i := 1) (N := some 43) #[true, true, false, false, false] hHeld ?_ (hc := (by kernel_rfl))
       refine one_ (i := 2) (N := some 44) #[true, true, true, false, false] rfl rfl (by kernel_rfl) (by decide) (fun K hK => ?_)
       refine goes_ Tryz.func9 (by kernel_rfl) rfl #[.agg #[.int .i64 a0_0, .int .i64 a0_1, .slice A0_2 l0_2.length c0_2, .slice A0_3 l0_3.length c0_3, .slice A0_4 l0_4.length c0_4]] (by rfl) rfl rfl z34_ ?_
       with_reducible refine (laws_toForm.calls kj13 a0_0 a0_1 _ _ l0_2 _ _ l0_3 _ _ l0_4 t448 t449 t450 t453 t456 _ ?side1 ?side2 ?side3 ?side4 ?side5 ?side6 A35.out).mono ?_
       (case side1 => exact kc_ (Kd.C_below HR0_2.out HB.out))
       (case side2 => exact HC0_2.out)
       (case side3 => exact kc_ (Kd.C_below HR0_3.out HB.out))
       (case side4 => exact HC0_3.out)
       (case side5 => exact kc_ (Kd.C_below HR0_4.out HB.out))
       (case side6 => exact HC0_4.out)
       rintro e w39 ⟨v451, v454, v457, rfl, ho0, ho1, ho2, hb⟩
       refine ⟨_, rfl, ?_⟩
       have HO452 := a_ (Kd.R_lower (Kd.R_new' (Kd.R_new' (Kd.R_new' ho0 (Kd.R_lt (ra_ HO_446002.out))) (Kd.R_lt (ra_ HO_446003.out))) (Kd.R_lt (ra_ HO_446004.out))) (below_size z9_))
       have HO455 := a_ (Kd.R_lower (Kd.R_new' (Kd.R_new' (Kd.R_new' ho1 (Kd.R_lt (ra_ HO_446002.out))) (Kd.R_lt (ra_ HO_446003.out))) (Kd.R_lt (ra_ HO_446004.out))) (below_size z9_))
       have HO458 := a_ (Kd.R_lower (Kd.R_new' (Kd.R_new' (Kd.R_new' ho2 (Kd.R_lt (ra_ HO_446002.out))) (Kd.R_lt (ra_ HO_446003.out))) (Kd.R_lt (ra_ HO_446004.out))) (below_size z9_))
       replace HO_446002 := a_ (Kd.R_mono (Kd.R_told (Kd.R_told (Kd.R_told (Kd.R_old (ra_ HO_446002.out) hb) (Kd.R_base ho0)) (Kd.R_base ho1)) (Kd.R_base ho2)) (fun _ h_ => h_.1))
       replace HO_446003 := a_ (Kd.R_mono (Kd.R_told (Kd.R_told (Kd.R_told (Kd.R_old (ra_ HO_446003.out) hb) (Kd.R_base ho0)) (Kd.R_base ho1)) (Kd.R_base ho2)) (fun _ h_ => h_.1))
       replace HO_446004 := a_ (Kd.R_mono (Kd.R_told (Kd.R_told (Kd.R_told (Kd.R_old (ra_ HO_446004.out) hb) (Kd.R_base ho0)) (Kd.R_base ho1)) (Kd.R_base ho2)) (fun _ h_ => h_.1))
       replace BK419 := a_ (blk_below (g := gb419) (rb_ BK419.out) hb)
       replace BK445 := a_ (blk_below (g := gb445) (rb_ BK445.out) hb)
       replace HB := a_ (below_step z9_ hb)
       (try clear hb)
       (try clear hb2)
       (try clear hk)
       (try clear hi)
       (try clear ho0)
       (try clear ho1)
       (try clear ho2)
       obtain ⟨Ao40, co40, eo40⟩ := Kd.R_slice HO452.out
       (first | subst eo40 | (injection eo40 with f1_ f2_ f3_; have f4_ := f1_.symm; have f5_ := f3_.symm; clear f1_ f2_ f3_; subst f4_; subst f5_))
       obtain ⟨Ao41, co41, eo41⟩ := Kd.R_slice HO455.out
       (first | subst eo41 | (injection eo41 with f1_ f2_ f3_; have f4_ := f1_.symm; have f5_ := f3_.symm; clear f1_ f2_ f3_; subst f4_; subst f5_))
       obtain ⟨Ao42, co42, eo42⟩ := Kd.R_slice HO458.out
       (first | subst eo42 | (injection eo42 with f1_ f2_ f3_; have f4_ := f1_.symm; have f5_ := f3_.symm; clear f1_ f2_ f3_; subst f4_; subst f5_))
       refine hK.out _ _ ⟨(blk_cell BK445.out 0).trans rfl, (blk_cell BK445.out 1).trans rfl, (blk_cell BK445.out 2).trans rfl, (blk_cell BK445.out 3).trans rfl, (blk_cell BK445.out 4).trans rfl, (blk_cell BK419.out 0).trans rfl, (blk_cell BK419.out 1).trans rfl, (blk_cell BK419.out 2).trans rfl, (blk_cell BK419.out 3).trans rfl, (blk_cell BK419.out 4).trans rfl⟩ (fun hHeld => ?_)
       clear hK K
       refine nm_ ?_
       refine one_ (i := 3) (N := some 45) #[true, true, true, true, false] rfl rfl (by kernel_rfl) (by decide) (fun K hK => ?_)
       refine goes_ Tryz.func11 (by kernel_rfl) rfl #[.agg #[.int .i64 t434, .int .i64 t435, .slice Ao29 t436.length co29, .slice Ao30 t439.length co30, .slice Ao31 t442.length co31], .agg #[.int .i64 t448, .int .i64 t449, .slice Ao40 t450.length co40, .slice Ao41 t453.length co41, .slice Ao42 t456.length co42]] (by rfl) rfl rfl z34_ ?_
       with_reducible refine (laws_eqForm.calls kj13 t434 t435 _ _ t436 _ _ t439 _ _ t442 t448 t449 _ _ t450 _ _ t453 _ _ t456 true _ ?side1 ?side2 ?side3 ?side4 ?side5 ?side6 ?side7 ?side8 ?side9 ?side10 ?side11 ?side12 A36.out).mono ?_
       (case side1 => exact (by (repeat (first | exact (Kd.R_reads' HO_446002.out).2.2 | (with_reducible refine Kd.C_alloc ?_ _) | (with_reducible refine Kd.C_drewN ?_ _) | (with_reducible refine Kd.C_drew ?_))); first | done | fail))
       (case side2 => exact (Kd.R_reads' HO_446002.out).2.1)
       (case side3 => exact (by (repeat (first | exact (Kd.R_reads' HO_446003.out).2.2 | (with_reducible refine Kd.C_alloc ?_ _) | (with_reducible refine Kd.C_drewN ?_ _) | (with_reducible refine Kd.C_drew ?_))); first | done | fail))
       (case side4 => exact (Kd.R_reads' HO_446003.out).2.1)
       (case side5 => exact (by (repeat (first | exact (Kd.R_reads' HO_446004.out).2.2 | (with_reducible refine Kd.C_alloc ?_ _) | (with_reducible refine Kd.C_drewN ?_ _) | (with_reducible refine Kd.C_drew ?_))); first | done | fail))
       (case side6 => exact (Kd.R_reads' HO_446004.out).2.1)
       (case side7 => exact (by (repeat (first | exact (Kd.R_reads' HO452.out).2.2 | (with_reducible refine Kd.C_alloc ?_ _) | (with_reducible refine Kd.C_drewN ?_ _) | (with_reducible refine Kd.C_drew ?_))); first | done | fail))
       (case side8 => exact (Kd.R_reads' HO452.out).2.1)
       (case side9 => exact (by (repeat (first | exact (Kd.R_reads' HO455.out).2.2 | (with_reducible refine Kd.C_alloc ?_ _) | (with_reducible refine Kd.C_drewN ?_ _) | (with_reducible refine Kd.C_drew ?_))); first | done | fail))
       (case side10 => exact (Kd.R_reads' HO455.out).2.1)
       (case side11 => exact (by (repeat (first | exact (Kd.R_reads' HO458.out).2.2 | (with_reducible refine Kd.C_alloc ?_ _) | (with_reducible refine Kd.C_drewN ?_ _) | (with_reducible refine Kd.C_drew ?_))); first | done | fail))
       (case side12 => exact (Kd.R_reads' HO458.out).2.1)
       rintro e w43 ⟨rfl, hb⟩
       refine ⟨_, rfl, ?_⟩
       replace HO_446002 := a_ (Kd.R_below (ra_ HO_446002.out) hb)
       replace HO_446003 := a_ (Kd.R_below (ra_ HO_446003.out) hb)
       replace HO_446004 := a_ (Kd.R_below (ra_ HO_446004.out) hb)
       replace HO452 := a_ (Kd.R_below (ra_ HO452.out) hb)
       replace HO455 := a_ (Kd.R_below (ra_ HO455.out) hb)
       replace HO458 := a_ (Kd.R_below (ra_ HO458.out) hb)
       replace BK419 := a_ (blk_below (g := gb419) (rb_ BK419.out) hb)
       replace BK445 := a_ (blk_below (g := gb445) (rb_ BK445.out) hb)
       replace HB := a_ (below_step z9_ hb)
       (try clear hb)
       (try clear hb2)
       (try clear hk)
       (try clear hi)
       refine hK.out _ _ ⟨(blk_cell BK445.out 0).trans rfl, (blk_cell BK445.out 1).trans rfl, (blk_cell BK445.out 2).trans rfl, (blk_cell BK445.out 3).trans rfl, (blk_cell BK445.out 4).trans rfl, (blk_cell BK419.out 0).trans rfl, (blk_cell BK419.out 1).trans rfl, (blk_cell BK419.out 2).trans rfl, (blk_cell BK419.out 3).trans rfl, (blk_cell BK419.out 4).trans rfl⟩ (fun hHeld => ?_)
       clear hK K
       refine nm_ ?_
       refine pu_ (i := 4) (N := some 46) #[true, true, true, true, true] ?_ (hc := (by kernel_rfl))
       refine done_ (by kernel_rfl) ?_
       try go_wp2
       go_ret
       exact ⟨z33_, z9_⟩
      ·replace c37 := Bool.eq_false_iff.mpr c37
       subst c37
       have H1 : (none) = some r := by rw [if_neg (show ¬ (false = true) by decide)] at H; exact H
       clear H
       have H := H1
       clear H1
       exact absurd H (by simp)

/-- The pure statement of laws_FnExactIsRightForm. -/
def laws_FnExactIsRightForm.Pure : Prop := ∀ (a0_0 : Int) (a0_1 : Int) (l0_2 : List Int) (l0_3 : List Int) (l0_4 : List Int) (a1 : ByteArray), (Lit.int .i64 a0_0).wf = true → (Lit.int .i64 a0_1).wf = true → l0_2.length ≤ maxLen → (∀ x ∈ l0_2, (Lit.int .i64 x).wf = true) → l0_3.length ≤ maxLen → (∀ x ∈ l0_3, (Lit.int .i64 x).wf = true) → l0_4.length ≤ maxLen → (∀ x ∈ l0_4, (Lit.int .i64 x).wf = true) → a1.size ≤ 140737488351232 → ∃ k, laws_FnExactIsRightForm.f k a0_0 a0_1 l0_2 l0_3 l0_4 a1 = some true
theorem laws_FnExactIsRightForm.walk (P : laws_FnExactIsRightForm.Pure) (a0_0 : Int) (a0_1 : Int) (A0_2 : Option Addr) (len0_2 cap0_2 : Nat) (z0_2 : List Int) (A0_3 : Option Addr) (len0_3 cap0_3 : Nat) (z0_3 : List Int) (A0_4 : Option Addr) (len0_4 cap0_4 : Nat) (z0_4 : List Int) (a1 : ByteArray) (w : World) (w0_0 : (Lit.int .i64 a0_0).wf = true) (w0_1 : (Lit.int .i64 a0_1).wf = true) (w0_2 : (A0_2 = none ∧ len0_2 = 0 ∧ cap0_2 = 0 ∧ z0_2 = []) ∨ ∃ x, A0_2 = some x ∧ len0_2 ≤ cap0_2 ∧ cap0_2 ≤ maxLen ∧ z0_2.length = cap0_2 ∧ (∀ i, i < z0_2.length → w.cell? (x.add i) = some (.int .i64 (z0_2.getD i 0))) ∧ ∀ n ∈ z0_2, (Lit.int .i64 n).wf = true) (w0_3 : (A0_3 = none ∧ len0_3 = 0 ∧ cap0_3 = 0 ∧ z0_3 = []) ∨ ∃ x, A0_3 = some x ∧ len0_3 ≤ cap0_3 ∧ cap0_3 ≤ maxLen ∧ z0_3.length = cap0_3 ∧ (∀ i, i < z0_3.length → w.cell? (x.add i) = some (.int .i64 (z0_3.getD i 0))) ∧ ∀ n ∈ z0_3, (Lit.int .i64 n).wf = true) (w0_4 : (A0_4 = none ∧ len0_4 = 0 ∧ cap0_4 = 0 ∧ z0_4 = []) ∨ ∃ x, A0_4 = some x ∧ len0_4 ≤ cap0_4 ∧ cap0_4 ≤ maxLen ∧ z0_4.length = cap0_4 ∧ (∀ i, i < z0_4.length → w.cell? (x.add i) = some (.int .i64 (z0_4.getD i 0))) ∧ ∀ n ∈ z0_4, (Lit.int .i64 n).wf = true) (w1 : a1.size ≤ 140737488351232) :
  Calls Tryz.prog 3 #[.agg #[.int .i64 a0_0, .int .i64 a0_1, .slice A0_2 len0_2 cap0_2, .slice A0_3 len0_3 cap0_3, .slice A0_4 len0_4 cap0_4], .string a1] w fun e w' => e = .returned (.bool true) ∧ Below w.heap.size w w' := by
 obtain ⟨l0_2, rfl, hr0_2, hm0_2, hw0_2, hc0_2⟩ := ReadsInt.ofRowC w0_2
 obtain ⟨l0_3, rfl, hr0_3, hm0_3, hw0_3, hc0_3⟩ := ReadsInt.ofRowC w0_3
 obtain ⟨l0_4, rfl, hr0_4, hm0_4, hw0_4, hc0_4⟩ := ReadsInt.ofRowC w0_4
 obtain ⟨k, h⟩ := P a0_0 a0_1 l0_2 l0_3 l0_4 a1 w0_0 w0_1 hm0_2 hw0_2 hm0_3 hw0_3 hm0_4 hw0_4 w1
 refine (laws_FnExactIsRightForm.calls k a0_0 a0_1 _ _ l0_2 _ _ l0_3 _ _ l0_4 a1 true w (Kd.C_of_reads (d := (0 : Int)) (h1 := fun _ => rfl) hr0_2) hc0_2 (Kd.C_of_reads (d := (0 : Int)) (h1 := fun _ => rfl) hr0_3) hc0_3 (Kd.C_of_reads (d := (0 : Int)) (h1 := fun _ => rfl) hr0_4) hc0_4 h).mono ?_
 rintro e w' ⟨rfl, hd⟩
 exact ⟨rfl, hd⟩

end Go.Proofs.YtkpidjmhdagkfaaGreatDoor.QFnExactIsRightForm
-- halved
