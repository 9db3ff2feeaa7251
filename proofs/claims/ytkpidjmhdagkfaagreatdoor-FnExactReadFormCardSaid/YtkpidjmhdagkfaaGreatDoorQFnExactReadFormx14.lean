-- Written by own_print.py of this session's repo over the kit's print (its output, turned at some places).
import Derived.Test.YtkpidjmhdagkfaaGreatDoorQFnExactReadFormx0
import Derived.Test.YtkpidjmhdagkfaaGreatDoorQFnExactReadFormx1
import Derived.Test.YtkpidjmhdagkfaaGreatDoorQFnExactReadFormx7
import Derived.Test.YtkpidjmhdagkfaaGreatDoorQFnExactReadFormx12
import Derived.Test.YtkpidjmhdagkfaaGreatDoorQFnExactReadFormx13
namespace Go.Proofs.YtkpidjmhdagkfaaGreatDoor.QFnExactReadForm
open Go.RowKit Go.Proofs.YtkpidjmhdagkfaaGreatDoorW.PrintWords Go.Proofs.YtkpidjmhdagkfaaGreatDoorW.PrintLast Go.Proofs.YtkpidjmhdagkfaaGreatDoorW.PrintMore
attribute [local go_sem] max2_int min2_int max_two min_two max_three min_three max_four min_four   -- for this text's walks alone
set_option linter.unusedVariables false
set_option linter.unusedSimpArgs false

/-! ### laws_FnExactReadForm: function 6 -/
mutual
def laws_FnExactReadForm.j0 : Nat → ByteArray → List Int → Int → List Int → Int → Bool → Int → Int → List Int → List Int → List Int → Int → Int → List Int → List Int → List Int → Option (Bool)
 | 0, _, _, _, _, _, _, _, _, _, _, _, _, _, _, _, _ => none
 | k + 1, x1, x6, x7, x9, x10, x47, x418000, x418001, x418002, x418003, x418004, x446000, x446001, x446002, x446003, x446004 => if x47 = true then (none) else ((laws_toForm.f k x418000 x418001 x418002 x418003 x418004).bind fun bt451 => ((laws_eqForm.f k x446000 x446001 x446002 x446003 x446004 bt451.1 bt451.2.1 bt451.2.2.1 bt451.2.2.2.1 bt451.2.2.2.2).bind fun t462 => (if t462 = true then ((laws_markForm.f k x446000 x446001 x446002 x446003 x446004 1).bind fun bt463 => (if bt463.1 < 0 then (none) else ((laws_eqInt64S.f k x9 x6).bind fun t467 => (if t467 = true then (laws_FnExactReadForm.j1 k x1 x6 x7 x9 (x10 != x7) x418000 x418001 x418002 x418003 x418004) else (none))))) else (none))))
def laws_FnExactReadForm.j1 : Nat → ByteArray → List Int → Int → List Int → Bool → Int → Int → List Int → List Int → List Int → Option (Bool)
 | 0, _, _, _, _, _, _, _, _, _, _ => none
 | k + 1, x1, x6, x7, x9, x68, x418000, x418001, x418002, x418003, x418004 => if x68 = true then (none) else ((laws_markInt64S.f k x9 1).bind fun bt468 => ((laws_heldInt64S.f k bt468.2 1).bind fun t470 => (if t470 < 0 then (none) else (if t470 = bt468.1 then ((laws_toForm.f k x418000 x418001 x418002 x418003 x418004).bind fun bt471 => ((impl_ReadForm.f k bt471.1 bt471.2.1 bt471.2.2.1 bt471.2.2.2.1 bt471.2.2.2.2 x1).bind fun bt482 => ((laws_eqInt64S.f k bt482.1 x6).bind fun t486 => (if t486 = true then (laws_FnExactReadForm.j2 k bt468.2 bt468.1 (bt482.2 != x7)) else (none))))) else (none)))))
def laws_FnExactReadForm.j2 : Nat → List Int → Int → Bool → Option (Bool)
 | 0, _, _, _ => none
 | k + 1, x9, x12, x95 => if x95 = true then (none) else ((laws_heldInt64S.f k x9 1).bind fun t487 => (if t487 < 0 then (none) else (if t487 = x12 then (some true) else (none))))
end
def laws_FnExactReadForm.f (k : Nat) (a0_0 : Int) (a0_1 : Int) (l0_2 : List Int) (l0_3 : List Int) (l0_4 : List Int) (a1 : ByteArray) : Option (Bool) := if (a1.size : Int) > 1048576 then (some true) else ((laws_szForm.f a0_0 a0_1 l0_2 l0_3 l0_4 1048576).bind fun t418 => (if t418 < 0 then (some true) else ((laws_toForm.f k a0_0 a0_1 l0_2 l0_3 l0_4).bind fun bt419 => ((spec_ReadForm.f k bt419.1 bt419.2.1 bt419.2.2.1 bt419.2.2.2.1 bt419.2.2.2.2 a1).bind fun bt430 => ((laws_toForm.f k a0_0 a0_1 l0_2 l0_3 l0_4).bind fun bt434 => ((impl_ReadForm.f k bt434.1 bt434.2.1 bt434.2.2.1 bt434.2.2.2.1 bt434.2.2.2.2 a1).bind fun bt446 => ((laws_eqInt64S.f k bt446.1 bt430.1).bind fun t450 => (if t450 = true then (laws_FnExactReadForm.j0 k a1 bt430.1 bt430.2 bt446.1 bt446.2 (bt446.2 != bt430.2) a0_0 a0_1 l0_2 l0_3 l0_4 bt434.1 bt434.2.1 bt434.2.2.1 bt434.2.2.2.1 bt434.2.2.2.2) else (none)))))))))
theorem laws_FnExactReadForm.mono_l : ∀ k, (∀ y0 y1 y2 y3 y4 y5 y6 y7 y8 y9 y10 y11 y12 y13 y14 y15, LeO (laws_FnExactReadForm.j0 k y0 y1 y2 y3 y4 y5 y6 y7 y8 y9 y10 y11 y12 y13 y14 y15) (laws_FnExactReadForm.j0 (k + 1) y0 y1 y2 y3 y4 y5 y6 y7 y8 y9 y10 y11 y12 y13 y14 y15)) ∧ (∀ y0 y1 y2 y3 y4 y5 y6 y7 y8 y9, LeO (laws_FnExactReadForm.j1 k y0 y1 y2 y3 y4 y5 y6 y7 y8 y9) (laws_FnExactReadForm.j1 (k + 1) y0 y1 y2 y3 y4 y5 y6 y7 y8 y9)) ∧ (∀ y0 y1 y2, LeO (laws_FnExactReadForm.j2 k y0 y1 y2) (laws_FnExactReadForm.j2 (k + 1) y0 y1 y2))
 | 0 => ⟨fun _ _ _ _ _ _ _ _ _ _ _ _ _ _ _ _ r h => by simp [laws_FnExactReadForm.j0] at h, fun _ _ _ _ _ _ _ _ _ _ r h => by simp [laws_FnExactReadForm.j1] at h, fun _ _ _ r h => by simp [laws_FnExactReadForm.j2] at h⟩
 | k + 1 => by
  obtain ⟨ih0, ih1, ih2⟩ := laws_FnExactReadForm.mono_l k
  refine ⟨?_, ?_, ?_⟩
  ·intro y0 y1 y2 y3 y4 y5 y6 y7 y8 y9 y10 y11 y12 y13 y14 y15
   unfold laws_FnExactReadForm.j0
   repeat' first
   | (with_reducible exact ih0 _ _ _ _ _ _ _ _ _ _ _ _ _ _ _ _)
   | (with_reducible exact ih1 _ _ _ _ _ _ _ _ _ _)
   | (with_reducible exact ih2 _ _ _)
   | (with_reducible exact impl_ReadForm.mono _ _ _ _ _ _ _)
   | (with_reducible exact laws_eqForm.mono _ _ _ _ _ _ _ _ _ _ _)
   | (with_reducible exact laws_eqInt64S.mono _ _ _)
   | (with_reducible exact laws_heldInt64S.mono _ _ _)
   | (with_reducible exact laws_markForm.mono _ _ _ _ _ _ _)
   | (with_reducible exact laws_markInt64S.mono _ _ _)
   | (with_reducible exact laws_toForm.mono _ _ _ _ _ _)
   | (with_reducible exact spec_ReadForm.mono _ _ _ _ _ _ _)
   | (with_reducible exact LeO.refl _)
   | (with_reducible exact LeO.none _)
   | (with_reducible refine LeO.ite ?_ ?_)
   | (with_reducible refine LeO.bind ?_ (fun _ => ?_))
   | exact ih0 _ _ _ _ _ _ _ _ _ _ _ _ _ _ _ _
   | exact ih1 _ _ _ _ _ _ _ _ _ _
   | exact ih2 _ _ _
   | exact impl_ReadForm.mono _ _ _ _ _ _ _
   | exact laws_eqForm.mono _ _ _ _ _ _ _ _ _ _ _
   | exact laws_eqInt64S.mono _ _ _
   | exact laws_heldInt64S.mono _ _ _
   | exact laws_markForm.mono _ _ _ _ _ _ _
   | exact laws_markInt64S.mono _ _ _
   | exact laws_toForm.mono _ _ _ _ _ _
   | exact spec_ReadForm.mono _ _ _ _ _ _ _
   | exact LeO.none _
   | refine LeO.ite ?_ ?_
   | refine LeO.bind ?_ (fun _ => ?_)
  ·intro y0 y1 y2 y3 y4 y5 y6 y7 y8 y9
   unfold laws_FnExactReadForm.j1
   repeat' first
   | (with_reducible exact ih0 _ _ _ _ _ _ _ _ _ _ _ _ _ _ _ _)
   | (with_reducible exact ih1 _ _ _ _ _ _ _ _ _ _)
   | (with_reducible exact ih2 _ _ _)
   | (with_reducible exact impl_ReadForm.mono _ _ _ _ _ _ _)
   | (with_reducible exact laws_eqForm.mono _ _ _ _ _ _ _ _ _ _ _)
   | (with_reducible exact laws_eqInt64S.mono _ _ _)
   | (with_reducible exact laws_heldInt64S.mono _ _ _)
   | (with_reducible exact laws_markForm.mono _ _ _ _ _ _ _)
   | (with_reducible exact laws_markInt64S.mono _ _ _)
   | (with_reducible exact laws_toForm.mono _ _ _ _ _ _)
   | (with_reducible exact spec_ReadForm.mono _ _ _ _ _ _ _)
   | (with_reducible exact LeO.refl _)
   | (with_reducible exact LeO.none _)
   | (with_reducible refine LeO.ite ?_ ?_)
   | (with_reducible refine LeO.bind ?_ (fun _ => ?_))
   | exact ih0 _ _ _ _ _ _ _ _ _ _ _ _ _ _ _ _
   | exact ih1 _ _ _ _ _ _ _ _ _ _
   | exact ih2 _ _ _
   | exact impl_ReadForm.mono _ _ _ _ _ _ _
   | exact laws_eqForm.mono _ _ _ _ _ _ _ _ _ _ _
   | exact laws_eqInt64S.mono _ _ _
   | exact laws_heldInt64S.mono _ _ _
   | exact laws_markForm.mono _ _ _ _ _ _ _
   | exact laws_markInt64S.mono _ _ _
   | exact laws_toForm.mono _ _ _ _ _ _
   | exact spec_ReadForm.mono _ _ _ _ _ _ _
   | exact LeO.none _
   | refine LeO.ite ?_ ?_
   | refine LeO.bind ?_ (fun _ => ?_)
  ·intro y0 y1 y2
   unfold laws_FnExactReadForm.j2
   repeat' first
   | (with_reducible exact ih0 _ _ _ _ _ _ _ _ _ _ _ _ _ _ _ _)
   | (with_reducible exact ih1 _ _ _ _ _ _ _ _ _ _)
   | (with_reducible exact ih2 _ _ _)
   | (with_reducible exact impl_ReadForm.mono _ _ _ _ _ _ _)
   | (with_reducible exact laws_eqForm.mono _ _ _ _ _ _ _ _ _ _ _)
   | (with_reducible exact laws_eqInt64S.mono _ _ _)
   | (with_reducible exact laws_heldInt64S.mono _ _ _)
   | (with_reducible exact laws_markForm.mono _ _ _ _ _ _ _)
   | (with_reducible exact laws_markInt64S.mono _ _ _)
   | (with_reducible exact laws_toForm.mono _ _ _ _ _ _)
   | (with_reducible exact spec_ReadForm.mono _ _ _ _ _ _ _)
   | (with_reducible exact LeO.refl _)
   | (with_reducible exact LeO.none _)
   | (with_reducible refine LeO.ite ?_ ?_)
   | (with_reducible refine LeO.bind ?_ (fun _ => ?_))
   | exact ih0 _ _ _ _ _ _ _ _ _ _ _ _ _ _ _ _
   | exact ih1 _ _ _ _ _ _ _ _ _ _
   | exact ih2 _ _ _
   | exact impl_ReadForm.mono _ _ _ _ _ _ _
   | exact laws_eqForm.mono _ _ _ _ _ _ _ _ _ _ _
   | exact laws_eqInt64S.mono _ _ _
   | exact laws_heldInt64S.mono _ _ _
   | exact laws_markForm.mono _ _ _ _ _ _ _
   | exact laws_markInt64S.mono _ _ _
   | exact laws_toForm.mono _ _ _ _ _ _
   | exact spec_ReadForm.mono _ _ _ _ _ _ _
   | exact LeO.none _
   | refine LeO.ite ?_ ?_
   | refine LeO.bind ?_ (fun _ => ?_)
theorem laws_FnExactReadForm.mono : ∀ a0 a1 a2 a3 a4 a5 k, LeO (laws_FnExactReadForm.f k a0 a1 a2 a3 a4 a5) (laws_FnExactReadForm.f (k + 1) a0 a1 a2 a3 a4 a5) := by
 intro a0 a1 a2 a3 a4 a5 k
 obtain ⟨ih0, ih1, ih2⟩ := laws_FnExactReadForm.mono_l k
 unfold laws_FnExactReadForm.f
 repeat' first
   | (with_reducible exact ih0 _ _ _ _ _ _ _ _ _ _ _ _ _ _ _ _)
   | (with_reducible exact ih1 _ _ _ _ _ _ _ _ _ _)
   | (with_reducible exact ih2 _ _ _)
   | (with_reducible exact impl_ReadForm.mono _ _ _ _ _ _ _)
   | (with_reducible exact laws_eqForm.mono _ _ _ _ _ _ _ _ _ _ _)
   | (with_reducible exact laws_eqInt64S.mono _ _ _)
   | (with_reducible exact laws_heldInt64S.mono _ _ _)
   | (with_reducible exact laws_markForm.mono _ _ _ _ _ _ _)
   | (with_reducible exact laws_markInt64S.mono _ _ _)
   | (with_reducible exact laws_toForm.mono _ _ _ _ _ _)
   | (with_reducible exact spec_ReadForm.mono _ _ _ _ _ _ _)
   | (with_reducible exact LeO.refl _)
   | (with_reducible exact LeO.none _)
   | (with_reducible refine LeO.ite ?_ ?_)
   | (with_reducible refine LeO.bind ?_ (fun _ => ?_))
   | exact ih0 _ _ _ _ _ _ _ _ _ _ _ _ _ _ _ _
   | exact ih1 _ _ _ _ _ _ _ _ _ _
   | exact ih2 _ _ _
   | exact impl_ReadForm.mono _ _ _ _ _ _ _
   | exact laws_eqForm.mono _ _ _ _ _ _ _ _ _ _ _
   | exact laws_eqInt64S.mono _ _ _
   | exact laws_heldInt64S.mono _ _ _
   | exact laws_markForm.mono _ _ _ _ _ _ _
   | exact laws_markInt64S.mono _ _ _
   | exact laws_toForm.mono _ _ _ _ _ _
   | exact spec_ReadForm.mono _ _ _ _ _ _ _
   | exact LeO.none _
   | refine LeO.ite ?_ ?_
   | refine LeO.bind ?_ (fun _ => ?_)
set_option maxHeartbeats 8000000 in
set_option maxRecDepth 100000 in
theorem laws_FnExactReadForm.calls (k : Nat) (a0_0 : Int) (a0_1 : Int) (A0_2 : Option Addr) (c0_2 : Nat) (l0_2 : List Int) (A0_3 : Option Addr) (c0_3 : Nat) (l0_3 : List Int) (A0_4 : Option Addr) (c0_4 : Nat) (l0_4 : List Int) (a1 : ByteArray) (r : Bool) (w : World) (hr0_2 : Kd.C (Kd.int .i64) w A0_2 l0_2.length l0_2) (hc0_2 : l0_2.length ≤ c0_2) (hr0_3 : Kd.C (Kd.int .i64) w A0_3 l0_3.length l0_3) (hc0_3 : l0_3.length ≤ c0_3) (hr0_4 : Kd.C (Kd.int .i64) w A0_4 l0_4.length l0_4) (hc0_4 : l0_4.length ≤ c0_4) (h : laws_FnExactReadForm.f k a0_0 a0_1 l0_2 l0_3 l0_4 a1 = some r) :
  Calls Tryz.prog 6 #[.agg #[.int .i64 a0_0, .int .i64 a0_1, .slice A0_2 l0_2.length c0_2, .slice A0_3 l0_3.length c0_3, .slice A0_4 l0_4.length c0_4], .string a1] w fun e w' => e = .returned (.bool r) ∧ Below w.heap.size w w' := by
 have hu24 := Tryz.underlying24
 have hu28 := Tryz.underlying28
 have HR0_2 := Aside0.mk hr0_2
 have HC0_2 := Aside0.mk hc0_2
 clear hr0_2 hc0_2
 have HR0_3 := Aside0.mk hr0_3
 have HC0_3 := Aside0.mk hc0_3
 clear hr0_3 hc0_3
 have HR0_4 := Aside0.mk hr0_4
 have HC0_4 := Aside0.mk hc0_4
 clear hr0_4 hc0_4
 have HB := a_ (Below.refl w.heap.size w)
 have H : (if (a1.size : Int) > 1048576 then (some true) else ((laws_szForm.f a0_0 a0_1 l0_2 l0_3 l0_4 1048576).bind fun t418 => (if t418 < 0 then (some true) else ((laws_toForm.f k a0_0 a0_1 l0_2 l0_3 l0_4).bind fun bt419 => ((spec_ReadForm.f k bt419.1 bt419.2.1 bt419.2.2.1 bt419.2.2.2.1 bt419.2.2.2.2 a1).bind fun bt430 => ((laws_toForm.f k a0_0 a0_1 l0_2 l0_3 l0_4).bind fun bt434 => ((impl_ReadForm.f k bt434.1 bt434.2.1 bt434.2.2.1 bt434.2.2.2.1 bt434.2.2.2.2 a1).bind fun bt446 => ((laws_eqInt64S.f k bt446.1 bt430.1).bind fun t450 => (if t450 = true then (laws_FnExactReadForm.j0 k a1 bt430.1 bt430.2 bt446.1 bt446.2 (bt446.2 != bt430.2) a0_0 a0_1 l0_2 l0_3 l0_4 bt434.1 bt434.2.1 bt434.2.2.1 bt434.2.2.2.1 bt434.2.2.2.2) else (none)))))))))) = some r := h
 clear h
 by_cases c3 : (a1.size : Int) > 1048576
 ·rw [if_pos c3] at H
  have c3b0 : decide (1048576 < (a1.size : Int)) = true := decide_eq_true c3
  have c3b1 : decide (1048576 < a1.size) = true := decide_eq_true (by omega)
  clear c3
  obtain rfl := Option.some.inj H
  go_enter Tryz.func6, Tryz.ntmps6
  go_wp2_with (first | ((with_reducible refine gate_dst (N := 2) rfl ?_); refine box_event ?hg (N := 2) ?hd (cs := #[.int .i64 a0_0, .int .i64 a0_1, .slice A0_2 l0_2.length c0_2, .slice A0_3 l0_3.length c0_3, .slice A0_4 l0_4.length c0_4]) (t := 24) ?hr ?_; (case hd => rfl); (case hg => rfl); (case hr => first | (go_simp; done) | (go_simp; rfl)); intro gb417 hg w4 hbox hb; have BK417 := a_ (hbox); have GW417 := a_ ((z32_ : w.heap.size ≤ gb417)); have GE417 := a_ ((z32_ : w.heap.size ≤ gb417)); replace HB := a_ (below_step z33_ hb); clear hb hbox hg))
  go_ret
  exact ⟨z34_, z31_⟩
 ·rw [if_neg c3] at H
  have c3b0 : decide (1048576 < (a1.size : Int)) = false := decide_eq_false c3
  have c3b1 : decide (1048576 < a1.size) = false := decide_eq_false (by omega)
  clear c3
  replace H := Option.bind_eq_some_iff.mp H
  obtain ⟨t418, A50, H⟩ := H
  replace H : (if t418 < 0 then (some true) else ((laws_toForm.f k a0_0 a0_1 l0_2 l0_3 l0_4).bind fun bt419 => ((spec_ReadForm.f k bt419.1 bt419.2.1 bt419.2.2.1 bt419.2.2.2.1 bt419.2.2.2.2 a1).bind fun bt430 => ((laws_toForm.f k a0_0 a0_1 l0_2 l0_3 l0_4).bind fun bt434 => ((impl_ReadForm.f k bt434.1 bt434.2.1 bt434.2.2.1 bt434.2.2.2.1 bt434.2.2.2.2 a1).bind fun bt446 => ((laws_eqInt64S.f k bt446.1 bt430.1).bind fun t450 => (if t450 = true then (laws_FnExactReadForm.j0 k a1 bt430.1 bt430.2 bt446.1 bt446.2 (bt446.2 != bt430.2) a0_0 a0_1 l0_2 l0_3 l0_4 bt434.1 bt434.2.1 bt434.2.2.1 bt434.2.2.2.1 bt434.2.2.2.2) else (none)))))))) = some r := H
  have A5 := Aside0.mk A50
  clear A50
  by_cases c6 : t418 < 0
  ·rw [if_pos c6] at H
   have c6b0 : decide (t418 < 0) = true := decide_eq_true c6
   clear c6
   obtain rfl := Option.some.inj H
   go_enter Tryz.func6, Tryz.ntmps6
   go_wp2_with (first | ((with_reducible refine gate_dst (N := 2) rfl ?_); refine box_event ?hg (N := 2) ?hd (cs := #[.int .i64 a0_0, .int .i64 a0_1, .slice A0_2 l0_2.length c0_2, .slice A0_3 l0_3.length c0_3, .slice A0_4 l0_4.length c0_4]) (t := 24) ?hr ?_; (case hd => rfl); (case hg => rfl); (case hr => first | (go_simp; done) | (go_simp; rfl)); intro gb417 hg w7 hbox hb; have BK417 := a_ (hbox); have GW417 := a_ ((z32_ : w.heap.size ≤ gb417)); have GE417 := a_ ((z32_ : w.heap.size ≤ gb417)); replace HB := a_ (below_step z33_ hb); clear hb hbox hg; obtain ⟨hcz8_0, hcz8_1, hcz8_2, hcz8_3, hcz8_4, hfz8_0, hfz8_1, hfz8_2, hfz8_3, hfz8_4⟩ := cz5_ (w := w7) BK417.out) | ((with_reducible refine gate_callee (f := 7) rfl ?_); refine goesL_ (some 21) rfl rfl Tryz.func7 (by kernel_rfl) rfl #[.agg #[.int .i64 a0_0, .int .i64 a0_1, .slice A0_2 l0_2.length c0_2, .slice A0_3 l0_3.length c0_3, .slice A0_4 l0_4.length c0_4], .int .i64 1048576] rfl z36_ ?_; (with_reducible refine (laws_szForm.calls a0_0 a0_1 _ _ l0_2 _ _ l0_3 _ _ l0_4 1048576 t418 _ ?side1 ?side2 ?side3 ?side4 ?side5 ?side6 A5.out).mono ?_); (case side1 => exact kc_ (Kd.C_below HR0_2.out HB.out)); (case side2 => exact HC0_2.out); (case side3 => exact kc_ (Kd.C_below HR0_3.out HB.out)); (case side4 => exact HC0_3.out); (case side5 => exact kc_ (Kd.C_below HR0_4.out HB.out)); (case side6 => exact HC0_4.out); rintro e w9 ⟨rfl, hb⟩; refine ⟨_, rfl, ?_⟩; replace BK417 := a_ (blk_below (g := gb417) (rb_ BK417.out) hb); replace HB := a_ (below_step z31_ hb); (try clear hb); (try clear hb2); (try clear hk); (try clear hi)))
   go_ret
   exact ⟨z34_, z31_⟩
  ·rw [if_neg c6] at H
   have c6b0 : decide (t418 < 0) = false := decide_eq_false c6
   clear c6
   replace H := Option.bind_eq_some_iff.mp H
   obtain ⟨⟨t419, t420, t421, t424, t427⟩, A100, H⟩ := H
   replace H : ((spec_ReadForm.f k t419 t420 t421 t424 t427 a1).bind fun bt430 => ((laws_toForm.f k a0_0 a0_1 l0_2 l0_3 l0_4).bind fun bt434 => ((impl_ReadForm.f k bt434.1 bt434.2.1 bt434.2.2.1 bt434.2.2.2.1 bt434.2.2.2.2 a1).bind fun bt446 => ((laws_eqInt64S.f k bt446.1 bt430.1).bind fun t450 => (if t450 = true then (laws_FnExactReadForm.j0 k a1 bt430.1 bt430.2 bt446.1 bt446.2 (bt446.2 != bt430.2) a0_0 a0_1 l0_2 l0_3 l0_4 bt434.1 bt434.2.1 bt434.2.2.1 bt434.2.2.2.1 bt434.2.2.2.2) else (none)))))) = some r := H
   have A10 := Aside0.mk A100
   clear A100
   replace H := Option.bind_eq_some_iff.mp H
   obtain ⟨⟨t430, t433⟩, A110, H⟩ := H
   replace H : ((laws_toForm.f k a0_0 a0_1 l0_2 l0_3 l0_4).bind fun bt434 => ((impl_ReadForm.f k bt434.1 bt434.2.1 bt434.2.2.1 bt434.2.2.2.1 bt434.2.2.2.2 a1).bind fun bt446 => ((laws_eqInt64S.f k bt446.1 t430).bind fun t450 => (if t450 = true then (laws_FnExactReadForm.j0 k a1 t430 t433 bt446.1 bt446.2 (bt446.2 != t433) a0_0 a0_1 l0_2 l0_3 l0_4 bt434.1 bt434.2.1 bt434.2.2.1 bt434.2.2.2.1 bt434.2.2.2.2) else (none))))) = some r := H
   have A11 := Aside0.mk A110
   clear A110
   replace H := Option.bind_eq_some_iff.mp H
   obtain ⟨⟨t434, t435, t436, t439, t442⟩, A120, H⟩ := H
   replace H : ((impl_ReadForm.f k t434 t435 t436 t439 t442 a1).bind fun bt446 => ((laws_eqInt64S.f k bt446.1 t430).bind fun t450 => (if t450 = true then (laws_FnExactReadForm.j0 k a1 t430 t433 bt446.1 bt446.2 (bt446.2 != t433) a0_0 a0_1 l0_2 l0_3 l0_4 t434 t435 t436 t439 t442) else (none)))) = some r := H
   have A12 := Aside0.mk A120
   clear A120
   replace H := Option.bind_eq_some_iff.mp H
   obtain ⟨⟨t446, t449⟩, A130, H⟩ := H
   replace H : ((laws_eqInt64S.f k t446 t430).bind fun t450 => (if t450 = true then (laws_FnExactReadForm.j0 k a1 t430 t433 t446 t449 (t449 != t433) a0_0 a0_1 l0_2 l0_3 l0_4 t434 t435 t436 t439 t442) else (none))) = some r := H
   have A13 := Aside0.mk A130
   clear A130
   have HC14 := Aside0.mk H
   clear H
   go_enter Tryz.func6, Tryz.ntmps6
   go_upto_region 10 with (first | ((with_reducible refine gate_dst (N := 2) rfl ?_); refine box_event ?hg (N := 2) ?hd (cs := #[.int .i64 a0_0, .int .i64 a0_1, .slice A0_2 l0_2.length c0_2, .slice A0_3 l0_3.length c0_3, .slice A0_4 l0_4.length c0_4]) (t := 24) ?hr ?_; (case hd => rfl); (case hg => rfl); (case hr => first | (go_simp; done) | (go_simp; rfl)); intro gb417 hg w15 hbox hb; have BK417 := a_ (hbox); have GW417 := a_ ((z32_ : w.heap.size ≤ gb417)); have GE417 := a_ ((z32_ : w.heap.size ≤ gb417)); replace HB := a_ (below_step z33_ hb); clear hb hbox hg; obtain ⟨hcz16_0, hcz16_1, hcz16_2, hcz16_3, hcz16_4, hfz16_0, hfz16_1, hfz16_2, hfz16_3, hfz16_4⟩ := cz5_ (w := w15) BK417.out) | ((with_reducible refine gate_callee (f := 7) rfl ?_); refine goesL_ (some 21) rfl rfl Tryz.func7 (by kernel_rfl) rfl #[.agg #[.int .i64 a0_0, .int .i64 a0_1, .slice A0_2 l0_2.length c0_2, .slice A0_3 l0_3.length c0_3, .slice A0_4 l0_4.length c0_4], .int .i64 1048576] rfl z36_ ?_; (with_reducible refine (laws_szForm.calls a0_0 a0_1 _ _ l0_2 _ _ l0_3 _ _ l0_4 1048576 t418 _ ?side1 ?side2 ?side3 ?side4 ?side5 ?side6 A5.out).mono ?_); (case side1 => exact kc_ (Kd.C_below HR0_2.out HB.out)); (case side2 => exact HC0_2.out); (case side3 => exact kc_ (Kd.C_below HR0_3.out HB.out)); (case side4 => exact HC0_3.out); (case side5 => exact kc_ (Kd.C_below HR0_4.out HB.out)); (case side6 => exact HC0_4.out); rintro e w17 ⟨rfl, hb⟩; refine ⟨_, rfl, ?_⟩; replace BK417 := a_ (blk_below (g := gb417) (rb_ BK417.out) hb); replace HB := a_ (below_step z31_ hb); (try clear hb); (try clear hb2); (try clear hk); (try clear hi); obtain ⟨hcz18_0, hcz18_1, hcz18_2, hcz18_3, hcz18_4, hfz18_0, hfz18_1, hfz18_2, hfz18_3, hfz18_4⟩ := cz5_ (w := w17) BK417.out) | ((with_reducible refine gate_callee (f := 9) rfl ?_); refine goesL_ (some 26) rfl rfl Tryz.func9 (by kernel_rfl) rfl #[.agg #[.int .i64 a0_0, .int .i64 a0_1, .slice A0_2 l0_2.length c0_2, .slice A0_3 l0_3.length c0_3, .slice A0_4 l0_4.length c0_4]] rfl z36_ ?_; (with_reducible refine (laws_toForm.calls k a0_0 a0_1 _ _ l0_2 _ _ l0_3 _ _ l0_4 t419 t420 t421 t424 t427 _ ?side1 ?side2 ?side3 ?side4 ?side5 ?side6 A10.out).mono ?_); (case side1 => exact kc_ (Kd.C_below HR0_2.out HB.out)); (case side2 => exact HC0_2.out); (case side3 => exact kc_ (Kd.C_below HR0_3.out HB.out)); (case side4 => exact HC0_3.out); (case side5 => exact kc_ (Kd.C_below HR0_4.out HB.out)); (case side6 => exact HC0_4.out); rintro e w19 ⟨v422, v425, v428, rfl, ho0, ho1, ho2, hb⟩; refine ⟨_, rfl, ?_⟩; have HO423 := a_ (Kd.R_lower ho0 (below_size z31_)); have HO426 := a_ (Kd.R_lower ho1 (below_size z31_)); have HO429 := a_ (Kd.R_lower ho2 (below_size z31_)); replace BK417 := a_ (blk_below (g := gb417) (rb_ BK417.out) hb); replace HB := a_ (below_step z31_ hb); (try clear hb); (try clear hb2); (try clear hk); (try clear hi); (try clear ho0); (try clear ho1); (try clear ho2); obtain ⟨Ao20, co20, eo20⟩ := Kd.R_slice HO423.out; subst eo20; obtain ⟨Ao21, co21, eo21⟩ := Kd.R_slice HO426.out; subst eo21; obtain ⟨Ao22, co22, eo22⟩ := Kd.R_slice HO429.out; subst eo22) | ((with_reducible refine gate_callee (f := 24) rfl ?_); refine goesL_ (some 28) rfl rfl Tryz.func24 (by kernel_rfl) rfl #[.agg #[.int .i64 t419, .int .i64 t420, .slice Ao20 t421.length co20, .slice Ao21 t424.length co21, .slice Ao22 t427.length co22], .string a1] rfl z36_ ?_; (with_reducible refine (spec_ReadForm.calls k t419 t420 _ _ t421 _ _ t424 _ _ t427 a1 t430 t433 _ ?side1 ?side2 ?side3 ?side4 ?side5 ?side6 A11.out).mono ?_); (case side1 => exact (by (repeat (first | exact (Kd.R_reads' HO423.out).2.2 | (with_reducible refine Kd.C_alloc ?_ _) | (with_reducible refine Kd.C_drewN ?_ _) | (with_reducible refine Kd.C_drew ?_))); first | done | fail)); (case side2 => exact (Kd.R_reads' HO423.out).2.1); (case side3 => exact (by (repeat (first | exact (Kd.R_reads' HO426.out).2.2 | (with_reducible refine Kd.C_alloc ?_ _) | (with_reducible refine Kd.C_drewN ?_ _) | (with_reducible refine Kd.C_drew ?_))); first | done | fail)); (case side4 => exact (Kd.R_reads' HO426.out).2.1); (case side5 => exact (by (repeat (first | exact (Kd.R_reads' HO429.out).2.2 | (with_reducible refine Kd.C_alloc ?_ _) | (with_reducible refine Kd.C_drewN ?_ _) | (with_reducible refine Kd.C_drew ?_))); first | done | fail)); (case side6 => exact (Kd.R_reads' HO429.out).2.1); rintro e w23 ⟨v431, rfl, ho0, hb⟩; refine ⟨_, rfl, ?_⟩; have HO432 := a_ (Kd.R_lower (Kd.R_new' (Kd.R_new' (Kd.R_new' ho0 (Kd.R_lt (ra_ HO423.out))) (Kd.R_lt (ra_ HO426.out))) (Kd.R_lt (ra_ HO429.out))) (below_size z31_)); replace HO423 := a_ (Kd.R_elder' (ra_ HO423.out) (Kd.R_base ho0) hb); replace HO426 := a_ (Kd.R_elder' (ra_ HO426.out) (Kd.R_base ho0) hb); replace HO429 := a_ (Kd.R_elder' (ra_ HO429.out) (Kd.R_base ho0) hb); replace BK417 := a_ (blk_below (g := gb417) (rb_ BK417.out) hb); replace HB := a_ (below_step z31_ hb); (try clear hb); (try clear hb2); (try clear hk); (try clear hi); (try clear ho0); obtain ⟨hcz24_0, hcz24_1, hcz24_2, hcz24_3, hcz24_4, hfz24_0, hfz24_1, hfz24_2, hfz24_3, hfz24_4⟩ := cz5_ (w := w23) BK417.out) | ((with_reducible refine gate_callee (f := 9) rfl ?_); refine goesL_ (some 32) rfl rfl Tryz.func9 (by kernel_rfl) rfl #[.agg #[.int .i64 a0_0, .int .i64 a0_1, .slice A0_2 l0_2.length c0_2, .slice A0_3 l0_3.length c0_3, .slice A0_4 l0_4.length c0_4]] rfl z36_ ?_; (with_reducible refine (laws_toForm.calls k a0_0 a0_1 _ _ l0_2 _ _ l0_3 _ _ l0_4 t434 t435 t436 t439 t442 _ ?side1 ?side2 ?side3 ?side4 ?side5 ?side6 A12.out).mono ?_); (case side1 => exact kc_ (Kd.C_below HR0_2.out HB.out)); (case side2 => exact HC0_2.out); (case side3 => exact kc_ (Kd.C_below HR0_3.out HB.out)); (case side4 => exact HC0_3.out); (case side5 => exact kc_ (Kd.C_below HR0_4.out HB.out)); (case side6 => exact HC0_4.out); rintro e w25 ⟨v437, v440, v443, rfl, ho0, ho1, ho2, hb⟩; refine ⟨_, rfl, ?_⟩; have HO438 := a_ (Kd.R_lower (Kd.R_new' (Kd.R_new' (Kd.R_new' (Kd.R_new' ho0 (Kd.R_lt (ra_ HO423.out))) (Kd.R_lt (ra_ HO426.out))) (Kd.R_lt (ra_ HO429.out))) (Kd.R_lt (ra_ HO432.out))) (below_size z31_)); have HO441 := a_ (Kd.R_lower (Kd.R_new' (Kd.R_new' (Kd.R_new' (Kd.R_new' ho1 (Kd.R_lt (ra_ HO423.out))) (Kd.R_lt (ra_ HO426.out))) (Kd.R_lt (ra_ HO429.out))) (Kd.R_lt (ra_ HO432.out))) (below_size z31_)); have HO444 := a_ (Kd.R_lower (Kd.R_new' (Kd.R_new' (Kd.R_new' (Kd.R_new' ho2 (Kd.R_lt (ra_ HO423.out))) (Kd.R_lt (ra_ HO426.out))) (Kd.R_lt (ra_ HO429.out))) (Kd.R_lt (ra_ HO432.out))) (below_size z31_)); replace HO423 := a_ (Kd.R_mono (Kd.R_told (Kd.R_told (Kd.R_told (Kd.R_old (ra_ HO423.out) hb) (Kd.R_base ho0)) (Kd.R_base ho1)) (Kd.R_base ho2)) (fun _ h_ => h_.1)); replace HO426 := a_ (Kd.R_mono (Kd.R_told (Kd.R_told (Kd.R_told (Kd.R_old (ra_ HO426.out) hb) (Kd.R_base ho0)) (Kd.R_base ho1)) (Kd.R_base ho2)) (fun _ h_ => h_.1)); replace HO429 := a_ (Kd.R_mono (Kd.R_told (Kd.R_told (Kd.R_told (Kd.R_old (ra_ HO429.out) hb) (Kd.R_base ho0)) (Kd.R_base ho1)) (Kd.R_base ho2)) (fun _ h_ => h_.1)); replace HO432 := a_ (Kd.R_mono (Kd.R_told (Kd.R_told (Kd.R_told (Kd.R_old (ra_ HO432.out) hb) (Kd.R_base ho0)) (Kd.R_base ho1)) (Kd.R_base ho2)) (fun _ h_ => h_.1)); replace BK417 := a_ (blk_below (g := gb417) (rb_ BK417.out) hb); replace HB := a_ (below_step z31_ hb); (try clear hb); (try clear hb2); (try clear hk); (try clear hi); (try clear ho0); (try clear ho1); (try clear ho2)) | ((with_reducible refine gate_dst (N := 8) rfl ?_); refine box_event ?hg (N := 8) ?hd (cs := #[.int .i64 0, .int .i64 0, .slice none 0 0, .slice none 0 0, .slice none 0 0]) (t := 28) ?hr ?_; (case hd => rfl); (case hg => rfl); (case hr => first | (go_simp; done) | (go_simp; rfl)); intro gb445 hg w26 hbox hb; replace HO423 := a_ (Kd.R_below (ra_ HO423.out) hb); replace HO426 := a_ (Kd.R_below (ra_ HO426.out) hb); replace HO429 := a_ (Kd.R_below (ra_ HO429.out) hb); replace HO432 := a_ (Kd.R_below (ra_ HO432.out) hb); replace HO438 := a_ (Kd.R_below (ra_ HO438.out) hb); replace HO441 := a_ (Kd.R_below (ra_ HO441.out) hb); replace HO444 := a_ (Kd.R_below (ra_ HO444.out) hb); have BK445 := a_ (hbox); have GW445 := a_ ((by rw [hg]; exact (below_size z31_) : w.heap.size ≤ gb445)); have GE445 := a_ ((by rw [hg]; exact (below_size z31_) : w.heap.size ≤ gb445)); replace HB := a_ (below_step z31_ hb); have NB417_445 := a_ ((by rw [hg]; exact Nat.ne_of_lt (blk_lt (g := gb417) (rb_ BK417.out)) : gb417 ≠ gb445)); have NB445_417 := a_ ((by rw [hg]; exact Nat.ne_of_gt (blk_lt (g := gb417) (rb_ BK417.out)) : gb445 ≠ gb417)); replace BK417 := a_ (blk_below (g := gb417) (rb_ BK417.out) hb); clear hb hbox hg; have hnb27 := NB445_417.out; have hnc27 := NB417_445.out; obtain ⟨hcz28_0, hcz28_1, hcz28_2, hcz28_3, hcz28_4, hfz28_0, hfz28_1, hfz28_2, hfz28_3, hfz28_4⟩ := cz5_ (w := w26) BK445.out; obtain ⟨Ao29, co29, eo29⟩ := Kd.R_slice HO438.out; subst eo29; obtain ⟨Ao30, co30, eo30⟩ := Kd.R_slice HO441.out; subst eo30; obtain ⟨Ao31, co31, eo31⟩ := Kd.R_slice HO444.out; subst eo31) | ((with_reducible refine gate_callee (f := 22) rfl ?_); refine goesL_ (some 36) rfl rfl Tryz.func22 (by kernel_rfl) rfl #[.agg #[.int .i64 t434, .int .i64 t435, .slice Ao29 t436.length co29, .slice Ao30 t439.length co30, .slice Ao31 t442.length co31], .string a1] rfl z36_ ?_; (with_reducible refine (impl_ReadForm.calls k t434 t435 _ _ t436 _ _ t439 _ _ t442 a1 t446 t449 _ ?side1 ?side2 ?side3 ?side4 ?side5 ?side6 A13.out).mono ?_); (case side1 => refine (Kd.R_reads' (e := 2) (base := w.heap.size) (ok := fun k_ => (((((nb_ k_ Ao30 t439.length co30 ∧ nb_ k_ Ao31 t442.length co31) ∧ nb_ k_ Ao20 t421.length co20) ∧ nb_ k_ Ao21 t424.length co21) ∧ nb_ k_ Ao22 t427.length co22) ∧ some k_ ≠ (v431 : Value).ownBlock)) (n := t436.length) (c := co29) ?_).2.2; exact (rc_ (h := by exact Kd.R_mono (rt5_ HO438.out BK445.out) (fun _ h_ => h_.1)))); (case side2 => exact (Kd.R_reads' HO438.out).2.1); (case side3 => refine (Kd.R_reads' (e := 2) (base := w.heap.size) (ok := fun k_ => (((((nb_ k_ Ao29 t436.length co29 ∧ nb_ k_ Ao31 t442.length co31) ∧ nb_ k_ Ao20 t421.length co20) ∧ nb_ k_ Ao21 t424.length co21) ∧ nb_ k_ Ao22 t427.length co22) ∧ some k_ ≠ (v431 : Value).ownBlock)) (n := t439.length) (c := co30) ?_).2.2; exact (rc_ (h := by exact Kd.R_mono (rt5_ HO441.out BK445.out) (fun _ h_ => h_.1)))); (case side4 => exact (Kd.R_reads' HO441.out).2.1); (case side5 => refine (Kd.R_reads' (e := 2) (base := w.heap.size) (ok := fun k_ => (((((nb_ k_ Ao29 t436.length co29 ∧ nb_ k_ Ao30 t439.length co30) ∧ nb_ k_ Ao20 t421.length co20) ∧ nb_ k_ Ao21 t424.length co21) ∧ nb_ k_ Ao22 t427.length co22) ∧ some k_ ≠ (v431 : Value).ownBlock)) (n := t442.length) (c := co31) ?_).2.2; exact (rc_ (h := by exact Kd.R_mono (rt5_ HO444.out BK445.out) (fun _ h_ => h_.1)))); (case side6 => exact (Kd.R_reads' HO444.out).2.1); rintro e w32 ⟨v447, rfl, ho0, hb⟩; refine ⟨_, rfl, ?_⟩; have HO448 := a_ (Kd.R_lower (Kd.R_new' (Kd.R_new' (Kd.R_new' (Kd.R_new' (Kd.R_new' (Kd.R_new' (Kd.R_new' ho0 (Kd.R_lt (rc_ (h := by exact Kd.R_mono (rt5_ HO423.out BK445.out) (fun _ h_ => h_.1))))) (Kd.R_lt (rc_ (h := by exact Kd.R_mono (rt5_ HO426.out BK445.out) (fun _ h_ => h_.1))))) (Kd.R_lt (rc_ (h := by exact Kd.R_mono (rt5_ HO429.out BK445.out) (fun _ h_ => h_.1))))) (Kd.R_lt (rc_ (h := by exact Kd.R_mono (rt5_ HO432.out BK445.out) (fun _ h_ => h_.1))))) (Kd.R_lt (rc_ (h := by exact Kd.R_mono (rt5_ HO438.out BK445.out) (fun _ h_ => h_.1))))) (Kd.R_lt (rc_ (h := by exact Kd.R_mono (rt5_ HO441.out BK445.out) (fun _ h_ => h_.1))))) (Kd.R_lt (rc_ (h := by exact Kd.R_mono (rt5_ HO444.out BK445.out) (fun _ h_ => h_.1))))) (below_size z9_)); replace HO423 := a_ (Kd.R_elder' (rc_ (h := by exact Kd.R_mono (rt5_ HO423.out BK445.out) (fun _ h_ => h_.1))) (Kd.R_base ho0) hb); replace HO426 := a_ (Kd.R_elder' (rc_ (h := by exact Kd.R_mono (rt5_ HO426.out BK445.out) (fun _ h_ => h_.1))) (Kd.R_base ho0) hb); replace HO429 := a_ (Kd.R_elder' (rc_ (h := by exact Kd.R_mono (rt5_ HO429.out BK445.out) (fun _ h_ => h_.1))) (Kd.R_base ho0) hb); replace HO432 := a_ (Kd.R_elder' (rc_ (h := by exact Kd.R_mono (rt5_ HO432.out BK445.out) (fun _ h_ => h_.1))) (Kd.R_base ho0) hb); replace HO438 := a_ (Kd.R_elder' (rc_ (h := by exact Kd.R_mono (rt5_ HO438.out BK445.out) (fun _ h_ => h_.1))) (Kd.R_base ho0) hb); replace HO441 := a_ (Kd.R_elder' (rc_ (h := by exact Kd.R_mono (rt5_ HO441.out BK445.out) (fun _ h_ => h_.1))) (Kd.R_base ho0) hb); replace HO444 := a_ (Kd.R_elder' (rc_ (h := by exact Kd.R_mono (rt5_ HO444.out BK445.out) (fun _ h_ => h_.1))) (Kd.R_base ho0) hb); replace BK417 := a_ (blk_below (g := gb417) (o := .cells #[.int .i64 a0_0, .int .i64 a0_1, .slice A0_2 l0_2.length c0_2, .slice A0_3 l0_3.length c0_3, .slice A0_4 l0_4.length c0_4] 24 (0, 0)) (rb2_ (h := by exact bf5_ NB417_445.out BK417.out)) hb); replace BK445 := a_ (blk_below (g := gb445) (o := .cells #[.int .i64 t434, .int .i64 t435, .slice Ao29 t436.length co29, .slice Ao30 t439.length co30, .slice Ao31 t442.length co31] 28 (0, 0)) (rb2_ (h := by exact bp5x5_ BK445.out)) hb); replace HB := a_ (below_step z9_ hb); (try clear hb); (try clear hb2); (try clear hk); (try clear hi); (try clear ho0)))
   (try simp only [Act.put, List.setIfInBounds_toArray, List.set_cons_zero, List.set_cons_succ])
   go_cut [47] (fun v47 wc => ∃ (kq : Nat) (x47_13 : Bool), v47 = .bool x47_13 ∧ Aside0 (laws_FnExactReadForm.j0 kq a1 t430 t433 t446 t449 x47_13 a0_0 a0_1 l0_2 l0_3 l0_4 t434 t435 t436 t439 t442 = some r) ∧ Aside0 (kq ≤ k) ∧ Aside0 (Kd.R (Kd.int .i64) 2 wc w.heap.size (fun k_ => some k_ ≠ (v447 : Value).ownBlock ∧ nb_ k_ Ao29 t436.length co29 ∧ nb_ k_ Ao30 t439.length co30 ∧ nb_ k_ Ao31 t442.length co31) v431 t430) ∧ Aside0 (Kd.R (Kd.int .i64) 2 wc w.heap.size (fun k_ => some k_ ≠ (v431 : Value).ownBlock ∧ nb_ k_ Ao29 t436.length co29 ∧ nb_ k_ Ao30 t439.length co30 ∧ nb_ k_ Ao31 t442.length co31) v447 t446) ∧ Aside0 (Kd.R (Kd.int .i64) 2 wc w.heap.size (fun k_ => some k_ ≠ (v431 : Value).ownBlock ∧ some k_ ≠ (v447 : Value).ownBlock ∧ nb_ k_ Ao30 t439.length co30 ∧ nb_ k_ Ao31 t442.length co31) (.slice Ao29 t436.length co29) t436) ∧ Aside0 (Kd.R (Kd.int .i64) 2 wc w.heap.size (fun k_ => some k_ ≠ (v431 : Value).ownBlock ∧ some k_ ≠ (v447 : Value).ownBlock ∧ nb_ k_ Ao29 t436.length co29 ∧ nb_ k_ Ao31 t442.length co31) (.slice Ao30 t439.length co30) t439) ∧ Aside0 (Kd.R (Kd.int .i64) 2 wc w.heap.size (fun k_ => some k_ ≠ (v431 : Value).ownBlock ∧ some k_ ≠ (v447 : Value).ownBlock ∧ nb_ k_ Ao29 t436.length co29 ∧ nb_ k_ Ao30 t439.length co30) (.slice Ao31 t442.length co31) t442) ∧ Aside0 (wc.heap[gb417]? = some (.cells #[.int .i64 a0_0, .int .i64 a0_1, (.slice A0_2 l0_2.length c0_2), (.slice A0_3 l0_3.length c0_3), (.slice A0_4 l0_4.length c0_4)] 24 (0, 0))) ∧ Aside0 (wc.heap[gb445]? = some (.cells #[.int .i64 t434, .int .i64 t435, (.slice Ao29 t436.length co29), (.slice Ao30 t439.length co30), (.slice Ao31 t442.length co31)] 28 (0, 0))) ∧ Aside0 (Below w.heap.size w wc))
   case first =>
    have H := HC14.out
    clear HC14
    replace H := Option.bind_eq_some_iff.mp H
    obtain ⟨t450, A330, H⟩ := H
    replace H : (if t450 = true then (laws_FnExactReadForm.j0 k a1 t430 t433 t446 t449 (t449 != t433) a0_0 a0_1 l0_2 l0_3 l0_4 t434 t435 t436 t439 t442) else (none)) = some r := H
    have A33 := Aside0.mk A330
    clear A330
    by_cases c34 : t450 = true
    ·subst c34
     have H1 : (laws_FnExactReadForm.j0 k a1 t430 t433 t446 t449 (t449 != t433) a0_0 a0_1 l0_2 l0_3 l0_4 t434 t435 t436 t439 t442) = some r := by rw [if_pos rfl] at H; exact H
     clear H
     have H := H1
     clear H1
     have H' := Aside0.mk H
     clear H
     obtain ⟨Ao35, co35, eo35⟩ := Kd.R_slice HO448.out
     subst eo35
     obtain ⟨Ao36, co36, eo36⟩ := Kd.R_slice HO432.out
     subst eo36
     go_wp2_with (first | ((with_reducible refine gate_callee (f := 31) rfl ?_); refine goesL_ (some 41) rfl rfl Tryz.func31 (by kernel_rfl) rfl #[.slice Ao35 t446.length co35, .slice Ao36 t430.length co36] rfl z36_ ?_; (with_reducible refine (laws_eqInt64S.calls k _ _ t446 _ _ t430 true _ ?side1 ?side2 ?side3 ?side4 A33.out).mono ?_); (case side1 => exact (by (repeat (first | exact (Kd.R_reads' HO448.out).2.2 | (with_reducible refine Kd.C_alloc ?_ _) | (with_reducible refine Kd.C_drewN ?_ _) | (with_reducible refine Kd.C_drew ?_))); first | done | fail)); (case side2 => exact (Kd.R_reads' HO448.out).2.1); (case side3 => exact (by (repeat (first | exact (Kd.R_reads' HO432.out).2.2 | (with_reducible refine Kd.C_alloc ?_ _) | (with_reducible refine Kd.C_drewN ?_ _) | (with_reducible refine Kd.C_drew ?_))); first | done | fail)); (case side4 => exact (Kd.R_reads' HO432.out).2.1); rintro e w' ⟨rfl, ⟨nd, rfl⟩⟩; refine ⟨_, rfl, ?_⟩))
     go_meet
     case rel => exact ⟨_, ((t449 != t433)), z78_, H', ⟨z80_⟩, ⟨by (with_reducible repeat (first | apply Kd.R_alloc | apply Kd.R_drewN | apply Kd.R_drew)); exact Kd.R_mono HO432.out (fun _ hk => ⟨hk.2, ⟨hk.1.1.1.2, ⟨hk.1.1.2, hk.1.2⟩⟩⟩)⟩, ⟨by (with_reducible repeat (first | apply Kd.R_alloc | apply Kd.R_drewN | apply Kd.R_drew)); exact Kd.R_mono HO448.out (fun _ hk => ⟨hk.1.1.1.2, ⟨hk.1.1.2, ⟨hk.1.2, hk.2⟩⟩⟩)⟩, ⟨by (with_reducible repeat (first | apply Kd.R_alloc | apply Kd.R_drewN | apply Kd.R_drew)); exact Kd.R_mono HO438.out (fun _ hk => ⟨hk.1.2, ⟨hk.2, ⟨hk.1.1.1.1.1.1, hk.1.1.1.1.1.2⟩⟩⟩)⟩, ⟨by (with_reducible repeat (first | apply Kd.R_alloc | apply Kd.R_drewN | apply Kd.R_drew)); exact Kd.R_mono HO441.out (fun _ hk => ⟨hk.1.2, ⟨hk.2, ⟨hk.1.1.1.1.1.1, hk.1.1.1.1.1.2⟩⟩⟩)⟩, ⟨by (with_reducible repeat (first | apply Kd.R_alloc | apply Kd.R_drewN | apply Kd.R_drew)); exact Kd.R_mono HO444.out (fun _ hk => ⟨hk.1.2, ⟨hk.2, ⟨hk.1.1.1.1.1.1, hk.1.1.1.1.1.2⟩⟩⟩)⟩, ⟨by (with_reducible repeat (first | refine blk_drewN ?_ _ | refine blk_drew ?_ | refine blk_alloc ?_ _)); exact BK417.out⟩, ⟨by (with_reducible repeat (first | refine blk_drewN ?_ _ | refine blk_drew ?_ | refine blk_alloc ?_ _)); exact BK445.out⟩, ⟨z9_⟩⟩
    ·replace c34 := Bool.eq_false_iff.mpr c34
     subst c34
     have H1 : (none) = some r := by rw [if_neg (show ¬ (false = true) by decide)] at H; exact H
     clear H
     have H := H1
     clear H1
     exact absurd H (by simp)
   case rest =>
    clear HC14; try clear c3b0; try clear c3b1; try clear c6b0; try clear hcz16_0 hcz16_1 hcz16_2 hcz16_3 hcz16_4; try clear hcz18_0 hcz18_1 hcz18_2 hcz18_3 hcz18_4; try clear hcz24_0 hcz24_1 hcz24_2 hcz24_3 hcz24_4; try clear hcz28_0 hcz28_1 hcz28_2 hcz28_3 hcz28_4; try clear hfz16_0 hfz16_1 hfz16_2 hfz16_3 hfz16_4; try clear hfz18_0 hfz18_1 hfz18_2 hfz18_3 hfz18_4; try clear hfz24_0 hfz24_1 hfz24_2 hfz24_3 hfz24_4; try clear hfz28_0 hfz28_1 hfz28_2 hfz28_3 hfz28_4
    obtain ⟨kq, x47_13, rfl, HA, HJ13, HO_6, HO_9, HO_446002, HO_446003, HO_446004, BK417, BK445, HB⟩ := hcut
    cases kq with
    | zero => exact absurd HA.out (by simp [laws_FnExactReadForm.j0])
    | succ kj13 =>
     have H := HA.out
     clear HA
     simp only [laws_FnExactReadForm.j0] at H
     by_cases c37 : x47_13 = true
     ·subst c37
      have H1 : (none) = some r := by rw [if_pos rfl] at H; exact H
      clear H
      have H := H1
      clear H1
      exact absurd H (by simp)
     ·replace c37 := Bool.eq_false_iff.mpr c37
      subst c37
      have H1 : ((laws_toForm.f kj13 a0_0 a0_1 l0_2 l0_3 l0_4).bind fun bt451 => ((laws_eqForm.f kj13 t434 t435 t436 t439 t442 bt451.1 bt451.2.1 bt451.2.2.1 bt451.2.2.2.1 bt451.2.2.2.2).bind fun t462 => (if t462 = true then ((laws_markForm.f kj13 t434 t435 t436 t439 t442 1).bind fun bt463 => (if bt463.1 < 0 then (none) else ((laws_eqInt64S.f kj13 t446 t430).bind fun t467 => (if t467 = true then (laws_FnExactReadForm.j1 kj13 a1 t430 t433 t446 (t449 != t433) a0_0 a0_1 l0_2 l0_3 l0_4) else (none))))) else (none)))) = some r := by rw [if_neg (show ¬ (false = true) by decide)] at H; exact H
      clear H
      have H := H1
      clear H1
      replace H := Option.bind_eq_some_iff.mp H
      obtain ⟨⟨t451, t452, t453, t456, t459⟩, A380, H⟩ := H
      replace H : ((laws_eqForm.f kj13 t434 t435 t436 t439 t442 t451 t452 t453 t456 t459).bind fun t462 => (if t462 = true then ((laws_markForm.f kj13 t434 t435 t436 t439 t442 1).bind fun bt463 => (if bt463.1 < 0 then (none) else ((laws_eqInt64S.f kj13 t446 t430).bind fun t467 => (if t467 = true then (laws_FnExactReadForm.j1 kj13 a1 t430 t433 t446 (t449 != t433) a0_0 a0_1 l0_2 l0_3 l0_4) else (none))))) else (none))) = some r := H
      have A38 := Aside0.mk A380
      clear A380
      replace H := Option.bind_eq_some_iff.mp H
      obtain ⟨t462, A390, H⟩ := H
      replace H : (if t462 = true then ((laws_markForm.f kj13 t434 t435 t436 t439 t442 1).bind fun bt463 => (if bt463.1 < 0 then (none) else ((laws_eqInt64S.f kj13 t446 t430).bind fun t467 => (if t467 = true then (laws_FnExactReadForm.j1 kj13 a1 t430 t433 t446 (t449 != t433) a0_0 a0_1 l0_2 l0_3 l0_4) else (none))))) else (none)) = some r := H
      have A39 := Aside0.mk A390
      clear A390
      by_cases c40 : t462 = true
      ·subst c40
       have H1 : ((laws_markForm.f kj13 t434 t435 t436 t439 t442 1).bind fun bt463 => (if bt463.1 < 0 then (none) else ((laws_eqInt64S.f kj13 t446 t430).bind fun t467 => (if t467 = true then (laws_FnExactReadForm.j1 kj13 a1 t430 t433 t446 (t449 != t433) a0_0 a0_1 l0_2 l0_3 l0_4) else (none))))) = some r := by rw [if_pos rfl] at H; exact H
       clear H
       have H := H1
       clear H1
       replace H := Option.bind_eq_some_iff.mp H
       obtain ⟨⟨t463, t464, t465, t466⟩, A410, H⟩ := H
       replace H : (if t463 < 0 then (none) else ((laws_eqInt64S.f kj13 t446 t430).bind fun t467 => (if t467 = true then (laws_FnExactReadForm.j1 kj13 a1 t430 t433 t446 (t449 != t433) a0_0 a0_1 l0_2 l0_3 l0_4) else (none)))) = some r := H
       have A41 := Aside0.mk A410
       clear A410
       have HC42 := Aside0.mk H
       clear H
       try go_wp2
       replace HO_6 := a_ (Kd.R_drew HO_6.out)
       replace HO_9 := a_ (Kd.R_drew HO_9.out)
       replace HO_446002 := a_ (Kd.R_drew HO_446002.out)
       replace HO_446003 := a_ (Kd.R_drew HO_446003.out)
       replace HO_446004 := a_ (Kd.R_drew HO_446004.out)
       replace BK417 := a_ (blk_drew BK417.out)
       replace BK445 := a_ (blk_drew BK445.out)
       replace HB := a_ (below_drew1 HB.out)
       refine start_ (n := 5) (S := fun w' => w'.cell? ⟨gb445, 0, none⟩ = some (.int .i64 t434) ∧ w'.cell? ⟨gb445, 1, none⟩ = some (.int .i64 t435) ∧ w'.cell? ⟨gb445, 2, none⟩ = some (.slice Ao29 t436.length co29) ∧ w'.cell? ⟨gb445, 3, none⟩ = some (.slice Ao30 t439.length co30) ∧ w'.cell? ⟨gb445, 4, none⟩ = some (.slice Ao31 t442.length co31) ∧ w'.cell? ⟨gb417, 0, none⟩ = some (.int .i64 a0_0) ∧ w'.cell? ⟨gb417, 1, none⟩ = some (.int .i64 a0_1) ∧ w'.cell? ⟨gb417, 2, none⟩ = some (.slice A0_2 l0_2.length c0_2) ∧ w'.cell? ⟨gb417, 3, none⟩ = some (.slice A0_3 l0_3.length c0_3) ∧ w'.cell? ⟨gb417, 4, none⟩ = some (.slice A0_4 l0_4.length c0_4)) (ds := []) #[false, false, false, false, false] (by kernel_rfl) rfl rfl ⟨(blk_cell BK445.out 0).trans rfl, (blk_cell BK445.out 1).trans rfl, (blk_cell BK445.out 2).trans rfl, (blk_cell BK445.out 3).trans rfl, (blk_cell BK445.out 4).trans rfl, (blk_cell BK417.out 0).trans rfl, (blk_cell BK417.out 1).trans rfl, (blk_cell BK417.out 2).trans rfl, (blk_cell BK417.out 3).trans rfl, (blk_cell BK417.out 4).trans rfl⟩ (fun hHeld => ?_)
       generalize wc.drew = w43 at HO_6 HO_9 HO_446002 HO_446003 HO_446004 BK417 BK445 HB hHeld ⊢
       refine tk10_ (i := 0) (N := some 48) #[true, false, false, false, false] hHeld ?_ (hc := (by kernel_rfl))
       refine tk10_ (i := 1) (N := some 49) #[true, true, false, false, false] hHeld ?_ (hc := (by kernel_rfl))
       refine one_ (i := 2) (N := some 50) #[true, true, true, false, false] rfl rfl (by kernel_rfl) (by decide) (fun K hK => ?_)
       refine goes_ Tryz.func9 (by kernel_rfl) rfl #[.agg #[.int .i64 a0_0, .int .i64 a0_1, .slice A0_2 l0_2.length c0_2, .slice A0_3 l0_3.length c0_3, .slice A0_4 l0_4.length c0_4]] (by rfl) rfl rfl z36_ ?_
       with_reducible refine (laws_toForm.calls kj13 a0_0 a0_1 _ _ l0_2 _ _ l0_3 _ _ l0_4 t451 t452 t453 t456 t459 _ ?side1 ?side2 ?side3 ?side4 ?side5 ?side6 A38.out).mono ?_
       (case side1 => exact kc_ (Kd.C_below HR0_2.out HB.out))
       (case side2 => exact HC0_2.out)
       (case side3 => exact kc_ (Kd.C_below HR0_3.out HB.out))
       (case side4 => exact HC0_3.out)
       (case side5 => exact kc_ (Kd.C_below HR0_4.out HB.out))
       (case side6 => exact HC0_4.out)
       rintro e w44 ⟨v454, v457, v460, rfl, ho0, ho1, ho2, hb⟩
       refine ⟨_, rfl, ?_⟩
       have HO455 := a_ (Kd.R_lower (Kd.R_new' (Kd.R_new' (Kd.R_new' (Kd.R_new' (Kd.R_new' ho0 (Kd.R_lt (ra_ HO_6.out))) (Kd.R_lt (ra_ HO_9.out))) (Kd.R_lt (ra_ HO_446002.out))) (Kd.R_lt (ra_ HO_446003.out))) (Kd.R_lt (ra_ HO_446004.out))) (below_size z9_))
       have HO458 := a_ (Kd.R_lower (Kd.R_new' (Kd.R_new' (Kd.R_new' (Kd.R_new' (Kd.R_new' ho1 (Kd.R_lt (ra_ HO_6.out))) (Kd.R_lt (ra_ HO_9.out))) (Kd.R_lt (ra_ HO_446002.out))) (Kd.R_lt (ra_ HO_446003.out))) (Kd.R_lt (ra_ HO_446004.out))) (below_size z9_))
       have HO461 := a_ (Kd.R_lower (Kd.R_new' (Kd.R_new' (Kd.R_new' (Kd.R_new' (Kd.R_new' ho2 (Kd.R_lt (ra_ HO_6.out))) (Kd.R_lt (ra_ HO_9.out))) (Kd.R_lt (ra_ HO_446002.out))) (Kd.R_lt (ra_ HO_446003.out))) (Kd.R_lt (ra_ HO_446004.out))) (below_size z9_))
       replace HO_6 := a_ (Kd.R_mono (Kd.R_told (Kd.R_told (Kd.R_told (Kd.R_old (ra_ HO_6.out) hb) (Kd.R_base ho0)) (Kd.R_base ho1)) (Kd.R_base ho2)) (fun _ h_ => h_.1))
       replace HO_9 := a_ (Kd.R_mono (Kd.R_told (Kd.R_told (Kd.R_told (Kd.R_old (ra_ HO_9.out) hb) (Kd.R_base ho0)) (Kd.R_base ho1)) (Kd.R_base ho2)) (fun _ h_ => h_.1))
       replace HO_446002 := a_ (Kd.R_mono (Kd.R_told (Kd.R_told (Kd.R_told (Kd.R_old (ra_ HO_446002.out) hb) (Kd.R_base ho0)) (Kd.R_base ho1)) (Kd.R_base ho2)) (fun _ h_ => h_.1))
       replace HO_446003 := a_ (Kd.R_mono (Kd.R_told (Kd.R_told (Kd.R_told (Kd.R_old (ra_ HO_446003.out) hb) (Kd.R_base ho0)) (Kd.R_base ho1)) (Kd.R_base ho2)) (fun _ h_ => h_.1))
       replace HO_446004 := a_ (Kd.R_mono (Kd.R_told (Kd.R_told (Kd.R_told (Kd.R_old (ra_ HO_446004.out) hb) (Kd.R_base ho0)) (Kd.R_base ho1)) (Kd.R_base ho2)) (fun _ h_ => h_.1))
       replace BK417 := a_ (blk_below (g := gb417) (rb_ BK417.out) hb)
       replace BK445 := a_ (blk_below (g := gb445) (rb_ BK445.out) hb)
       replace HB := a_ (below_step z9_ hb)
       (try clear hb)
       (try clear hb2)
       (try clear hk)
       (try clear hi)
       (try clear ho0)
       (try clear ho1)
       (try clear ho2)
       obtain ⟨Ao45, co45, eo45⟩ := Kd.R_slice HO455.out
       (first | subst eo45 | (injection eo45 with f1_ f2_ f3_; have f4_ := f1_.symm; have f5_ := f3_.symm; clear f1_ f2_ f3_; subst f4_; subst f5_))
       obtain ⟨Ao46, co46, eo46⟩ := Kd.R_slice HO458.out
       (first | subst eo46 | (injection eo46 with f1_ f2_ f3_; have f4_ := f1_.symm; have f5_ := f3_.symm; clear f1_ f2_ f3_; subst f4_; subst f5_))
       obtain ⟨Ao47, co47, eo47⟩ := Kd.R_slice HO461.out
       (first | subst eo47 | (injection eo47 with f1_ f2_ f3_; have f4_ := f1_.symm; have f5_ := f3_.symm; clear f1_ f2_ f3_; subst f4_; subst f5_))
       refine hK.out _ _ ⟨(blk_cell BK445.out 0).trans rfl, (blk_cell BK445.out 1).trans rfl, (blk_cell BK445.out 2).trans rfl, (blk_cell BK445.out 3).trans rfl, (blk_cell BK445.out 4).trans rfl, (blk_cell BK417.out 0).trans rfl, (blk_cell BK417.out 1).trans rfl, (blk_cell BK417.out 2).trans rfl, (blk_cell BK417.out 3).trans rfl, (blk_cell BK417.out 4).trans rfl⟩ (fun hHeld => ?_)
       clear hK K
       refine nm_ ?_
       refine one_ (i := 3) (N := some 51) #[true, true, true, true, false] rfl rfl (by kernel_rfl) (by decide) (fun K hK => ?_)
       refine goes_ Tryz.func11 (by kernel_rfl) rfl #[.agg #[.int .i64 t434, .int .i64 t435, .slice Ao29 t436.length co29, .slice Ao30 t439.length co30, .slice Ao31 t442.length co31], .agg #[.int .i64 t451, .int .i64 t452, .slice Ao45 t453.length co45, .slice Ao46 t456.length co46, .slice Ao47 t459.length co47]] (by rfl) rfl rfl z36_ ?_
       with_reducible refine (laws_eqForm.calls kj13 t434 t435 _ _ t436 _ _ t439 _ _ t442 t451 t452 _ _ t453 _ _ t456 _ _ t459 true _ ?side1 ?side2 ?side3 ?side4 ?side5 ?side6 ?side7 ?side8 ?side9 ?side10 ?side11 ?side12 A39.out).mono ?_
       (case side1 => exact (by (repeat (first | exact (Kd.R_reads' HO_446002.out).2.2 | (with_reducible refine Kd.C_alloc ?_ _) | (with_reducible refine Kd.C_drewN ?_ _) | (with_reducible refine Kd.C_drew ?_))); first | done | fail))
       (case side2 => exact (Kd.R_reads' HO_446002.out).2.1)
       (case side3 => exact (by (repeat (first | exact (Kd.R_reads' HO_446003.out).2.2 | (with_reducible refine Kd.C_alloc ?_ _) | (with_reducible refine Kd.C_drewN ?_ _) | (with_reducible refine Kd.C_drew ?_))); first | done | fail))
       (case side4 => exact (Kd.R_reads' HO_446003.out).2.1)
       (case side5 => exact (by (repeat (first | exact (Kd.R_reads' HO_446004.out).2.2 | (with_reducible refine Kd.C_alloc ?_ _) | (with_reducible refine Kd.C_drewN ?_ _) | (with_reducible refine Kd.C_drew ?_))); first | done | fail))
       (case side6 => exact (Kd.R_reads' HO_446004.out).2.1)
       (case side7 => exact (by (repeat (first | exact (Kd.R_reads' HO455.out).2.2 | (with_reducible refine Kd.C_alloc ?_ _) | (with_reducible refine Kd.C_drewN ?_ _) | (with_reducible refine Kd.C_drew ?_))); first | done | fail))
       (case side8 => exact (Kd.R_reads' HO455.out).2.1)
       (case side9 => exact (by (repeat (first | exact (Kd.R_reads' HO458.out).2.2 | (with_reducible refine Kd.C_alloc ?_ _) | (with_reducible refine Kd.C_drewN ?_ _) | (with_reducible refine Kd.C_drew ?_))); first | done | fail))
       (case side10 => exact (Kd.R_reads' HO458.out).2.1)
       (case side11 => exact (by (repeat (first | exact (Kd.R_reads' HO461.out).2.2 | (with_reducible refine Kd.C_alloc ?_ _) | (with_reducible refine Kd.C_drewN ?_ _) | (with_reducible refine Kd.C_drew ?_))); first | done | fail))
       (case side12 => exact (Kd.R_reads' HO461.out).2.1)
       rintro e w48 ⟨rfl, hb⟩
       refine ⟨_, rfl, ?_⟩
       replace HO_6 := a_ (Kd.R_below (ra_ HO_6.out) hb)
       replace HO_9 := a_ (Kd.R_below (ra_ HO_9.out) hb)
       replace HO_446002 := a_ (Kd.R_below (ra_ HO_446002.out) hb)
       replace HO_446003 := a_ (Kd.R_below (ra_ HO_446003.out) hb)
       replace HO_446004 := a_ (Kd.R_below (ra_ HO_446004.out) hb)
       replace HO455 := a_ (Kd.R_below (ra_ HO455.out) hb)
       replace HO458 := a_ (Kd.R_below (ra_ HO458.out) hb)
       replace HO461 := a_ (Kd.R_below (ra_ HO461.out) hb)
       replace BK417 := a_ (blk_below (g := gb417) (rb_ BK417.out) hb)
       replace BK445 := a_ (blk_below (g := gb445) (rb_ BK445.out) hb)
       replace HB := a_ (below_step z9_ hb)
       (try clear hb)
       (try clear hb2)
       (try clear hk)
       (try clear hi)
       refine hK.out _ _ ⟨(blk_cell BK445.out 0).trans rfl, (blk_cell BK445.out 1).trans rfl, (blk_cell BK445.out 2).trans rfl, (blk_cell BK445.out 3).trans rfl, (blk_cell BK445.out 4).trans rfl, (blk_cell BK417.out 0).trans rfl, (blk_cell BK417.out 1).trans rfl, (blk_cell BK417.out 2).trans rfl, (blk_cell BK417.out 3).trans rfl, (blk_cell BK417.out 4).trans rfl⟩ (fun hHeld => ?_)
       clear hK K
       refine nm_ ?_
       refine pu_ (i := 4) (N := some 52) #[true, true, true, true, true] ?_ (hc := (by kernel_rfl))
       refine done_ (by kernel_rfl) ?_
       have hnb49 := NB445_417.out
       have hnc49 := NB417_445.out
       obtain ⟨hcz50_0, hcz50_1, hcz50_2, hcz50_3, hcz50_4, hfz50_0, hfz50_1, hfz50_2, hfz50_3, hfz50_4⟩ := cz5_ (w := w48) BK445.out
       go_upto_region 16 with (first | ((with_reducible refine gate_callee (f := 32) rfl ?_); refine goesL_ (some 55) rfl rfl Tryz.func32 (by kernel_rfl) rfl #[.agg #[.int .i64 t434, .int .i64 t435, .slice Ao29 t436.length co29, .slice Ao30 t439.length co30, .slice Ao31 t442.length co31], .int .i64 1] rfl z36_ ?_; (with_reducible refine (laws_markForm.calls kj13 t434 t435 (fun k_ => some k_ = (.slice Ao29 t436.length co29 : Value).ownBlock) (.slice Ao29 t436.length co29) t436 (fun k_ => some k_ = (.slice Ao30 t439.length co30 : Value).ownBlock) (.slice Ao30 t439.length co30) t439 (fun k_ => some k_ = (.slice Ao31 t442.length co31 : Value).ownBlock) (.slice Ao31 t442.length co31) t442 1 t463 t464 t465 t466 w _ ?side1 ?side2 ?side3 ?side4 ?side5 ?side6 ?side7 ?side8 ?side9 ?side10 A41.out).mono ?_); (case side1 => exact z9_); (case side2 => exact Kd.R_tight rfl HO_446002.out); (case side3 => exact fun k_ e_ => (HO_446002.out.1 k_ e_.symm).1.1.1.2.2.1); (case side4 => exact fun k_ e_ => (HO_446002.out.1 k_ e_.symm).1.1.1.2.2.2); (case side5 => exact Kd.R_tight rfl HO_446003.out); (case side6 => exact fun k_ e_ => (HO_446003.out.1 k_ e_.symm).1.1.1.2.2.1); (case side7 => exact fun k_ e_ => (HO_446003.out.1 k_ e_.symm).1.1.1.2.2.2); (case side8 => exact Kd.R_tight rfl HO_446004.out); (case side9 => exact fun k_ e_ => (HO_446004.out.1 k_ e_.symm).1.1.1.2.2.1); (case side10 => exact fun k_ e_ => (HO_446004.out.1 k_ e_.symm).1.1.1.2.2.2); rintro e w51 ⟨rfl, hy0, hy1, hy2, hb, hkp⟩; refine ⟨_, rfl, ?_⟩; replace HO_6 := a_ (Kd.R_mono (ok' := fun k_ => some k_ ≠ (v447 : Value).ownBlock ∧ nb_ k_ Ao29 t436.length co29 ∧ nb_ k_ Ao30 t439.length co30 ∧ nb_ k_ Ao31 t442.length co31 ∧ nb_ k_ Ao45 t453.length co45 ∧ nb_ k_ Ao46 t456.length co46 ∧ nb_ k_ Ao47 t459.length co47) (Kd.R_keptB (HO_6.out) hkp (fun k_ hk_ hs_ => Or.elim hs_ (fun e_ => (hk_.1.1.1.2.1) e_) (fun e_ => Or.elim e_ (fun e_ => (hk_.1.1.1.2.2.1) e_) (fun e_ => (hk_.1.1.1.2.2.2) e_)))) (fun k_ hk_ => ⟨hk_.1.1.1.1.1, hk_.1.1.1.1.2.1, hk_.1.1.1.1.2.2.1, hk_.1.1.1.1.2.2.2, hk_.1.1.1.2, hk_.1.1.2, hk_.1.2⟩)); replace HO_9 := a_ (Kd.R_mono (ok' := fun k_ => some k_ ≠ (v431 : Value).ownBlock ∧ nb_ k_ Ao29 t436.length co29 ∧ nb_ k_ Ao30 t439.length co30 ∧ nb_ k_ Ao31 t442.length co31 ∧ nb_ k_ Ao45 t453.length co45 ∧ nb_ k_ Ao46 t456.length co46 ∧ nb_ k_ Ao47 t459.length co47) (Kd.R_keptB (HO_9.out) hkp (fun k_ hk_ hs_ => Or.elim hs_ (fun e_ => (hk_.1.1.1.2.1) e_) (fun e_ => Or.elim e_ (fun e_ => (hk_.1.1.1.2.2.1) e_) (fun e_ => (hk_.1.1.1.2.2.2) e_)))) (fun k_ hk_ => ⟨hk_.1.1.1.1.1, hk_.1.1.1.1.2.1, hk_.1.1.1.1.2.2.1, hk_.1.1.1.1.2.2.2, hk_.1.1.1.2, hk_.1.1.2, hk_.1.2⟩)); replace BK417 := a_ (blk_kept (rb_ BK417.out) hkp (fun hs_ => Or.elim hs_ (fun e_ => (fun e_ => (Kd.R_ne HO_446002.out BK417.out (by decide)) e_) e_) (fun e_ => Or.elim e_ (fun e_ => (fun e_ => (Kd.R_ne HO_446003.out BK417.out (by decide)) e_) e_) (fun e_ => (fun e_ => (Kd.R_ne HO_446004.out BK417.out (by decide)) e_) e_)))); replace BK445 := a_ (blk_kept (rb_ BK445.out) hkp (fun hs_ => Or.elim hs_ (fun e_ => (fun e_ => (Kd.R_ne HO_446002.out BK445.out (by decide)) e_) e_) (fun e_ => Or.elim e_ (fun e_ => (fun e_ => (Kd.R_ne HO_446003.out BK445.out (by decide)) e_) e_) (fun e_ => (fun e_ => (Kd.R_ne HO_446004.out BK445.out (by decide)) e_) e_)))); replace HO_446002 := a_ (Kd.R_reok rfl hy0 (fun k_ e_ => HO_446002.out.1 k_ e_)); replace HO_446003 := a_ (Kd.R_reok rfl hy1 (fun k_ e_ => HO_446003.out.1 k_ e_)); replace HO_446004 := a_ (Kd.R_reok rfl hy2 (fun k_ e_ => HO_446004.out.1 k_ e_)); replace HO455 := a_ (Kd.R_mono (ok' := fun k_ => some k_ ≠ (v431 : Value).ownBlock ∧ some k_ ≠ (v447 : Value).ownBlock ∧ nb_ k_ Ao29 t436.length co29 ∧ nb_ k_ Ao30 t439.length co30 ∧ nb_ k_ Ao31 t442.length co31 ∧ nb_ k_ Ao46 t456.length co46 ∧ nb_ k_ Ao47 t459.length co47) (Kd.R_keptB (HO455.out) hkp (fun k_ hk_ hs_ => Or.elim hs_ (fun e_ => (hk_.1.1.2) e_) (fun e_ => Or.elim e_ (fun e_ => (hk_.1.2) e_) (fun e_ => (hk_.2) e_)))) (fun k_ hk_ => ⟨hk_.1.1.1.1.1.2, hk_.1.1.1.1.2, hk_.1.1.1.2, hk_.1.1.2, hk_.1.2, hk_.1.1.1.1.1.1.1, hk_.1.1.1.1.1.1.2⟩)); replace HO458 := a_ (Kd.R_mono (ok' := fun k_ => some k_ ≠ (v431 : Value).ownBlock ∧ some k_ ≠ (v447 : Value).ownBlock ∧ nb_ k_ Ao29 t436.length co29 ∧ nb_ k_ Ao30 t439.length co30 ∧ nb_ k_ Ao31 t442.length co31 ∧ nb_ k_ Ao45 t453.length co45 ∧ nb_ k_ Ao47 t459.length co47) (Kd.R_keptB (HO458.out) hkp (fun k_ hk_ hs_ => Or.elim hs_ (fun e_ => (hk_.1.1.2) e_) (fun e_ => Or.elim e_ (fun e_ => (hk_.1.2) e_) (fun e_ => (hk_.2) e_)))) (fun k_ hk_ => ⟨hk_.1.1.1.1.1.2, hk_.1.1.1.1.2, hk_.1.1.1.2, hk_.1.1.2, hk_.1.2, hk_.1.1.1.1.1.1.1, hk_.1.1.1.1.1.1.2⟩)); replace HO461 := a_ (Kd.R_mono (ok' := fun k_ => some k_ ≠ (v431 : Value).ownBlock ∧ some k_ ≠ (v447 : Value).ownBlock ∧ nb_ k_ Ao29 t436.length co29 ∧ nb_ k_ Ao30 t439.length co30 ∧ nb_ k_ Ao31 t442.length co31 ∧ nb_ k_ Ao45 t453.length co45 ∧ nb_ k_ Ao46 t456.length co46) (Kd.R_keptB (HO461.out) hkp (fun k_ hk_ hs_ => Or.elim hs_ (fun e_ => (hk_.1.1.2) e_) (fun e_ => Or.elim e_ (fun e_ => (hk_.1.2) e_) (fun e_ => (hk_.2) e_)))) (fun k_ hk_ => ⟨hk_.1.1.1.1.1.2, hk_.1.1.1.1.2, hk_.1.1.1.2, hk_.1.1.2, hk_.1.2, hk_.1.1.1.1.1.1.1, hk_.1.1.1.1.1.1.2⟩)); replace HB := a_ (hb); (try clear hb); (try clear hkp); (try clear hy0); (try clear hy1); (try clear hy2)))
       (try simp only [Act.put, List.setIfInBounds_toArray, List.set_cons_zero, List.set_cons_succ])
       go_cut [68] (fun v68 wc => ∃ (kq : Nat) (x68_41 : Bool), v68 = .bool x68_41 ∧ Aside0 (laws_FnExactReadForm.j1 kq a1 t430 t433 t446 x68_41 a0_0 a0_1 l0_2 l0_3 l0_4 = some r) ∧ Aside0 (kq ≤ kj13) ∧ Aside0 (Kd.R (Kd.int .i64) 2 wc w.heap.size (fun k_ => some k_ ≠ (v447 : Value).ownBlock ∧ nb_ k_ Ao29 t436.length co29 ∧ nb_ k_ Ao30 t439.length co30 ∧ nb_ k_ Ao31 t442.length co31) v431 t430) ∧ Aside0 (Kd.R (Kd.int .i64) 2 wc w.heap.size (fun k_ => some k_ ≠ (v431 : Value).ownBlock ∧ nb_ k_ Ao29 t436.length co29 ∧ nb_ k_ Ao30 t439.length co30 ∧ nb_ k_ Ao31 t442.length co31) v447 t446) ∧ Aside0 (Kd.R (Kd.int .i64) 2 wc w.heap.size (fun k_ => some k_ ≠ (v431 : Value).ownBlock ∧ some k_ ≠ (v447 : Value).ownBlock ∧ nb_ k_ Ao30 t439.length co30 ∧ nb_ k_ Ao31 t442.length co31) (.slice Ao29 t436.length co29) t464) ∧ Aside0 (Kd.R (Kd.int .i64) 2 wc w.heap.size (fun k_ => some k_ ≠ (v431 : Value).ownBlock ∧ some k_ ≠ (v447 : Value).ownBlock ∧ nb_ k_ Ao29 t436.length co29 ∧ nb_ k_ Ao31 t442.length co31) (.slice Ao30 t439.length co30) t465) ∧ Aside0 (Kd.R (Kd.int .i64) 2 wc w.heap.size (fun k_ => some k_ ≠ (v431 : Value).ownBlock ∧ some k_ ≠ (v447 : Value).ownBlock ∧ nb_ k_ Ao29 t436.length co29 ∧ nb_ k_ Ao30 t439.length co30) (.slice Ao31 t442.length co31) t466) ∧ Aside0 (wc.heap[gb417]? = some (.cells #[.int .i64 a0_0, .int .i64 a0_1, (.slice A0_2 l0_2.length c0_2), (.slice A0_3 l0_3.length c0_3), (.slice A0_4 l0_4.length c0_4)] 24 (0, 0))) ∧ Aside0 (wc.heap[gb445]? = some (.cells #[.int .i64 t434, .int .i64 t435, (.slice Ao29 t436.length co29), (.slice Ao30 t439.length co30), (.slice Ao31 t442.length co31)] 28 (0, 0))) ∧ Aside0 (Below w.heap.size w wc))
       case first =>
        have H := HC42.out
        clear HC42
        by_cases c52 : t463 < 0
        ·rw [if_pos c52] at H
         exact absurd H (by simp)
        ·rw [if_neg c52] at H
         have c52b0 : decide (t463 < 0) = false := decide_eq_false c52
         clear c52
         (first | rw [c52b0] | (simp only [i64_w, i32_w]; rw [c52b0]) | skip)
         replace H := Option.bind_eq_some_iff.mp H
         obtain ⟨t467, A530, H⟩ := H
         replace H : (if t467 = true then (laws_FnExactReadForm.j1 kj13 a1 t430 t433 t446 (t449 != t433) a0_0 a0_1 l0_2 l0_3 l0_4) else (none)) = some r := H
         have A53 := Aside0.mk A530
         clear A530
         by_cases c54 : t467 = true
         ·subst c54
          have H1 : (laws_FnExactReadForm.j1 kj13 a1 t430 t433 t446 (t449 != t433) a0_0 a0_1 l0_2 l0_3 l0_4) = some r := by rw [if_pos rfl] at H; exact H
          clear H
          have H := H1
          clear H1
          have H' := Aside0.mk H
          clear H
          obtain ⟨Ao55, co55, eo55⟩ := Kd.R_slice HO_9.out
          subst eo55
          obtain ⟨Ao56, co56, eo56⟩ := Kd.R_slice HO_6.out
          subst eo56
          go_wp2_with (first | (go_at_call 31; (with_reducible refine (laws_eqInt64S.calls kj13 _ _ t446 _ _ t430 true _ ?side1 ?side2 ?side3 ?side4 A53.out).mono ?_); (case side1 => exact z16_); (case side2 => exact (Kd.R_reads' HO_9.out).2.1); (case side3 => exact (by (repeat (first | exact (Kd.R_reads' HO_6.out).2.2 | (with_reducible refine Kd.C_alloc ?_ _) | (with_reducible refine Kd.C_drewN ?_ _) | (with_reducible refine Kd.C_drew ?_))); first | done | fail)); (case side4 => exact (Kd.R_reads' HO_6.out).2.1); rintro e w' ⟨rfl, ⟨nd, rfl⟩⟩))
          go_meet
          case rel => exact ⟨_, ((t449 != t433)), z78_, H', ⟨by have := HJ13.out; first | omega | exact Nat.le_refl _⟩, ⟨by (with_reducible repeat (first | apply Kd.R_alloc | apply Kd.R_drewN | apply Kd.R_drew)); exact Kd.R_mono HO_6.out (fun _ hk => ⟨hk.1, ⟨hk.2.1, ⟨hk.2.2.1, hk.2.2.2.1⟩⟩⟩)⟩, ⟨by (with_reducible repeat (first | apply Kd.R_alloc | apply Kd.R_drewN | apply Kd.R_drew)); exact Kd.R_mono HO_9.out (fun _ hk => ⟨hk.1, ⟨hk.2.1, ⟨hk.2.2.1, hk.2.2.2.1⟩⟩⟩)⟩, ⟨by (with_reducible repeat (first | apply Kd.R_alloc | apply Kd.R_drewN | apply Kd.R_drew)); exact Kd.R_mono HO_446002.out (fun _ hk => ⟨hk.1.1.1.1, ⟨hk.1.1.1.2.1, ⟨hk.1.1.1.2.2.1, hk.1.1.1.2.2.2⟩⟩⟩)⟩, ⟨by (with_reducible repeat (first | apply Kd.R_alloc | apply Kd.R_drewN | apply Kd.R_drew)); exact Kd.R_mono HO_446003.out (fun _ hk => ⟨hk.1.1.1.1, ⟨hk.1.1.1.2.1, ⟨hk.1.1.1.2.2.1, hk.1.1.1.2.2.2⟩⟩⟩)⟩, ⟨by (with_reducible repeat (first | apply Kd.R_alloc | apply Kd.R_drewN | apply Kd.R_drew)); exact Kd.R_mono HO_446004.out (fun _ hk => ⟨hk.1.1.1.1, ⟨hk.1.1.1.2.1, ⟨hk.1.1.1.2.2.1, hk.1.1.1.2.2.2⟩⟩⟩)⟩, ⟨by (with_reducible repeat (first | refine blk_drewN ?_ _ | refine blk_drew ?_ | refine blk_alloc ?_ _)); exact BK417.out⟩, ⟨by (with_reducible repeat (first | refine blk_drewN ?_ _ | refine blk_drew ?_ | refine blk_alloc ?_ _)); exact BK445.out⟩, ⟨z9_⟩⟩
         ·replace c54 := Bool.eq_false_iff.mpr c54
          subst c54
          have H1 : (none) = some r := by rw [if_neg (show ¬ (false = true) by decide)] at H; exact H
          clear H
          have H := H1
          clear H1
          exact absurd H (by simp)
       case rest =>
        clear HC42; try clear c37; try clear c40; try clear hcz50_0 hcz50_1 hcz50_2 hcz50_3 hcz50_4; try clear hfz50_0 hfz50_1 hfz50_2 hfz50_3 hfz50_4
        obtain ⟨kq, x68_41, rfl, HA, HJ41, HO_6, HO_9, HO_446002, HO_446003, HO_446004, BK417, BK445, HB⟩ := hcut
        have hl446002_41 := (Kd.R_reads' HO_446002.out).1
        rw [hl446002_41] at HO_446002
        (try simp only [hl446002_41])
        (try simp only [hl446002_41] at BK417)
        (try simp only [hl446002_41] at BK445)
        (try simp only [hl446002_41] at HO_6)
        (try simp only [hl446002_41] at HO_9)
        (try simp only [hl446002_41] at HO_446003)
        (try simp only [hl446002_41] at HO_446004)
        have hl446003_41 := (Kd.R_reads' HO_446003.out).1
        rw [hl446003_41] at HO_446003
        (try simp only [hl446003_41])
        (try simp only [hl446003_41] at BK417)
        (try simp only [hl446003_41] at BK445)
        (try simp only [hl446003_41] at HO_6)
        (try simp only [hl446003_41] at HO_9)
        (try simp only [hl446003_41] at HO_446002)
        (try simp only [hl446003_41] at HO_446004)
        have hl446004_41 := (Kd.R_reads' HO_446004.out).1
        rw [hl446004_41] at HO_446004
        (try simp only [hl446004_41])
        (try simp only [hl446004_41] at BK417)
        (try simp only [hl446004_41] at BK445)
        (try simp only [hl446004_41] at HO_6)
        (try simp only [hl446004_41] at HO_9)
        (try simp only [hl446004_41] at HO_446002)
        (try simp only [hl446004_41] at HO_446003)
        cases kq with
        | zero => exact absurd HA.out (by simp [laws_FnExactReadForm.j1])
        | succ kj41 =>
         have H := HA.out
         clear HA
         simp only [laws_FnExactReadForm.j1] at H
         by_cases c57 : x68_41 = true
         ·subst c57
          have H1 : (none) = some r := by rw [if_pos rfl] at H; exact H
          clear H
          have H := H1
          clear H1
          exact absurd H (by simp)
         ·replace c57 := Bool.eq_false_iff.mpr c57
          subst c57
          have H1 : ((laws_markInt64S.f kj41 t446 1).bind fun bt468 => ((laws_heldInt64S.f kj41 bt468.2 1).bind fun t470 => (if t470 < 0 then (none) else (if t470 = bt468.1 then ((laws_toForm.f kj41 a0_0 a0_1 l0_2 l0_3 l0_4).bind fun bt471 => ((impl_ReadForm.f kj41 bt471.1 bt471.2.1 bt471.2.2.1 bt471.2.2.2.1 bt471.2.2.2.2 a1).bind fun bt482 => ((laws_eqInt64S.f kj41 bt482.1 t430).bind fun t486 => (if t486 = true then (laws_FnExactReadForm.j2 kj41 bt468.2 bt468.1 (bt482.2 != t433)) else (none))))) else (none))))) = some r := by rw [if_neg (show ¬ (false = true) by decide)] at H; exact H
          clear H
          have H := H1
          clear H1
          replace H := Option.bind_eq_some_iff.mp H
          obtain ⟨⟨t468, t469⟩, A580, H⟩ := H
          replace H : ((laws_heldInt64S.f kj41 t469 1).bind fun t470 => (if t470 < 0 then (none) else (if t470 = t468 then ((laws_toForm.f kj41 a0_0 a0_1 l0_2 l0_3 l0_4).bind fun bt471 => ((impl_ReadForm.f kj41 bt471.1 bt471.2.1 bt471.2.2.1 bt471.2.2.2.1 bt471.2.2.2.2 a1).bind fun bt482 => ((laws_eqInt64S.f kj41 bt482.1 t430).bind fun t486 => (if t486 = true then (laws_FnExactReadForm.j2 kj41 t469 t468 (bt482.2 != t433)) else (none))))) else (none)))) = some r := H
          have A58 := Aside0.mk A580
          clear A580
          replace H := Option.bind_eq_some_iff.mp H
          obtain ⟨t470, A590, H⟩ := H
          replace H : (if t470 < 0 then (none) else (if t470 = t468 then ((laws_toForm.f kj41 a0_0 a0_1 l0_2 l0_3 l0_4).bind fun bt471 => ((impl_ReadForm.f kj41 bt471.1 bt471.2.1 bt471.2.2.1 bt471.2.2.2.1 bt471.2.2.2.2 a1).bind fun bt482 => ((laws_eqInt64S.f kj41 bt482.1 t430).bind fun t486 => (if t486 = true then (laws_FnExactReadForm.j2 kj41 t469 t468 (bt482.2 != t433)) else (none))))) else (none))) = some r := H
          have A59 := Aside0.mk A590
          clear A590
          by_cases c60 : t470 < 0
          ·rw [if_pos c60] at H
           exact absurd H (by simp)
          ·rw [if_neg c60] at H
           have c60b0 : decide (t470 < 0) = false := decide_eq_false c60
           clear c60
           by_cases c61 : t470 = t468
           ·rw [if_pos c61] at H
            have c61b0 : (t470 == t468) = true := beq_iff_eq.mpr c61
            have c61b1 : (t470 != t468) = false := bne_eq_false_iff_eq.mpr c61
            clear c61
            replace H := Option.bind_eq_some_iff.mp H
            obtain ⟨⟨t471, t472, t473, t476, t479⟩, A620, H⟩ := H
            replace H : ((impl_ReadForm.f kj41 t471 t472 t473 t476 t479 a1).bind fun bt482 => ((laws_eqInt64S.f kj41 bt482.1 t430).bind fun t486 => (if t486 = true then (laws_FnExactReadForm.j2 kj41 t469 t468 (bt482.2 != t433)) else (none)))) = some r := H
            have A62 := Aside0.mk A620
            clear A620
            replace H := Option.bind_eq_some_iff.mp H
            obtain ⟨⟨t482, t485⟩, A630, H⟩ := H
            replace H : ((laws_eqInt64S.f kj41 t482 t430).bind fun t486 => (if t486 = true then (laws_FnExactReadForm.j2 kj41 t469 t468 (t485 != t433)) else (none))) = some r := H
            have A63 := Aside0.mk A630
            clear A630
            have HC64 := Aside0.mk H
            clear H
            obtain ⟨Ao65, co65, eo65⟩ := Kd.R_slice HO_9.out
            subst eo65
            go_upto_region 27 with (first | ((with_reducible refine gate_callee (f := 33) rfl ?_); refine goesL_ (some 71) rfl rfl Tryz.func33 (by kernel_rfl) rfl #[.slice Ao65 t446.length co65, .int .i64 1] rfl z36_ ?_; (with_reducible refine (laws_markInt64S.calls kj41 (fun k_ => some k_ = (.slice Ao65 t446.length co65 : Value).ownBlock) (.slice Ao65 t446.length co65) t446 1 t468 t469 w _ ?side1 ?side2 A58.out).mono ?_); (case side1 => exact z9_); (case side2 => exact Kd.R_tight rfl HO_9.out); rintro e w66 ⟨rfl, hy0, hb, hkp⟩; refine ⟨_, rfl, ?_⟩; replace HO_6 := a_ (Kd.R_mono (ok' := fun k_ => nb_ k_ Ao65 t446.length co65 ∧ nb_ k_ Ao29 t464.length co29 ∧ nb_ k_ Ao30 t465.length co30 ∧ nb_ k_ Ao31 t466.length co31) (Kd.R_keptB (HO_6.out) hkp (fun k_ hk_ hs_ => (hk_.1) hs_)) (fun k_ hk_ => ⟨hk_.1.1, hk_.1.2.1, hk_.1.2.2.1, hk_.1.2.2.2⟩)); replace HO_446002 := a_ (Kd.R_mono (ok' := fun k_ => some k_ ≠ (v431 : Value).ownBlock ∧ nb_ k_ Ao65 t446.length co65 ∧ nb_ k_ Ao30 t465.length co30 ∧ nb_ k_ Ao31 t466.length co31) (Kd.R_keptB (HO_446002.out) hkp (fun k_ hk_ hs_ => (hk_.2.1) hs_)) (fun k_ hk_ => ⟨hk_.1.1, hk_.1.2.1, hk_.1.2.2.1, hk_.1.2.2.2⟩)); replace HO_446003 := a_ (Kd.R_mono (ok' := fun k_ => some k_ ≠ (v431 : Value).ownBlock ∧ nb_ k_ Ao65 t446.length co65 ∧ nb_ k_ Ao29 t464.length co29 ∧ nb_ k_ Ao31 t466.length co31) (Kd.R_keptB (HO_446003.out) hkp (fun k_ hk_ hs_ => (hk_.2.1) hs_)) (fun k_ hk_ => ⟨hk_.1.1, hk_.1.2.1, hk_.1.2.2.1, hk_.1.2.2.2⟩)); replace HO_446004 := a_ (Kd.R_mono (ok' := fun k_ => some k_ ≠ (v431 : Value).ownBlock ∧ nb_ k_ Ao65 t446.length co65 ∧ nb_ k_ Ao29 t464.length co29 ∧ nb_ k_ Ao30 t465.length co30) (Kd.R_keptB (HO_446004.out) hkp (fun k_ hk_ hs_ => (hk_.2.1) hs_)) (fun k_ hk_ => ⟨hk_.1.1, hk_.1.2.1, hk_.1.2.2.1, hk_.1.2.2.2⟩)); replace BK417 := a_ (blk_kept (rb_ BK417.out) hkp (fun hs_ => (fun e_ => (Kd.R_ne HO_9.out BK417.out (by decide)) e_) hs_)); replace BK445 := a_ (blk_kept (rb_ BK445.out) hkp (fun hs_ => (fun e_ => (Kd.R_ne HO_9.out BK445.out (by decide)) e_) hs_)); replace HO_9 := a_ (Kd.R_reok rfl hy0 (fun k_ e_ => HO_9.out.1 k_ e_)); replace HB := a_ (hb); (try clear hb); (try clear hkp); (try clear hy0)) | ((with_reducible refine gate_callee (f := 34) rfl ?_); refine goesL_ (some 74) rfl rfl Tryz.func34 (by kernel_rfl) rfl #[.slice Ao65 t469.length co65, .int .i64 1] rfl (by (try simp only [List.map_toArray, List.map_cons, List.map_nil]); first | done | (rw [show t469.length = t446.length from (Kd.R_reads' HO_9.out).1.symm] <;> rfl) | rfl | (simp only [List.length_drop, List.length_take]; rfl)) ?_; (with_reducible refine (laws_heldInt64S.calls kj41 _ _ t469 1 t470 _ ?side1 ?side2 A59.out).mono ?_); (case side1 => exact z16_); (case side2 => rw [show t469.length = t446.length from (Kd.R_reads' HO_9.out).1.symm]; exact (Kd.R_reads' HO_9.out).2.1); rintro e w' ⟨rfl, ⟨nd, rfl⟩⟩; refine ⟨_, rfl, ?_⟩; have hnb67 := NB417_445.out; have hnc67 := NB445_417.out; obtain ⟨hcz68_0, hcz68_1, hcz68_2, hcz68_3, hcz68_4, hfz68_0, hfz68_1, hfz68_2, hfz68_3, hfz68_4⟩ := cz5_ (w := w66) BK417.out) | ((with_reducible refine gate_callee (f := 9) rfl ?_); refine goesL_ (some 82) rfl rfl Tryz.func9 (by kernel_rfl) rfl #[.agg #[.int .i64 a0_0, .int .i64 a0_1, .slice A0_2 l0_2.length c0_2, .slice A0_3 l0_3.length c0_3, .slice A0_4 l0_4.length c0_4]] rfl z36_ ?_; (with_reducible refine (laws_toForm.calls kj41 a0_0 a0_1 _ _ l0_2 _ _ l0_3 _ _ l0_4 t471 t472 t473 t476 t479 _ ?side1 ?side2 ?side3 ?side4 ?side5 ?side6 A62.out).mono ?_); (case side1 => exact (by (repeat (first | exact (Kd.C_below HR0_2.out z9_) | (with_reducible refine Kd.C_alloc ?_ _) | (with_reducible refine Kd.C_drewN ?_ _) | (with_reducible refine Kd.C_drew ?_))); first | done | fail)); (case side2 => exact HC0_2.out); (case side3 => exact (by (repeat (first | exact (Kd.C_below HR0_3.out z9_) | (with_reducible refine Kd.C_alloc ?_ _) | (with_reducible refine Kd.C_drewN ?_ _) | (with_reducible refine Kd.C_drew ?_))); first | done | fail)); (case side4 => exact HC0_3.out); (case side5 => exact (by (repeat (first | exact (Kd.C_below HR0_4.out z9_) | (with_reducible refine Kd.C_alloc ?_ _) | (with_reducible refine Kd.C_drewN ?_ _) | (with_reducible refine Kd.C_drew ?_))); first | done | fail)); (case side6 => exact HC0_4.out); rintro e w69 ⟨v474, v477, v480, rfl, ho0, ho1, ho2, hb⟩; refine ⟨_, rfl, ?_⟩; have HO475 := a_ (Kd.R_lower (Kd.R_new' (Kd.R_new' (Kd.R_new' (Kd.R_new' (Kd.R_new' ho0 (Kd.R_lt (ra_ HO_6.out))) (Kd.R_lt (ra_ HO_9.out))) (Kd.R_lt (ra_ HO_446002.out))) (Kd.R_lt (ra_ HO_446003.out))) (Kd.R_lt (ra_ HO_446004.out))) (below_size z9_)); have HO478 := a_ (Kd.R_lower (Kd.R_new' (Kd.R_new' (Kd.R_new' (Kd.R_new' (Kd.R_new' ho1 (Kd.R_lt (ra_ HO_6.out))) (Kd.R_lt (ra_ HO_9.out))) (Kd.R_lt (ra_ HO_446002.out))) (Kd.R_lt (ra_ HO_446003.out))) (Kd.R_lt (ra_ HO_446004.out))) (below_size z9_)); have HO481 := a_ (Kd.R_lower (Kd.R_new' (Kd.R_new' (Kd.R_new' (Kd.R_new' (Kd.R_new' ho2 (Kd.R_lt (ra_ HO_6.out))) (Kd.R_lt (ra_ HO_9.out))) (Kd.R_lt (ra_ HO_446002.out))) (Kd.R_lt (ra_ HO_446003.out))) (Kd.R_lt (ra_ HO_446004.out))) (below_size z9_)); replace HO_6 := a_ (Kd.R_mono (Kd.R_told (Kd.R_told (Kd.R_told (Kd.R_old (ra_ HO_6.out) hb) (Kd.R_base ho0)) (Kd.R_base ho1)) (Kd.R_base ho2)) (fun _ h_ => h_.1)); replace HO_9 := a_ (Kd.R_mono (Kd.R_told (Kd.R_told (Kd.R_told (Kd.R_old (ra_ HO_9.out) hb) (Kd.R_base ho0)) (Kd.R_base ho1)) (Kd.R_base ho2)) (fun _ h_ => h_.1)); replace HO_446002 := a_ (Kd.R_mono (Kd.R_told (Kd.R_told (Kd.R_told (Kd.R_old (ra_ HO_446002.out) hb) (Kd.R_base ho0)) (Kd.R_base ho1)) (Kd.R_base ho2)) (fun _ h_ => h_.1)); replace HO_446003 := a_ (Kd.R_mono (Kd.R_told (Kd.R_told (Kd.R_told (Kd.R_old (ra_ HO_446003.out) hb) (Kd.R_base ho0)) (Kd.R_base ho1)) (Kd.R_base ho2)) (fun _ h_ => h_.1)); replace HO_446004 := a_ (Kd.R_mono (Kd.R_told (Kd.R_told (Kd.R_told (Kd.R_old (ra_ HO_446004.out) hb) (Kd.R_base ho0)) (Kd.R_base ho1)) (Kd.R_base ho2)) (fun _ h_ => h_.1)); replace BK417 := a_ (blk_below (g := gb417) (rb_ BK417.out) hb); replace BK445 := a_ (blk_below (g := gb445) (rb_ BK445.out) hb); replace HB := a_ (below_step z9_ hb); (try clear hb); (try clear hb2); (try clear hk); (try clear hi); (try clear ho0); (try clear ho1); (try clear ho2); obtain ⟨Ao70, co70, eo70⟩ := Kd.R_slice HO475.out; subst eo70; obtain ⟨Ao71, co71, eo71⟩ := Kd.R_slice HO478.out; subst eo71; obtain ⟨Ao72, co72, eo72⟩ := Kd.R_slice HO481.out; subst eo72) | ((with_reducible refine gate_callee (f := 22) rfl ?_); refine goesL_ (some 84) rfl rfl Tryz.func22 (by kernel_rfl) rfl #[.agg #[.int .i64 t471, .int .i64 t472, .slice Ao70 t473.length co70, .slice Ao71 t476.length co71, .slice Ao72 t479.length co72], .string a1] rfl z36_ ?_; (with_reducible refine (impl_ReadForm.calls kj41 t471 t472 _ _ t473 _ _ t476 _ _ t479 a1 t482 t485 _ ?side1 ?side2 ?side3 ?side4 ?side5 ?side6 A63.out).mono ?_); (case side1 => exact (by (repeat (first | exact (Kd.R_reads' HO475.out).2.2 | (with_reducible refine Kd.C_alloc ?_ _) | (with_reducible refine Kd.C_drewN ?_ _) | (with_reducible refine Kd.C_drew ?_))); first | done | fail)); (case side2 => exact (Kd.R_reads' HO475.out).2.1); (case side3 => exact (by (repeat (first | exact (Kd.R_reads' HO478.out).2.2 | (with_reducible refine Kd.C_alloc ?_ _) | (with_reducible refine Kd.C_drewN ?_ _) | (with_reducible refine Kd.C_drew ?_))); first | done | fail)); (case side4 => exact (Kd.R_reads' HO478.out).2.1); (case side5 => exact (by (repeat (first | exact (Kd.R_reads' HO481.out).2.2 | (with_reducible refine Kd.C_alloc ?_ _) | (with_reducible refine Kd.C_drewN ?_ _) | (with_reducible refine Kd.C_drew ?_))); first | done | fail)); (case side6 => exact (Kd.R_reads' HO481.out).2.1); rintro e w73 ⟨v483, rfl, ho0, hb⟩; refine ⟨_, rfl, ?_⟩; have HO484 := a_ (Kd.R_lower (Kd.R_new' (Kd.R_new' (Kd.R_new' (Kd.R_new' (Kd.R_new' (Kd.R_new' (Kd.R_new' (Kd.R_new' ho0 (Kd.R_lt (ra_ HO_6.out))) (Kd.R_lt (ra_ HO_9.out))) (Kd.R_lt (ra_ HO_446002.out))) (Kd.R_lt (ra_ HO_446003.out))) (Kd.R_lt (ra_ HO_446004.out))) (Kd.R_lt (ra_ HO475.out))) (Kd.R_lt (ra_ HO478.out))) (Kd.R_lt (ra_ HO481.out))) (below_size z9_)); replace HO_6 := a_ (Kd.R_elder' (ra_ HO_6.out) (Kd.R_base ho0) hb); replace HO_9 := a_ (Kd.R_elder' (ra_ HO_9.out) (Kd.R_base ho0) hb); replace HO_446002 := a_ (Kd.R_elder' (ra_ HO_446002.out) (Kd.R_base ho0) hb); replace HO_446003 := a_ (Kd.R_elder' (ra_ HO_446003.out) (Kd.R_base ho0) hb); replace HO_446004 := a_ (Kd.R_elder' (ra_ HO_446004.out) (Kd.R_base ho0) hb); replace HO475 := a_ (Kd.R_elder' (ra_ HO475.out) (Kd.R_base ho0) hb); replace HO478 := a_ (Kd.R_elder' (ra_ HO478.out) (Kd.R_base ho0) hb); replace HO481 := a_ (Kd.R_elder' (ra_ HO481.out) (Kd.R_base ho0) hb); replace BK417 := a_ (blk_below (g := gb417) (rb_ BK417.out) hb); replace BK445 := a_ (blk_below (g := gb445) (rb_ BK445.out) hb); replace HB := a_ (below_step z9_ hb); (try clear hb); (try clear hb2); (try clear hk); (try clear hi); (try clear ho0)))
            (try simp only [Act.put, List.setIfInBounds_toArray, List.set_cons_zero, List.set_cons_succ])
            go_cut [95] (fun v95 wc => ∃ (kq : Nat) (x95_63 : Bool), v95 = .bool x95_63 ∧ Aside0 (laws_FnExactReadForm.j2 kq t469 t468 x95_63 = some r) ∧ Aside0 (kq ≤ kj41) ∧ Aside0 (Kd.R (Kd.int .i64) 2 wc w.heap.size (fun k_ => nb_ k_ Ao29 t464.length co29 ∧ nb_ k_ Ao30 t465.length co30 ∧ nb_ k_ Ao31 t466.length co31) (.slice Ao65 t446.length co65) t469) ∧ Aside0 (Kd.R (Kd.int .i64) 2 wc w.heap.size (fun k_ => nb_ k_ Ao65 t446.length co65 ∧ nb_ k_ Ao30 t465.length co30 ∧ nb_ k_ Ao31 t466.length co31) (.slice Ao29 t464.length co29) t464) ∧ Aside0 (Kd.R (Kd.int .i64) 2 wc w.heap.size (fun k_ => nb_ k_ Ao65 t446.length co65 ∧ nb_ k_ Ao29 t464.length co29 ∧ nb_ k_ Ao31 t466.length co31) (.slice Ao30 t465.length co30) t465) ∧ Aside0 (Kd.R (Kd.int .i64) 2 wc w.heap.size (fun k_ => nb_ k_ Ao65 t446.length co65 ∧ nb_ k_ Ao29 t464.length co29 ∧ nb_ k_ Ao30 t465.length co30) (.slice Ao31 t466.length co31) t466) ∧ Aside0 (wc.heap[gb417]? = some (.cells #[.int .i64 a0_0, .int .i64 a0_1, (.slice A0_2 l0_2.length c0_2), (.slice A0_3 l0_3.length c0_3), (.slice A0_4 l0_4.length c0_4)] 24 (0, 0))) ∧ Aside0 (wc.heap[gb445]? = some (.cells #[.int .i64 t434, .int .i64 t435, (.slice Ao29 t464.length co29), (.slice Ao30 t465.length co30), (.slice Ao31 t466.length co31)] 28 (0, 0))) ∧ Aside0 (Below w.heap.size w wc))
            case first =>
             have H := HC64.out
             clear HC64
             replace H := Option.bind_eq_some_iff.mp H
             obtain ⟨t486, A740, H⟩ := H
             replace H : (if t486 = true then (laws_FnExactReadForm.j2 kj41 t469 t468 (t485 != t433)) else (none)) = some r := H
             have A74 := Aside0.mk A740
             clear A740
             by_cases c75 : t486 = true
             ·subst c75
              have H1 : (laws_FnExactReadForm.j2 kj41 t469 t468 (t485 != t433)) = some r := by rw [if_pos rfl] at H; exact H
              clear H
              have H := H1
              clear H1
              have H' := Aside0.mk H
              clear H
              obtain ⟨Ao76, co76, eo76⟩ := Kd.R_slice HO484.out
              subst eo76
              obtain ⟨Ao77, co77, eo77⟩ := Kd.R_slice HO_6.out
              subst eo77
              go_wp2_with (first | ((with_reducible refine gate_callee (f := 31) rfl ?_); refine goesL_ (some 89) rfl rfl Tryz.func31 (by kernel_rfl) rfl #[.slice Ao76 t482.length co76, .slice Ao77 t430.length co77] rfl z36_ ?_; (with_reducible refine (laws_eqInt64S.calls kj41 _ _ t482 _ _ t430 true _ ?side1 ?side2 ?side3 ?side4 A74.out).mono ?_); (case side1 => exact (by (repeat (first | exact (Kd.R_reads' HO484.out).2.2 | (with_reducible refine Kd.C_alloc ?_ _) | (with_reducible refine Kd.C_drewN ?_ _) | (with_reducible refine Kd.C_drew ?_))); first | done | fail)); (case side2 => exact (Kd.R_reads' HO484.out).2.1); (case side3 => exact (by (repeat (first | exact (Kd.R_reads' HO_6.out).2.2 | (with_reducible refine Kd.C_alloc ?_ _) | (with_reducible refine Kd.C_drewN ?_ _) | (with_reducible refine Kd.C_drew ?_))); first | done | fail)); (case side4 => exact (Kd.R_reads' HO_6.out).2.1); rintro e w' ⟨rfl, ⟨nd, rfl⟩⟩; refine ⟨_, rfl, ?_⟩))
              go_meet
              case rel => exact ⟨_, ((t485 != t433)), z78_, H', ⟨by have := HJ13.out; have := HJ41.out; first | omega | exact Nat.le_refl _⟩, ⟨by (try simp only [hl446002_41]); (try simp only [hl446003_41]); (try simp only [hl446004_41]); (with_reducible repeat (first | apply Kd.R_alloc | apply Kd.R_drewN | apply Kd.R_drew)); exact Kd.R_mono HO_9.out (fun _ hk => ⟨hk.1.1.1.1.2.1, ⟨hk.1.1.1.1.2.2.1, hk.1.1.1.1.2.2.2⟩⟩)⟩, ⟨by (try simp only [hl446002_41]); (try simp only [hl446003_41]); (try simp only [hl446004_41]); (with_reducible repeat (first | apply Kd.R_alloc | apply Kd.R_drewN | apply Kd.R_drew)); exact Kd.R_mono HO_446002.out (fun _ hk => ⟨hk.1.1.1.1.2.1, ⟨hk.1.1.1.1.2.2.1, hk.1.1.1.1.2.2.2⟩⟩)⟩, ⟨by (try simp only [hl446002_41]); (try simp only [hl446003_41]); (try simp only [hl446004_41]); (with_reducible repeat (first | apply Kd.R_alloc | apply Kd.R_drewN | apply Kd.R_drew)); exact Kd.R_mono HO_446003.out (fun _ hk => ⟨hk.1.1.1.1.2.1, ⟨hk.1.1.1.1.2.2.1, hk.1.1.1.1.2.2.2⟩⟩)⟩, ⟨by (try simp only [hl446002_41]); (try simp only [hl446003_41]); (try simp only [hl446004_41]); (with_reducible repeat (first | apply Kd.R_alloc | apply Kd.R_drewN | apply Kd.R_drew)); exact Kd.R_mono HO_446004.out (fun _ hk => ⟨hk.1.1.1.1.2.1, ⟨hk.1.1.1.1.2.2.1, hk.1.1.1.1.2.2.2⟩⟩)⟩, ⟨by (try simp only [hl446002_41]); (try simp only [hl446003_41]); (try simp only [hl446004_41]); (with_reducible repeat (first | refine blk_drewN ?_ _ | refine blk_drew ?_ | refine blk_alloc ?_ _)); exact BK417.out⟩, ⟨by (try simp only [hl446002_41]); (try simp only [hl446003_41]); (try simp only [hl446004_41]); (with_reducible repeat (first | refine blk_drewN ?_ _ | refine blk_drew ?_ | refine blk_alloc ?_ _)); exact BK445.out⟩, ⟨z9_⟩⟩
             ·replace c75 := Bool.eq_false_iff.mpr c75
              subst c75
              have H1 : (none) = some r := by rw [if_neg (show ¬ (false = true) by decide)] at H; exact H
              clear H
              have H := H1
              clear H1
              exact absurd H (by simp)
            case rest =>
             clear HC64; try clear c57; try clear c60b0; try clear c61b0; try clear c61b1; try clear hcz68_0 hcz68_1 hcz68_2 hcz68_3 hcz68_4; try clear hfz68_0 hfz68_1 hfz68_2 hfz68_3 hfz68_4
             obtain ⟨kq, x95_63, rfl, HA, HJ63, HO_9, HO_446002, HO_446003, HO_446004, BK417, BK445, HB⟩ := hcut
             have hl9_63 := (Kd.R_reads' HO_9.out).1
             rw [hl9_63] at HO_9
             (try simp only [hl9_63])
             (try simp only [hl9_63] at BK417)
             (try simp only [hl9_63] at BK445)
             (try simp only [hl9_63] at HO_446002)
             (try simp only [hl9_63] at HO_446003)
             (try simp only [hl9_63] at HO_446004)
             cases kq with
             | zero => exact absurd HA.out (by simp [laws_FnExactReadForm.j2])
             | succ kj63 =>
              have H := HA.out
              clear HA
              simp only [laws_FnExactReadForm.j2] at H
              by_cases c78 : x95_63 = true
              ·subst c78
               have H1 : (none) = some r := by rw [if_pos rfl] at H; exact H
               clear H
               have H := H1
               clear H1
               exact absurd H (by simp)
              ·replace c78 := Bool.eq_false_iff.mpr c78
               subst c78
               have H1 : ((laws_heldInt64S.f kj63 t469 1).bind fun t487 => (if t487 < 0 then (none) else (if t487 = t468 then (some true) else (none)))) = some r := by rw [if_neg (show ¬ (false = true) by decide)] at H; exact H
               clear H
               have H := H1
               clear H1
               replace H := Option.bind_eq_some_iff.mp H
               obtain ⟨t487, A790, H⟩ := H
               replace H : (if t487 < 0 then (none) else (if t487 = t468 then (some true) else (none))) = some r := H
               have A79 := Aside0.mk A790
               clear A790
               by_cases c80 : t487 < 0
               ·rw [if_pos c80] at H
                exact absurd H (by simp)
               ·rw [if_neg c80] at H
                have c80b0 : decide (t487 < 0) = false := decide_eq_false c80
                clear c80
                by_cases c81 : t487 = t468
                ·rw [if_pos c81] at H
                 have c81b0 : (t487 == t468) = true := beq_iff_eq.mpr c81
                 have c81b1 : (t487 != t468) = false := bne_eq_false_iff_eq.mpr c81
                 clear c81
                 obtain rfl := Option.some.inj H
                 go_wp2_with (first | ((with_reducible refine gate_callee (f := 34) rfl ?_); refine goesL_ (some 98) rfl rfl Tryz.func34 (by kernel_rfl) rfl #[.slice Ao65 t469.length co65, .int .i64 1] rfl z36_ ?_; (with_reducible refine (laws_heldInt64S.calls kj63 _ _ t469 1 t487 _ ?side1 ?side2 A79.out).mono ?_); (case side1 => exact z16_); (case side2 => exact (Kd.R_reads' HO_9.out).2.1); rintro e w' ⟨rfl, ⟨nd, rfl⟩⟩; refine ⟨_, rfl, ?_⟩))
                 go_ret
                 exact ⟨z34_, z9_⟩
                ·rw [if_neg c81] at H
                 exact absurd H (by simp)
           ·rw [if_neg c61] at H
            exact absurd H (by simp)
      ·replace c40 := Bool.eq_false_iff.mpr c40
       subst c40
       have H1 : (none) = some r := by rw [if_neg (show ¬ (false = true) by decide)] at H; exact H
       clear H
       have H := H1
       clear H1
       exact absurd H (by simp)

/-- The pure statement of laws_FnExactReadForm. -/
def laws_FnExactReadForm.Pure : Prop := ∀ (a0_0 : Int) (a0_1 : Int) (l0_2 : List Int) (l0_3 : List Int) (l0_4 : List Int) (a1 : ByteArray), (Lit.int .i64 a0_0).wf = true → (Lit.int .i64 a0_1).wf = true → l0_2.length ≤ maxLen → (∀ x ∈ l0_2, (Lit.int .i64 x).wf = true) → l0_3.length ≤ maxLen → (∀ x ∈ l0_3, (Lit.int .i64 x).wf = true) → l0_4.length ≤ maxLen → (∀ x ∈ l0_4, (Lit.int .i64 x).wf = true) → a1.size ≤ 140737488351232 → ∃ k, laws_FnExactReadForm.f k a0_0 a0_1 l0_2 l0_3 l0_4 a1 = some true
theorem laws_FnExactReadForm.walk (P : laws_FnExactReadForm.Pure) (a0_0 : Int) (a0_1 : Int) (A0_2 : Option Addr) (len0_2 cap0_2 : Nat) (z0_2 : List Int) (A0_3 : Option Addr) (len0_3 cap0_3 : Nat) (z0_3 : List Int) (A0_4 : Option Addr) (len0_4 cap0_4 : Nat) (z0_4 : List Int) (a1 : ByteArray) (w : World) (w0_0 : (Lit.int .i64 a0_0).wf = true) (w0_1 : (Lit.int .i64 a0_1).wf = true) (w0_2 : (A0_2 = none ∧ len0_2 = 0 ∧ cap0_2 = 0 ∧ z0_2 = []) ∨ ∃ x, A0_2 = some x ∧ len0_2 ≤ cap0_2 ∧ cap0_2 ≤ maxLen ∧ z0_2.length = cap0_2 ∧ (∀ i, i < z0_2.length → w.cell? (x.add i) = some (.int .i64 (z0_2.getD i 0))) ∧ ∀ n ∈ z0_2, (Lit.int .i64 n).wf = true) (w0_3 : (A0_3 = none ∧ len0_3 = 0 ∧ cap0_3 = 0 ∧ z0_3 = []) ∨ ∃ x, A0_3 = some x ∧ len0_3 ≤ cap0_3 ∧ cap0_3 ≤ maxLen ∧ z0_3.length = cap0_3 ∧ (∀ i, i < z0_3.length → w.cell? (x.add i) = some (.int .i64 (z0_3.getD i 0))) ∧ ∀ n ∈ z0_3, (Lit.int .i64 n).wf = true) (w0_4 : (A0_4 = none ∧ len0_4 = 0 ∧ cap0_4 = 0 ∧ z0_4 = []) ∨ ∃ x, A0_4 = some x ∧ len0_4 ≤ cap0_4 ∧ cap0_4 ≤ maxLen ∧ z0_4.length = cap0_4 ∧ (∀ i, i < z0_4.length → w.cell? (x.add i) = some (.int .i64 (z0_4.getD i 0))) ∧ ∀ n ∈ z0_4, (Lit.int .i64 n).wf = true) (w1 : a1.size ≤ 140737488351232) :
  Calls Tryz.prog 6 #[.agg #[.int .i64 a0_0, .int .i64 a0_1, .slice A0_2 len0_2 cap0_2, .slice A0_3 len0_3 cap0_3, .slice A0_4 len0_4 cap0_4], .string a1] w fun e w' => e = .returned (.bool true) ∧ Below w.heap.size w w' := by
 obtain ⟨l0_2, rfl, hr0_2, hm0_2, hw0_2, hc0_2⟩ := ReadsInt.ofRowC w0_2
 obtain ⟨l0_3, rfl, hr0_3, hm0_3, hw0_3, hc0_3⟩ := ReadsInt.ofRowC w0_3
 obtain ⟨l0_4, rfl, hr0_4, hm0_4, hw0_4, hc0_4⟩ := ReadsInt.ofRowC w0_4
 obtain ⟨k, h⟩ := P a0_0 a0_1 l0_2 l0_3 l0_4 a1 w0_0 w0_1 hm0_2 hw0_2 hm0_3 hw0_3 hm0_4 hw0_4 w1
 refine (laws_FnExactReadForm.calls k a0_0 a0_1 _ _ l0_2 _ _ l0_3 _ _ l0_4 a1 true w (Kd.C_of_reads (d := (0 : Int)) (h1 := fun _ => rfl) hr0_2) hc0_2 (Kd.C_of_reads (d := (0 : Int)) (h1 := fun _ => rfl) hr0_3) hc0_3 (Kd.C_of_reads (d := (0 : Int)) (h1 := fun _ => rfl) hr0_4) hc0_4 h).mono ?_
 rintro e w' ⟨rfl, hd⟩
 exact ⟨rfl, hd⟩

end Go.Proofs.YtkpidjmhdagkfaaGreatDoor.QFnExactReadForm
-- halved
