-- Written by own_print.py of this session's repo over the kit's print (its output, turned at some places).
import Derived.Test.YtkpidjmhdagkfaaDoorQFnExactImposeSheetx0
import Derived.Test.YtkpidjmhdagkfaaDoorQFnExactImposeSheetx5
import Derived.Test.YtkpidjmhdagkfaaDoorQFnExactImposeSheetx9
import Derived.Test.YtkpidjmhdagkfaaDoorQFnExactImposeSheetx10
namespace Go.Proofs.YtkpidjmhdagkfaaDoor.QFnExactImposeSheet
open Go.RowKit Go.Proofs.YtkpidjmhdagkfaaDoorW.PrintWords Go.Proofs.YtkpidjmhdagkfaaDoorW.PrintLast Go.Proofs.YtkpidjmhdagkfaaDoorW.PrintMore
attribute [local go_sem] max2_int min2_int max_two min_two max_three min_three max_four min_four   -- for this text's walks alone
set_option linter.unusedVariables false
set_option linter.unusedSimpArgs false

/-! ### laws_FnExactImposeSheet: function 3 -/
mutual
def laws_FnExactImposeSheet.j0 : Nat → Int → Int → ByteArray → Int → Bool → Int → Int → List Int → List Int → List Int → Int → Int → List Int → List Int → List Int → Option (Bool)
 | 0, _, _, _, _, _, _, _, _, _, _, _, _, _, _, _ => none
 | k + 1, x0, x1, x2, x8, x40, x348000, x348001, x348002, x348003, x348004, x361000, x361001, x361002, x361003, x361004 => if x40 = true then (none) else ((laws_markForm.f k x361000 x361001 x361002 x361003 x361004 1).bind fun bt362 => ((laws_heldForm.f k x361000 x361001 bt362.2.1 bt362.2.2.1 bt362.2.2.2 1).bind fun t366 => (if t366 < 0 then (none) else (if t366 = bt362.1 then ((impl_ImposeSheet.f k x0 x1 x2).bind fun bt367 => ((laws_eqForm.f k bt367.1 bt367.2.1 bt367.2.2.1 bt367.2.2.2.1 bt367.2.2.2.2.1 x348000 x348001 x348002 x348003 x348004).bind fun t380 => (if t380 = true then (laws_FnExactImposeSheet.j1 k bt362.1 (bt367.2.2.2.2.2 != x8) x361000 x361001 bt362.2.1 bt362.2.2.1 bt362.2.2.2) else (none)))) else (none)))))
def laws_FnExactImposeSheet.j1 : Nat → Int → Bool → Int → Int → List Int → List Int → List Int → Option (Bool)
 | 0, _, _, _, _, _, _, _ => none
 | k + 1, x11, x67, x361000, x361001, x361002, x361003, x361004 => if x67 = true then (none) else ((laws_heldForm.f k x361000 x361001 x361002 x361003 x361004 1).bind fun t381 => (if t381 < 0 then (none) else (if t381 = x11 then (some true) else (none))))
end
def laws_FnExactImposeSheet.f (k : Nat) (a0 : Int) (a1 : Int) (a2 : ByteArray) : Option (Bool) := if (a2.size : Int) > 1048576 then (some true) else ((spec_ImposeSheet.f k a0 a1 a2).bind fun bt335 => ((impl_ImposeSheet.f k a0 a1 a2).bind fun bt348 => ((laws_eqForm.f k bt348.1 bt348.2.1 bt348.2.2.1 bt348.2.2.2.1 bt348.2.2.2.2.1 bt335.1 bt335.2.1 bt335.2.2.1 bt335.2.2.2.1 bt335.2.2.2.2.1).bind fun t361 => (if t361 = true then (laws_FnExactImposeSheet.j0 k a0 a1 a2 bt335.2.2.2.2.2 (bt348.2.2.2.2.2 != bt335.2.2.2.2.2) bt335.1 bt335.2.1 bt335.2.2.1 bt335.2.2.2.1 bt335.2.2.2.2.1 bt348.1 bt348.2.1 bt348.2.2.1 bt348.2.2.2.1 bt348.2.2.2.2.1) else (none)))))
theorem laws_FnExactImposeSheet.mono_l : ∀ k, (∀ y0 y1 y2 y3 y4 y5 y6 y7 y8 y9 y10 y11 y12 y13 y14, LeO (laws_FnExactImposeSheet.j0 k y0 y1 y2 y3 y4 y5 y6 y7 y8 y9 y10 y11 y12 y13 y14) (laws_FnExactImposeSheet.j0 (k + 1) y0 y1 y2 y3 y4 y5 y6 y7 y8 y9 y10 y11 y12 y13 y14)) ∧ (∀ y0 y1 y2 y3 y4 y5 y6, LeO (laws_FnExactImposeSheet.j1 k y0 y1 y2 y3 y4 y5 y6) (laws_FnExactImposeSheet.j1 (k + 1) y0 y1 y2 y3 y4 y5 y6))
 | 0 => ⟨fun _ _ _ _ _ _ _ _ _ _ _ _ _ _ _ r h => by simp [laws_FnExactImposeSheet.j0] at h, fun _ _ _ _ _ _ _ r h => by simp [laws_FnExactImposeSheet.j1] at h⟩
 | k + 1 => by
  obtain ⟨ih0, ih1⟩ := laws_FnExactImposeSheet.mono_l k
  refine ⟨?_, ?_⟩
  ·intro y0 y1 y2 y3 y4 y5 y6 y7 y8 y9 y10 y11 y12 y13 y14
   unfold laws_FnExactImposeSheet.j0
   repeat' first
   | (with_reducible exact ih0 _ _ _ _ _ _ _ _ _ _ _ _ _ _ _)
   | (with_reducible exact ih1 _ _ _ _ _ _ _)
   | (with_reducible exact impl_ImposeSheet.mono _ _ _ _)
   | (with_reducible exact laws_eqForm.mono _ _ _ _ _ _ _ _ _ _ _)
   | (with_reducible exact laws_heldForm.mono _ _ _ _ _ _ _)
   | (with_reducible exact laws_markForm.mono _ _ _ _ _ _ _)
   | (with_reducible exact spec_ImposeSheet.mono _ _ _ _)
   | (with_reducible exact LeO.refl _)
   | (with_reducible exact LeO.none _)
   | (with_reducible refine LeO.ite ?_ ?_)
   | (with_reducible refine LeO.bind ?_ (fun _ => ?_))
   | exact ih0 _ _ _ _ _ _ _ _ _ _ _ _ _ _ _
   | exact ih1 _ _ _ _ _ _ _
   | exact impl_ImposeSheet.mono _ _ _ _
   | exact laws_eqForm.mono _ _ _ _ _ _ _ _ _ _ _
   | exact laws_heldForm.mono _ _ _ _ _ _ _
   | exact laws_markForm.mono _ _ _ _ _ _ _
   | exact spec_ImposeSheet.mono _ _ _ _
   | exact LeO.none _
   | refine LeO.ite ?_ ?_
   | refine LeO.bind ?_ (fun _ => ?_)
  ·intro y0 y1 y2 y3 y4 y5 y6
   unfold laws_FnExactImposeSheet.j1
   repeat' first
   | (with_reducible exact ih0 _ _ _ _ _ _ _ _ _ _ _ _ _ _ _)
   | (with_reducible exact ih1 _ _ _ _ _ _ _)
   | (with_reducible exact impl_ImposeSheet.mono _ _ _ _)
   | (with_reducible exact laws_eqForm.mono _ _ _ _ _ _ _ _ _ _ _)
   | (with_reducible exact laws_heldForm.mono _ _ _ _ _ _ _)
   | (with_reducible exact laws_markForm.mono _ _ _ _ _ _ _)
   | (with_reducible exact spec_ImposeSheet.mono _ _ _ _)
   | (with_reducible exact LeO.refl _)
   | (with_reducible exact LeO.none _)
   | (with_reducible refine LeO.ite ?_ ?_)
   | (with_reducible refine LeO.bind ?_ (fun _ => ?_))
   | exact ih0 _ _ _ _ _ _ _ _ _ _ _ _ _ _ _
   | exact ih1 _ _ _ _ _ _ _
   | exact impl_ImposeSheet.mono _ _ _ _
   | exact laws_eqForm.mono _ _ _ _ _ _ _ _ _ _ _
   | exact laws_heldForm.mono _ _ _ _ _ _ _
   | exact laws_markForm.mono _ _ _ _ _ _ _
   | exact spec_ImposeSheet.mono _ _ _ _
   | exact LeO.none _
   | refine LeO.ite ?_ ?_
   | refine LeO.bind ?_ (fun _ => ?_)
theorem laws_FnExactImposeSheet.mono : ∀ a0 a1 a2 k, LeO (laws_FnExactImposeSheet.f k a0 a1 a2) (laws_FnExactImposeSheet.f (k + 1) a0 a1 a2) := by
 intro a0 a1 a2 k
 obtain ⟨ih0, ih1⟩ := laws_FnExactImposeSheet.mono_l k
 unfold laws_FnExactImposeSheet.f
 repeat' first
   | (with_reducible exact ih0 _ _ _ _ _ _ _ _ _ _ _ _ _ _ _)
   | (with_reducible exact ih1 _ _ _ _ _ _ _)
   | (with_reducible exact impl_ImposeSheet.mono _ _ _ _)
   | (with_reducible exact laws_eqForm.mono _ _ _ _ _ _ _ _ _ _ _)
   | (with_reducible exact laws_heldForm.mono _ _ _ _ _ _ _)
   | (with_reducible exact laws_markForm.mono _ _ _ _ _ _ _)
   | (with_reducible exact spec_ImposeSheet.mono _ _ _ _)
   | (with_reducible exact LeO.refl _)
   | (with_reducible exact LeO.none _)
   | (with_reducible refine LeO.ite ?_ ?_)
   | (with_reducible refine LeO.bind ?_ (fun _ => ?_))
   | exact ih0 _ _ _ _ _ _ _ _ _ _ _ _ _ _ _
   | exact ih1 _ _ _ _ _ _ _
   | exact impl_ImposeSheet.mono _ _ _ _
   | exact laws_eqForm.mono _ _ _ _ _ _ _ _ _ _ _
   | exact laws_heldForm.mono _ _ _ _ _ _ _
   | exact laws_markForm.mono _ _ _ _ _ _ _
   | exact spec_ImposeSheet.mono _ _ _ _
   | exact LeO.none _
   | refine LeO.ite ?_ ?_
   | refine LeO.bind ?_ (fun _ => ?_)
set_option maxHeartbeats 8000000 in
set_option maxRecDepth 100000 in
theorem laws_FnExactImposeSheet.calls (k : Nat) (a0 : Int) (a1 : Int) (a2 : ByteArray) (r : Bool) (w : World) (h : laws_FnExactImposeSheet.f k a0 a1 a2 = some r) :
  Calls Tryd.prog 3 #[.int .i64 a0, .int .i64 a1, .string a2] w fun e w' => e = .returned (.bool r) ∧ Below w.heap.size w w' := by
 have hu24 := Tryd.underlying24
 have HB := a_ (Below.refl w.heap.size w)
 have H : (if (a2.size : Int) > 1048576 then (some true) else ((spec_ImposeSheet.f k a0 a1 a2).bind fun bt335 => ((impl_ImposeSheet.f k a0 a1 a2).bind fun bt348 => ((laws_eqForm.f k bt348.1 bt348.2.1 bt348.2.2.1 bt348.2.2.2.1 bt348.2.2.2.2.1 bt335.1 bt335.2.1 bt335.2.2.1 bt335.2.2.2.1 bt335.2.2.2.2.1).bind fun t361 => (if t361 = true then (laws_FnExactImposeSheet.j0 k a0 a1 a2 bt335.2.2.2.2.2 (bt348.2.2.2.2.2 != bt335.2.2.2.2.2) bt335.1 bt335.2.1 bt335.2.2.1 bt335.2.2.2.1 bt335.2.2.2.2.1 bt348.1 bt348.2.1 bt348.2.2.1 bt348.2.2.2.1 bt348.2.2.2.2.1) else (none)))))) = some r := h
 clear h
 by_cases c4 : (a2.size : Int) > 1048576
 ·rw [if_pos c4] at H
  have c4b0 : decide (1048576 < (a2.size : Int)) = true := decide_eq_true c4
  have c4b1 : decide (1048576 < a2.size) = true := decide_eq_true (by omega)
  clear c4
  obtain rfl := Option.some.inj H
  go_enter Tryd.func3, Tryd.ntmps3
  go_wp2
  go_ret
  exact ⟨z24_, z23_⟩
 ·rw [if_neg c4] at H
  have c4b0 : decide (1048576 < (a2.size : Int)) = false := decide_eq_false c4
  have c4b1 : decide (1048576 < a2.size) = false := decide_eq_false (by omega)
  clear c4
  replace H := Option.bind_eq_some_iff.mp H
  obtain ⟨⟨t335, t336, t337, t340, t343, t346⟩, A50, H⟩ := H
  replace H : ((impl_ImposeSheet.f k a0 a1 a2).bind fun bt348 => ((laws_eqForm.f k bt348.1 bt348.2.1 bt348.2.2.1 bt348.2.2.2.1 bt348.2.2.2.2.1 t335 t336 t337 t340 t343).bind fun t361 => (if t361 = true then (laws_FnExactImposeSheet.j0 k a0 a1 a2 t346 (bt348.2.2.2.2.2 != t346) t335 t336 t337 t340 t343 bt348.1 bt348.2.1 bt348.2.2.1 bt348.2.2.2.1 bt348.2.2.2.2.1) else (none)))) = some r := H
  have A5 := a_ A50
  clear A50
  replace H := Option.bind_eq_some_iff.mp H
  obtain ⟨⟨t348, t349, t350, t353, t356, t359⟩, A60, H⟩ := H
  replace H : ((laws_eqForm.f k t348 t349 t350 t353 t356 t335 t336 t337 t340 t343).bind fun t361 => (if t361 = true then (laws_FnExactImposeSheet.j0 k a0 a1 a2 t346 (t359 != t346) t335 t336 t337 t340 t343 t348 t349 t350 t353 t356) else (none))) = some r := H
  have A6 := a_ A60
  clear A60
  have HC7 := a_ H
  clear H
  go_enter Tryd.func3, Tryd.ntmps3
  go_upto_region 5 with (first | ((with_reducible refine gate_callee (f := 4) rfl ?_); refine goesL_ (some 22) rfl rfl Tryd.func4 (by kernel_rfl) rfl #[.int .i64 a0, .int .i64 a1, .string a2] rfl z27_ ?_; (with_reducible refine (spec_ImposeSheet.calls k a0 a1 a2 t335 t336 t337 t340 t343 t346 _ A5.out).mono ?_); rintro e w8 ⟨v338, v341, v344, rfl, ho0, ho1, ho2, hb⟩; refine ⟨_, rfl, ?_⟩; have HO339 := a_ (Kd.R_lower ho0 (below_size z23_)); have HO342 := a_ (Kd.R_lower ho1 (below_size z23_)); have HO345 := a_ (Kd.R_lower ho2 (below_size z23_)); replace HB := bst_ z23_ hb; (try clear hb); (try clear hb2); (try clear hk); (try clear hi); (try clear ho0); (try clear ho1); (try clear ho2)) | ((with_reducible refine gate_dst (N := 7) rfl ?_); refine box_event ?hg (N := 7) ?hd (cs := #[.int .i64 0, .int .i64 0, .slice none 0 0, .slice none 0 0, .slice none 0 0]) (t := 24) ?hr ?_; (case hd => rfl); (case hg => rfl); (case hr => first | (go_simp; done) | (go_simp; rfl)); intro gb347 hg w9 hbox hb; replace HO339 := rl_ HO339 hb; replace HO342 := rl_ HO342 hb; replace HO345 := rl_ HO345 hb; have BK347 := a_ (hbox); have GW347 := a_ ((z22_ : w.heap.size ≤ gb347)); have GE347 := a_ ((z22_ : w.heap.size ≤ gb347)); replace HB := bst_ z23_ hb; clear hb hbox hg; obtain ⟨hcz10_0, hcz10_1, hcz10_2, hcz10_3, hcz10_4, hfz10_0, hfz10_1, hfz10_2, hfz10_3, hfz10_4⟩ := cz5_ (w := w9) BK347.out; obtain ⟨Ao11, co11, eo11⟩ := Kd.R_slice HO339.out; subst eo11; obtain ⟨Ao12, co12, eo12⟩ := Kd.R_slice HO342.out; subst eo12; obtain ⟨Ao13, co13, eo13⟩ := Kd.R_slice HO345.out; subst eo13) | ((with_reducible refine gate_callee (f := 5) rfl ?_); refine goesL_ (some 29) rfl rfl Tryd.func5 (by kernel_rfl) rfl #[.int .i64 a0, .int .i64 a1, .string a2] rfl z27_ ?_; (with_reducible refine (impl_ImposeSheet.calls k a0 a1 a2 t348 t349 t350 t353 t356 t359 _ A6.out).mono ?_); rintro e w14 ⟨v351, v354, v357, rfl, ho0, ho1, ho2, hb⟩; refine ⟨_, rfl, ?_⟩; have HO352 := a_ (Kd.R_lower (Kd.R_new' (Kd.R_new' (Kd.R_new' ho0 (Kd.R_lt (rc_ (h := by exact Kd.R_mono (rt5_ HO339.out BK347.out) (fun _ h_ => h_.1))))) (Kd.R_lt (rc_ (h := by exact Kd.R_mono (rt5_ HO342.out BK347.out) (fun _ h_ => h_.1))))) (Kd.R_lt (rc_ (h := by exact Kd.R_mono (rt5_ HO345.out BK347.out) (fun _ h_ => h_.1))))) (below_size z21_)); have HO355 := a_ (Kd.R_lower (Kd.R_new' (Kd.R_new' (Kd.R_new' ho1 (Kd.R_lt (rc_ (h := by exact Kd.R_mono (rt5_ HO339.out BK347.out) (fun _ h_ => h_.1))))) (Kd.R_lt (rc_ (h := by exact Kd.R_mono (rt5_ HO342.out BK347.out) (fun _ h_ => h_.1))))) (Kd.R_lt (rc_ (h := by exact Kd.R_mono (rt5_ HO345.out BK347.out) (fun _ h_ => h_.1))))) (below_size z21_)); have HO358 := a_ (Kd.R_lower (Kd.R_new' (Kd.R_new' (Kd.R_new' ho2 (Kd.R_lt (rc_ (h := by exact Kd.R_mono (rt5_ HO339.out BK347.out) (fun _ h_ => h_.1))))) (Kd.R_lt (rc_ (h := by exact Kd.R_mono (rt5_ HO342.out BK347.out) (fun _ h_ => h_.1))))) (Kd.R_lt (rc_ (h := by exact Kd.R_mono (rt5_ HO345.out BK347.out) (fun _ h_ => h_.1))))) (below_size z21_)); replace HO339 := a_ (Kd.R_mono (Kd.R_told (Kd.R_told (Kd.R_told (Kd.R_old (rc_ (h := by exact Kd.R_mono (rt5_ HO339.out BK347.out) (fun _ h_ => h_.1))) hb) (Kd.R_base ho0)) (Kd.R_base ho1)) (Kd.R_base ho2)) (fun _ h_ => h_.1)); replace HO342 := a_ (Kd.R_mono (Kd.R_told (Kd.R_told (Kd.R_told (Kd.R_old (rc_ (h := by exact Kd.R_mono (rt5_ HO342.out BK347.out) (fun _ h_ => h_.1))) hb) (Kd.R_base ho0)) (Kd.R_base ho1)) (Kd.R_base ho2)) (fun _ h_ => h_.1)); replace HO345 := a_ (Kd.R_mono (Kd.R_told (Kd.R_told (Kd.R_told (Kd.R_old (rc_ (h := by exact Kd.R_mono (rt5_ HO345.out BK347.out) (fun _ h_ => h_.1))) hb) (Kd.R_base ho0)) (Kd.R_base ho1)) (Kd.R_base ho2)) (fun _ h_ => h_.1)); replace BK347 := a_ (blk_below (g := gb347) (o := .cells #[.int .i64 t335, .int .i64 t336, .slice Ao11 t337.length co11, .slice Ao12 t340.length co12, .slice Ao13 t343.length co13] 24 (0, 0)) (rb2_ (h := by exact bp5x5_ BK347.out)) hb); replace HB := bst_ z21_ hb; (try clear hb); (try clear hb2); (try clear hk); (try clear hi); (try clear ho0); (try clear ho1); (try clear ho2)) | ((with_reducible refine gate_dst (N := 9) rfl ?_); refine box_event ?hg (N := 9) ?hd (cs := #[.int .i64 0, .int .i64 0, .slice none 0 0, .slice none 0 0, .slice none 0 0]) (t := 24) ?hr ?_; (case hd => rfl); (case hg => rfl); (case hr => first | (go_simp; done) | (go_simp; rfl)); intro gb360 hg w15 hbox hb; replace HO339 := rl_ HO339 hb; replace HO342 := rl_ HO342 hb; replace HO345 := rl_ HO345 hb; replace HO352 := rl_ HO352 hb; replace HO355 := rl_ HO355 hb; replace HO358 := rl_ HO358 hb; have BK360 := a_ (hbox); have GW360 := a_ ((by rw [hg]; exact (below_size z21_) : w.heap.size ≤ gb360)); have GE360 := a_ ((by rw [hg]; exact (below_size z21_) : w.heap.size ≤ gb360)); replace HB := bst_ z21_ hb; have NB347_360 := a_ ((by rw [hg]; exact Nat.ne_of_lt (blk_lt (g := gb347) (rb_ BK347.out)) : gb347 ≠ gb360)); have NB360_347 := a_ ((by rw [hg]; exact Nat.ne_of_gt (blk_lt (g := gb347) (rb_ BK347.out)) : gb360 ≠ gb347)); replace BK347 := bb_ gb347 BK347 hb; clear hb hbox hg; have hnb16 := NB360_347.out; have hnc16 := NB347_360.out; obtain ⟨hcz17_0, hcz17_1, hcz17_2, hcz17_3, hcz17_4, hfz17_0, hfz17_1, hfz17_2, hfz17_3, hfz17_4⟩ := cz5_ (w := w15) BK360.out; obtain ⟨Ao18, co18, eo18⟩ := Kd.R_slice HO352.out; subst eo18; obtain ⟨Ao19, co19, eo19⟩ := Kd.R_slice HO355.out; subst eo19; obtain ⟨Ao20, co20, eo20⟩ := Kd.R_slice HO358.out; subst eo20))
  (try simp only [Act.put, List.setIfInBounds_toArray, List.set_cons_zero, List.set_cons_succ])
  go_cut [40] (fun v40 wc => ∃ (kq : Nat) (x40_6 : Bool), v40 = .bool x40_6 ∧ Aside0 (laws_FnExactImposeSheet.j0 kq a0 a1 a2 t346 x40_6 t335 t336 t337 t340 t343 t348 t349 t350 t353 t356 = some r) ∧ Aside0 (kq ≤ k) ∧ Aside0 (Kd.R (Kd.int .i64) 2 wc w.heap.size (fun k_ => nb_ k_ Ao12 t340.length co12 ∧ nb_ k_ Ao13 t343.length co13 ∧ nb_ k_ Ao18 t350.length co18 ∧ nb_ k_ Ao19 t353.length co19 ∧ nb_ k_ Ao20 t356.length co20) (.slice Ao11 t337.length co11) t337) ∧ Aside0 (Kd.R (Kd.int .i64) 2 wc w.heap.size (fun k_ => nb_ k_ Ao11 t337.length co11 ∧ nb_ k_ Ao13 t343.length co13 ∧ nb_ k_ Ao18 t350.length co18 ∧ nb_ k_ Ao19 t353.length co19 ∧ nb_ k_ Ao20 t356.length co20) (.slice Ao12 t340.length co12) t340) ∧ Aside0 (Kd.R (Kd.int .i64) 2 wc w.heap.size (fun k_ => nb_ k_ Ao11 t337.length co11 ∧ nb_ k_ Ao12 t340.length co12 ∧ nb_ k_ Ao18 t350.length co18 ∧ nb_ k_ Ao19 t353.length co19 ∧ nb_ k_ Ao20 t356.length co20) (.slice Ao13 t343.length co13) t343) ∧ Aside0 (Kd.R (Kd.int .i64) 2 wc w.heap.size (fun k_ => nb_ k_ Ao11 t337.length co11 ∧ nb_ k_ Ao12 t340.length co12 ∧ nb_ k_ Ao13 t343.length co13 ∧ nb_ k_ Ao19 t353.length co19 ∧ nb_ k_ Ao20 t356.length co20) (.slice Ao18 t350.length co18) t350) ∧ Aside0 (Kd.R (Kd.int .i64) 2 wc w.heap.size (fun k_ => nb_ k_ Ao11 t337.length co11 ∧ nb_ k_ Ao12 t340.length co12 ∧ nb_ k_ Ao13 t343.length co13 ∧ nb_ k_ Ao18 t350.length co18 ∧ nb_ k_ Ao20 t356.length co20) (.slice Ao19 t353.length co19) t353) ∧ Aside0 (Kd.R (Kd.int .i64) 2 wc w.heap.size (fun k_ => nb_ k_ Ao11 t337.length co11 ∧ nb_ k_ Ao12 t340.length co12 ∧ nb_ k_ Ao13 t343.length co13 ∧ nb_ k_ Ao18 t350.length co18 ∧ nb_ k_ Ao19 t353.length co19) (.slice Ao20 t356.length co20) t356) ∧ Aside0 (wc.heap[gb347]? = some (.cells #[.int .i64 t335, .int .i64 t336, (.slice Ao11 t337.length co11), (.slice Ao12 t340.length co12), (.slice Ao13 t343.length co13)] 24 (0, 0))) ∧ Aside0 (wc.heap[gb360]? = some (.cells #[.int .i64 t348, .int .i64 t349, (.slice Ao18 t350.length co18), (.slice Ao19 t353.length co19), (.slice Ao20 t356.length co20)] 24 (0, 0))) ∧ Aside0 (Below w.heap.size w wc))
  case first =>
   have H := HC7.out
   clear HC7
   replace H := Option.bind_eq_some_iff.mp H
   obtain ⟨t361, A210, H⟩ := H
   replace H : (if t361 = true then (laws_FnExactImposeSheet.j0 k a0 a1 a2 t346 (t359 != t346) t335 t336 t337 t340 t343 t348 t349 t350 t353 t356) else (none)) = some r := H
   have A21 := a_ A210
   clear A210
   by_cases c22 : t361 = true
   ·subst c22
    have H1 : (laws_FnExactImposeSheet.j0 k a0 a1 a2 t346 (t359 != t346) t335 t336 t337 t340 t343 t348 t349 t350 t353 t356) = some r := by rw [if_pos rfl] at H; exact H
    clear H
    have H := H1
    clear H1
    have H' := a_ H
    clear H
    have hnb23 := NB360_347.out
    have hnc23 := NB347_360.out
    obtain ⟨hcz24_0, hcz24_1, hcz24_2, hcz24_3, hcz24_4, hfz24_0, hfz24_1, hfz24_2, hfz24_3, hfz24_4⟩ := cz5_ (w := w15) BK360.out
    obtain ⟨hcz25_0, hcz25_1, hcz25_2, hcz25_3, hcz25_4, hfz25_0, hfz25_1, hfz25_2, hfz25_3, hfz25_4⟩ := cz5_ (w := w15) BK347.out
    go_wp2_with (first | ((with_reducible refine gate_callee (f := 6) rfl ?_); refine goesL_ (some 34) rfl rfl Tryd.func6 (by kernel_rfl) rfl #[.agg #[.int .i64 t348, .int .i64 t349, .slice Ao18 t350.length co18, .slice Ao19 t353.length co19, .slice Ao20 t356.length co20], .agg #[.int .i64 t335, .int .i64 t336, .slice Ao11 t337.length co11, .slice Ao12 t340.length co12, .slice Ao13 t343.length co13]] rfl z27_ ?_; (with_reducible refine (laws_eqForm.calls k t348 t349 _ _ t350 _ _ t353 _ _ t356 t335 t336 _ _ t337 _ _ t340 _ _ t343 true _ ?side1 ?side2 ?side3 ?side4 ?side5 ?side6 ?side7 ?side8 ?side9 ?side10 ?side11 ?side12 A21.out).mono ?_); (case side1 => refine (Kd.R_reads' (e := 2) (base := w.heap.size) (ok := fun k_ => ((((nb_ k_ Ao19 t353.length co19 ∧ nb_ k_ Ao20 t356.length co20) ∧ nb_ k_ Ao11 t337.length co11) ∧ nb_ k_ Ao12 t340.length co12) ∧ nb_ k_ Ao13 t343.length co13)) (n := t350.length) (c := co18) ?_).2.2; exact (rc_ (h := by exact Kd.R_mono (rt5_ HO352.out BK360.out) (fun _ h_ => h_.1)))); (case side2 => exact (Kd.R_reads' HO352.out).2.1); (case side3 => refine (Kd.R_reads' (e := 2) (base := w.heap.size) (ok := fun k_ => ((((nb_ k_ Ao18 t350.length co18 ∧ nb_ k_ Ao20 t356.length co20) ∧ nb_ k_ Ao11 t337.length co11) ∧ nb_ k_ Ao12 t340.length co12) ∧ nb_ k_ Ao13 t343.length co13)) (n := t353.length) (c := co19) ?_).2.2; exact (rc_ (h := by exact Kd.R_mono (rt5_ HO355.out BK360.out) (fun _ h_ => h_.1)))); (case side4 => exact (Kd.R_reads' HO355.out).2.1); (case side5 => refine (Kd.R_reads' (e := 2) (base := w.heap.size) (ok := fun k_ => ((((nb_ k_ Ao18 t350.length co18 ∧ nb_ k_ Ao19 t353.length co19) ∧ nb_ k_ Ao11 t337.length co11) ∧ nb_ k_ Ao12 t340.length co12) ∧ nb_ k_ Ao13 t343.length co13)) (n := t356.length) (c := co20) ?_).2.2; exact (rc_ (h := by exact Kd.R_mono (rt5_ HO358.out BK360.out) (fun _ h_ => h_.1)))); (case side6 => exact (Kd.R_reads' HO358.out).2.1); (case side7 => refine (Kd.R_reads' (e := 2) (base := w.heap.size) (ok := fun k_ => ((((nb_ k_ Ao12 t340.length co12 ∧ nb_ k_ Ao13 t343.length co13) ∧ nb_ k_ Ao18 t350.length co18) ∧ nb_ k_ Ao19 t353.length co19) ∧ nb_ k_ Ao20 t356.length co20)) (n := t337.length) (c := co11) ?_).2.2; exact (rc_ (h := by exact Kd.R_mono (rt5_ HO339.out BK360.out) (fun _ h_ => h_.1)))); (case side8 => exact (Kd.R_reads' HO339.out).2.1); (case side9 => refine (Kd.R_reads' (e := 2) (base := w.heap.size) (ok := fun k_ => ((((nb_ k_ Ao11 t337.length co11 ∧ nb_ k_ Ao13 t343.length co13) ∧ nb_ k_ Ao18 t350.length co18) ∧ nb_ k_ Ao19 t353.length co19) ∧ nb_ k_ Ao20 t356.length co20)) (n := t340.length) (c := co12) ?_).2.2; exact (rc_ (h := by exact Kd.R_mono (rt5_ HO342.out BK360.out) (fun _ h_ => h_.1)))); (case side10 => exact (Kd.R_reads' HO342.out).2.1); (case side11 => refine (Kd.R_reads' (e := 2) (base := w.heap.size) (ok := fun k_ => ((((nb_ k_ Ao11 t337.length co11 ∧ nb_ k_ Ao12 t340.length co12) ∧ nb_ k_ Ao18 t350.length co18) ∧ nb_ k_ Ao19 t353.length co19) ∧ nb_ k_ Ao20 t356.length co20)) (n := t343.length) (c := co13) ?_).2.2; exact (rc_ (h := by exact Kd.R_mono (rt5_ HO345.out BK360.out) (fun _ h_ => h_.1)))); (case side12 => exact (Kd.R_reads' HO345.out).2.1); rintro e w26 ⟨rfl, hb⟩; refine ⟨_, rfl, ?_⟩; replace HO339 := a_ (Kd.R_below (rc_ (h := by exact Kd.R_mono (rt5_ HO339.out BK360.out) (fun _ h_ => h_.1))) hb); replace HO342 := a_ (Kd.R_below (rc_ (h := by exact Kd.R_mono (rt5_ HO342.out BK360.out) (fun _ h_ => h_.1))) hb); replace HO345 := a_ (Kd.R_below (rc_ (h := by exact Kd.R_mono (rt5_ HO345.out BK360.out) (fun _ h_ => h_.1))) hb); replace HO352 := a_ (Kd.R_below (rc_ (h := by exact Kd.R_mono (rt5_ HO352.out BK360.out) (fun _ h_ => h_.1))) hb); replace HO355 := a_ (Kd.R_below (rc_ (h := by exact Kd.R_mono (rt5_ HO355.out BK360.out) (fun _ h_ => h_.1))) hb); replace HO358 := a_ (Kd.R_below (rc_ (h := by exact Kd.R_mono (rt5_ HO358.out BK360.out) (fun _ h_ => h_.1))) hb); replace BK347 := a_ (blk_below (g := gb347) (o := .cells #[.int .i64 t335, .int .i64 t336, .slice Ao11 t337.length co11, .slice Ao12 t340.length co12, .slice Ao13 t343.length co13] 24 (0, 0)) (rb2_ (h := by exact bf5_ NB347_360.out BK347.out)) hb); replace BK360 := a_ (blk_below (g := gb360) (o := .cells #[.int .i64 t348, .int .i64 t349, .slice Ao18 t350.length co18, .slice Ao19 t353.length co19, .slice Ao20 t356.length co20] 24 (0, 0)) (rb2_ (h := by exact bp5x5_ BK360.out)) hb); replace HB := bst_ z11_ hb; (try clear hb); (try clear hb2); (try clear hk); (try clear hi)))
    go_meet
    case rel => exact ⟨_, ((t359 != t346)), z48_, H', ⟨by first | omega | exact Nat.le_refl _⟩, ⟨by (with_reducible repeat (first | apply Kd.R_alloc | apply Kd.R_drewN | apply Kd.R_drew)); exact Kd.R_mono HO339.out (fun _ hk => ⟨hk.1.1.1.1, ⟨hk.1.1.1.2, ⟨hk.1.1.2, ⟨hk.1.2, hk.2⟩⟩⟩⟩)⟩, ⟨by (with_reducible repeat (first | apply Kd.R_alloc | apply Kd.R_drewN | apply Kd.R_drew)); exact Kd.R_mono HO342.out (fun _ hk => ⟨hk.1.1.1.1, ⟨hk.1.1.1.2, ⟨hk.1.1.2, ⟨hk.1.2, hk.2⟩⟩⟩⟩)⟩, ⟨by (with_reducible repeat (first | apply Kd.R_alloc | apply Kd.R_drewN | apply Kd.R_drew)); exact Kd.R_mono HO345.out (fun _ hk => ⟨hk.1.1.1.1, ⟨hk.1.1.1.2, ⟨hk.1.1.2, ⟨hk.1.2, hk.2⟩⟩⟩⟩)⟩, ⟨by (with_reducible repeat (first | apply Kd.R_alloc | apply Kd.R_drewN | apply Kd.R_drew)); exact Kd.R_mono HO352.out (fun _ hk => ⟨hk.1.1.2, ⟨hk.1.2, ⟨hk.2, ⟨hk.1.1.1.1, hk.1.1.1.2⟩⟩⟩⟩)⟩, ⟨by (with_reducible repeat (first | apply Kd.R_alloc | apply Kd.R_drewN | apply Kd.R_drew)); exact Kd.R_mono HO355.out (fun _ hk => ⟨hk.1.1.2, ⟨hk.1.2, ⟨hk.2, ⟨hk.1.1.1.1, hk.1.1.1.2⟩⟩⟩⟩)⟩, ⟨by (with_reducible repeat (first | apply Kd.R_alloc | apply Kd.R_drewN | apply Kd.R_drew)); exact Kd.R_mono HO358.out (fun _ hk => ⟨hk.1.1.2, ⟨hk.1.2, ⟨hk.2, ⟨hk.1.1.1.1, hk.1.1.1.2⟩⟩⟩⟩)⟩, ⟨by (with_reducible repeat (first | refine blk_drewN ?_ _ | refine blk_drew ?_ | refine blk_alloc ?_ _)); exact BK347.out⟩, ⟨by (with_reducible repeat (first | refine blk_drewN ?_ _ | refine blk_drew ?_ | refine blk_alloc ?_ _)); exact BK360.out⟩, ⟨z11_⟩⟩
   ·replace c22 := Bool.eq_false_iff.mpr c22
    subst c22
    have H1 : (none) = some r := by rw [if_neg (show ¬ (false = true) by decide)] at H; exact H
    clear H
    have H := H1
    clear H1
    exact absurd H (by simp)
  case rest =>
   clear HC7; try clear c4b0; try clear c4b1; try clear hcz10_0 hcz10_1 hcz10_2 hcz10_3 hcz10_4; try clear hcz17_0 hcz17_1 hcz17_2 hcz17_3 hcz17_4; try clear hfz10_0 hfz10_1 hfz10_2 hfz10_3 hfz10_4; try clear hfz17_0 hfz17_1 hfz17_2 hfz17_3 hfz17_4
   obtain ⟨kq, x40_6, rfl, HA, HJ6, HO_348002, HO_348003, HO_348004, HO_361002, HO_361003, HO_361004, BK347, BK360, HB⟩ := hcut
   cases kq with
   | zero => exact absurd HA.out (by simp [laws_FnExactImposeSheet.j0])
   | succ kj6 =>
    have H := HA.out
    clear HA
    simp only [laws_FnExactImposeSheet.j0] at H
    by_cases c27 : x40_6 = true
    ·subst c27
     have H1 : (none) = some r := by rw [if_pos rfl] at H; exact H
     clear H
     have H := H1
     clear H1
     exact absurd H (by simp)
    ·replace c27 := Bool.eq_false_iff.mpr c27
     subst c27
     have H1 : ((laws_markForm.f kj6 t348 t349 t350 t353 t356 1).bind fun bt362 => ((laws_heldForm.f kj6 t348 t349 bt362.2.1 bt362.2.2.1 bt362.2.2.2 1).bind fun t366 => (if t366 < 0 then (none) else (if t366 = bt362.1 then ((impl_ImposeSheet.f kj6 a0 a1 a2).bind fun bt367 => ((laws_eqForm.f kj6 bt367.1 bt367.2.1 bt367.2.2.1 bt367.2.2.2.1 bt367.2.2.2.2.1 t335 t336 t337 t340 t343).bind fun t380 => (if t380 = true then (laws_FnExactImposeSheet.j1 kj6 bt362.1 (bt367.2.2.2.2.2 != t346) t348 t349 bt362.2.1 bt362.2.2.1 bt362.2.2.2) else (none)))) else (none))))) = some r := by rw [if_neg (show ¬ (false = true) by decide)] at H; exact H
     clear H
     have H := H1
     clear H1
     replace H := Option.bind_eq_some_iff.mp H
     obtain ⟨⟨t362, t363, t364, t365⟩, A280, H⟩ := H
     replace H : ((laws_heldForm.f kj6 t348 t349 t363 t364 t365 1).bind fun t366 => (if t366 < 0 then (none) else (if t366 = t362 then ((impl_ImposeSheet.f kj6 a0 a1 a2).bind fun bt367 => ((laws_eqForm.f kj6 bt367.1 bt367.2.1 bt367.2.2.1 bt367.2.2.2.1 bt367.2.2.2.2.1 t335 t336 t337 t340 t343).bind fun t380 => (if t380 = true then (laws_FnExactImposeSheet.j1 kj6 t362 (bt367.2.2.2.2.2 != t346) t348 t349 t363 t364 t365) else (none)))) else (none)))) = some r := H
     have A28 := a_ A280
     clear A280
     replace H := Option.bind_eq_some_iff.mp H
     obtain ⟨t366, A290, H⟩ := H
     replace H : (if t366 < 0 then (none) else (if t366 = t362 then ((impl_ImposeSheet.f kj6 a0 a1 a2).bind fun bt367 => ((laws_eqForm.f kj6 bt367.1 bt367.2.1 bt367.2.2.1 bt367.2.2.2.1 bt367.2.2.2.2.1 t335 t336 t337 t340 t343).bind fun t380 => (if t380 = true then (laws_FnExactImposeSheet.j1 kj6 t362 (bt367.2.2.2.2.2 != t346) t348 t349 t363 t364 t365) else (none)))) else (none))) = some r := H
     have A29 := a_ A290
     clear A290
     by_cases c30 : t366 < 0
     ·rw [if_pos c30] at H
      exact absurd H (by simp)
     ·rw [if_neg c30] at H
      have c30b0 : decide (t366 < 0) = false := decide_eq_false c30
      clear c30
      by_cases c31 : t366 = t362
      ·rw [if_pos c31] at H
       have c31b0 : (t366 == t362) = true := beq_iff_eq.mpr c31
       have c31b1 : (t366 != t362) = false := bne_eq_false_iff_eq.mpr c31
       clear c31
       replace H := Option.bind_eq_some_iff.mp H
       obtain ⟨⟨t367, t368, t369, t372, t375, t378⟩, A320, H⟩ := H
       replace H : ((laws_eqForm.f kj6 t367 t368 t369 t372 t375 t335 t336 t337 t340 t343).bind fun t380 => (if t380 = true then (laws_FnExactImposeSheet.j1 kj6 t362 (t378 != t346) t348 t349 t363 t364 t365) else (none))) = some r := H
       have A32 := a_ A320
       clear A320
       have HC33 := a_ H
       clear H
       have hnb34 := NB360_347.out
       have hnc34 := NB347_360.out
       obtain ⟨hcz35_0, hcz35_1, hcz35_2, hcz35_3, hcz35_4, hfz35_0, hfz35_1, hfz35_2, hfz35_3, hfz35_4⟩ := cz5_ (w := wc) BK360.out
       go_upto_region 16 with (first | ((with_reducible refine gate_callee (f := 7) rfl ?_); refine goesL_ (some 43) rfl rfl Tryd.func7 (by kernel_rfl) rfl #[.agg #[.int .i64 t348, .int .i64 t349, .slice Ao18 t350.length co18, .slice Ao19 t353.length co19, .slice Ao20 t356.length co20], .int .i64 1] rfl z27_ ?_; (with_reducible refine (laws_markForm.calls kj6 t348 t349 (fun k_ => some k_ = (.slice Ao18 t350.length co18 : Value).ownBlock) (.slice Ao18 t350.length co18) t350 (fun k_ => some k_ = (.slice Ao19 t353.length co19 : Value).ownBlock) (.slice Ao19 t353.length co19) t353 (fun k_ => some k_ = (.slice Ao20 t356.length co20 : Value).ownBlock) (.slice Ao20 t356.length co20) t356 1 t362 t363 t364 t365 w _ ?side1 ?side2 ?side3 ?side4 ?side5 ?side6 ?side7 ?side8 ?side9 ?side10 A28.out).mono ?_); (case side1 => exact z11_); (case side2 => exact Kd.R_tight rfl HO_361002.out); (case side3 => exact fun k_ e_ => (HO_361002.out.1 k_ e_.symm).2.2.2.1); (case side4 => exact fun k_ e_ => (HO_361002.out.1 k_ e_.symm).2.2.2.2); (case side5 => exact Kd.R_tight rfl HO_361003.out); (case side6 => exact fun k_ e_ => (HO_361003.out.1 k_ e_.symm).2.2.2.1); (case side7 => exact fun k_ e_ => (HO_361003.out.1 k_ e_.symm).2.2.2.2); (case side8 => exact Kd.R_tight rfl HO_361004.out); (case side9 => exact fun k_ e_ => (HO_361004.out.1 k_ e_.symm).2.2.2.1); (case side10 => exact fun k_ e_ => (HO_361004.out.1 k_ e_.symm).2.2.2.2); rintro e w36 ⟨rfl, hy0, hy1, hy2, hb, hkp⟩; refine ⟨_, rfl, ?_⟩; replace HO_348002 := a_ (Kd.R_mono (ok' := fun k_ => nb_ k_ Ao12 t340.length co12 ∧ nb_ k_ Ao13 t343.length co13 ∧ nb_ k_ Ao18 t350.length co18 ∧ nb_ k_ Ao19 t353.length co19 ∧ nb_ k_ Ao20 t356.length co20) (Kd.R_keptB (HO_348002.out) hkp (fun k_ hk_ hs_ => Or.elim hs_ (fun e_ => (hk_.2.2.1) e_) (fun e_ => Or.elim e_ (fun e_ => (hk_.2.2.2.1) e_) (fun e_ => (hk_.2.2.2.2) e_)))) (fun k_ hk_ => ⟨hk_.1.1, hk_.1.2.1, hk_.1.2.2.1, hk_.1.2.2.2.1, hk_.1.2.2.2.2⟩)); replace HO_348003 := a_ (Kd.R_mono (ok' := fun k_ => nb_ k_ Ao11 t337.length co11 ∧ nb_ k_ Ao13 t343.length co13 ∧ nb_ k_ Ao18 t350.length co18 ∧ nb_ k_ Ao19 t353.length co19 ∧ nb_ k_ Ao20 t356.length co20) (Kd.R_keptB (HO_348003.out) hkp (fun k_ hk_ hs_ => Or.elim hs_ (fun e_ => (hk_.2.2.1) e_) (fun e_ => Or.elim e_ (fun e_ => (hk_.2.2.2.1) e_) (fun e_ => (hk_.2.2.2.2) e_)))) (fun k_ hk_ => ⟨hk_.1.1, hk_.1.2.1, hk_.1.2.2.1, hk_.1.2.2.2.1, hk_.1.2.2.2.2⟩)); replace HO_348004 := a_ (Kd.R_mono (ok' := fun k_ => nb_ k_ Ao11 t337.length co11 ∧ nb_ k_ Ao12 t340.length co12 ∧ nb_ k_ Ao18 t350.length co18 ∧ nb_ k_ Ao19 t353.length co19 ∧ nb_ k_ Ao20 t356.length co20) (Kd.R_keptB (HO_348004.out) hkp (fun k_ hk_ hs_ => Or.elim hs_ (fun e_ => (hk_.2.2.1) e_) (fun e_ => Or.elim e_ (fun e_ => (hk_.2.2.2.1) e_) (fun e_ => (hk_.2.2.2.2) e_)))) (fun k_ hk_ => ⟨hk_.1.1, hk_.1.2.1, hk_.1.2.2.1, hk_.1.2.2.2.1, hk_.1.2.2.2.2⟩)); replace BK347 := a_ (blk_kept (rb_ BK347.out) hkp (fun hs_ => Or.elim hs_ (fun e_ => (fun e_ => (Kd.R_ne HO_361002.out BK347.out (by decide)) e_) e_) (fun e_ => Or.elim e_ (fun e_ => (fun e_ => (Kd.R_ne HO_361003.out BK347.out (by decide)) e_) e_) (fun e_ => (fun e_ => (Kd.R_ne HO_361004.out BK347.out (by decide)) e_) e_)))); replace BK360 := a_ (blk_kept (rb_ BK360.out) hkp (fun hs_ => Or.elim hs_ (fun e_ => (fun e_ => (Kd.R_ne HO_361002.out BK360.out (by decide)) e_) e_) (fun e_ => Or.elim e_ (fun e_ => (fun e_ => (Kd.R_ne HO_361003.out BK360.out (by decide)) e_) e_) (fun e_ => (fun e_ => (Kd.R_ne HO_361004.out BK360.out (by decide)) e_) e_)))); replace HO_361002 := a_ (Kd.R_reok rfl hy0 (fun k_ e_ => HO_361002.out.1 k_ e_)); replace HO_361003 := a_ (Kd.R_reok rfl hy1 (fun k_ e_ => HO_361003.out.1 k_ e_)); replace HO_361004 := a_ (Kd.R_reok rfl hy2 (fun k_ e_ => HO_361004.out.1 k_ e_)); replace HB := a_ (hb); (try clear hb); (try clear hkp); (try clear hy0); (try clear hy1); (try clear hy2); obtain ⟨hcz37_0, hcz37_1, hcz37_2, hcz37_3, hcz37_4, hfz37_0, hfz37_1, hfz37_2, hfz37_3, hfz37_4⟩ := cz5_ (w := w36) BK360.out) | ((with_reducible refine gate_callee (f := 8) rfl ?_); refine goesL_ (some 46) rfl rfl Tryd.func8 (by kernel_rfl) rfl #[.agg #[.int .i64 t348, .int .i64 t349, .slice Ao18 t363.length co18, .slice Ao19 t364.length co19, .slice Ao20 t365.length co20], .int .i64 1] rfl (by (try simp only [List.map_toArray, List.map_cons, List.map_nil]); first | done | (rw [show t363.length = t350.length from (Kd.R_reads' HO_361002.out).1.symm, show t364.length = t353.length from (Kd.R_reads' HO_361003.out).1.symm, show t365.length = t356.length from (Kd.R_reads' HO_361004.out).1.symm] <;> rfl) | rfl | (simp only [List.length_drop, List.length_take]; rfl)) ?_; (with_reducible refine (laws_heldForm.calls kj6 t348 t349 _ _ t363 _ _ t364 _ _ t365 1 t366 _ ?side1 ?side2 ?side3 ?side4 ?side5 ?side6 A29.out).mono ?_); (case side1 => exact (by (repeat (first | exact (Kd.R_reads' HO_361002.out).2.2 | (with_reducible refine Kd.C_alloc ?_ _) | (with_reducible refine Kd.C_drewN ?_ _) | (with_reducible refine Kd.C_drew ?_))); first | done | fail)); (case side2 => rw [show t363.length = t350.length from (Kd.R_reads' HO_361002.out).1.symm]; exact (Kd.R_reads' HO_361002.out).2.1); (case side3 => exact (by (repeat (first | exact (Kd.R_reads' HO_361003.out).2.2 | (with_reducible refine Kd.C_alloc ?_ _) | (with_reducible refine Kd.C_drewN ?_ _) | (with_reducible refine Kd.C_drew ?_))); first | done | fail)); (case side4 => rw [show t364.length = t353.length from (Kd.R_reads' HO_361003.out).1.symm]; exact (Kd.R_reads' HO_361003.out).2.1); (case side5 => exact (by (repeat (first | exact (Kd.R_reads' HO_361004.out).2.2 | (with_reducible refine Kd.C_alloc ?_ _) | (with_reducible refine Kd.C_drewN ?_ _) | (with_reducible refine Kd.C_drew ?_))); first | done | fail)); (case side6 => rw [show t365.length = t356.length from (Kd.R_reads' HO_361004.out).1.symm]; exact (Kd.R_reads' HO_361004.out).2.1); rintro e w38 ⟨rfl, hb⟩; refine ⟨_, rfl, ?_⟩; replace HO_348002 := rl_ HO_348002 hb; replace HO_348003 := rl_ HO_348003 hb; replace HO_348004 := rl_ HO_348004 hb; replace HO_361002 := rl_ HO_361002 hb; replace HO_361003 := rl_ HO_361003 hb; replace HO_361004 := rl_ HO_361004 hb; replace BK347 := bb_ gb347 BK347 hb; replace BK360 := bb_ gb360 BK360 hb; replace HB := bst_ z11_ hb; (try clear hb); (try clear hb2); (try clear hk); (try clear hi)) | ((with_reducible refine gate_callee (f := 5) rfl ?_); refine goesL_ (some 56) rfl rfl Tryd.func5 (by kernel_rfl) rfl #[.int .i64 a0, .int .i64 a1, .string a2] rfl z27_ ?_; (with_reducible refine (impl_ImposeSheet.calls kj6 a0 a1 a2 t367 t368 t369 t372 t375 t378 _ A32.out).mono ?_); rintro e w39 ⟨v370, v373, v376, rfl, ho0, ho1, ho2, hb⟩; refine ⟨_, rfl, ?_⟩; have HO371 := a_ (Kd.R_lower (Kd.R_new' (Kd.R_new' (Kd.R_new' (Kd.R_new' (Kd.R_new' (Kd.R_new' ho0 (Kd.R_lt (ra_ HO_348002.out))) (Kd.R_lt (ra_ HO_348003.out))) (Kd.R_lt (ra_ HO_348004.out))) (Kd.R_lt (ra_ HO_361002.out))) (Kd.R_lt (ra_ HO_361003.out))) (Kd.R_lt (ra_ HO_361004.out))) (below_size z11_)); have HO374 := a_ (Kd.R_lower (Kd.R_new' (Kd.R_new' (Kd.R_new' (Kd.R_new' (Kd.R_new' (Kd.R_new' ho1 (Kd.R_lt (ra_ HO_348002.out))) (Kd.R_lt (ra_ HO_348003.out))) (Kd.R_lt (ra_ HO_348004.out))) (Kd.R_lt (ra_ HO_361002.out))) (Kd.R_lt (ra_ HO_361003.out))) (Kd.R_lt (ra_ HO_361004.out))) (below_size z11_)); have HO377 := a_ (Kd.R_lower (Kd.R_new' (Kd.R_new' (Kd.R_new' (Kd.R_new' (Kd.R_new' (Kd.R_new' ho2 (Kd.R_lt (ra_ HO_348002.out))) (Kd.R_lt (ra_ HO_348003.out))) (Kd.R_lt (ra_ HO_348004.out))) (Kd.R_lt (ra_ HO_361002.out))) (Kd.R_lt (ra_ HO_361003.out))) (Kd.R_lt (ra_ HO_361004.out))) (below_size z11_)); replace HO_348002 := a_ (Kd.R_mono (Kd.R_told (Kd.R_told (Kd.R_told (Kd.R_old (ra_ HO_348002.out) hb) (Kd.R_base ho0)) (Kd.R_base ho1)) (Kd.R_base ho2)) (fun _ h_ => h_.1)); replace HO_348003 := a_ (Kd.R_mono (Kd.R_told (Kd.R_told (Kd.R_told (Kd.R_old (ra_ HO_348003.out) hb) (Kd.R_base ho0)) (Kd.R_base ho1)) (Kd.R_base ho2)) (fun _ h_ => h_.1)); replace HO_348004 := a_ (Kd.R_mono (Kd.R_told (Kd.R_told (Kd.R_told (Kd.R_old (ra_ HO_348004.out) hb) (Kd.R_base ho0)) (Kd.R_base ho1)) (Kd.R_base ho2)) (fun _ h_ => h_.1)); replace HO_361002 := a_ (Kd.R_mono (Kd.R_told (Kd.R_told (Kd.R_told (Kd.R_old (ra_ HO_361002.out) hb) (Kd.R_base ho0)) (Kd.R_base ho1)) (Kd.R_base ho2)) (fun _ h_ => h_.1)); replace HO_361003 := a_ (Kd.R_mono (Kd.R_told (Kd.R_told (Kd.R_told (Kd.R_old (ra_ HO_361003.out) hb) (Kd.R_base ho0)) (Kd.R_base ho1)) (Kd.R_base ho2)) (fun _ h_ => h_.1)); replace HO_361004 := a_ (Kd.R_mono (Kd.R_told (Kd.R_told (Kd.R_told (Kd.R_old (ra_ HO_361004.out) hb) (Kd.R_base ho0)) (Kd.R_base ho1)) (Kd.R_base ho2)) (fun _ h_ => h_.1)); replace BK347 := bb_ gb347 BK347 hb; replace BK360 := bb_ gb360 BK360 hb; replace HB := bst_ z11_ hb; (try clear hb); (try clear hb2); (try clear hk); (try clear hi); (try clear ho0); (try clear ho1); (try clear ho2)) | ((with_reducible refine gate_dst (N := 13) rfl ?_); refine box_event ?hg (N := 13) ?hd (cs := #[.int .i64 0, .int .i64 0, .slice none 0 0, .slice none 0 0, .slice none 0 0]) (t := 24) ?hr ?_; (case hd => rfl); (case hg => rfl); (case hr => first | (go_simp; done) | (go_simp; rfl)); intro gb379 hg w40 hbox hb; replace HO_348002 := rl_ HO_348002 hb; replace HO_348003 := rl_ HO_348003 hb; replace HO_348004 := rl_ HO_348004 hb; replace HO_361002 := rl_ HO_361002 hb; replace HO_361003 := rl_ HO_361003 hb; replace HO_361004 := rl_ HO_361004 hb; replace HO371 := rl_ HO371 hb; replace HO374 := rl_ HO374 hb; replace HO377 := rl_ HO377 hb; have BK379 := a_ (hbox); have GW379 := a_ ((by rw [hg]; exact (below_size z11_) : w.heap.size ≤ gb379)); have GE379 := a_ ((by rw [hg]; exact (below_size z11_) : w.heap.size ≤ gb379)); replace HB := bst_ z11_ hb; have NB347_379 := a_ ((by rw [hg]; exact Nat.ne_of_lt (blk_lt (g := gb347) (rb_ BK347.out)) : gb347 ≠ gb379)); have NB379_347 := a_ ((by rw [hg]; exact Nat.ne_of_gt (blk_lt (g := gb347) (rb_ BK347.out)) : gb379 ≠ gb347)); replace BK347 := bb_ gb347 BK347 hb; have NB360_379 := a_ ((by rw [hg]; exact Nat.ne_of_lt (blk_lt (g := gb360) (rb_ BK360.out)) : gb360 ≠ gb379)); have NB379_360 := a_ ((by rw [hg]; exact Nat.ne_of_gt (blk_lt (g := gb360) (rb_ BK360.out)) : gb379 ≠ gb360)); replace BK360 := bb_ gb360 BK360 hb; clear hb hbox hg; have hnb41 := NB379_347.out; have hnc41 := NB347_379.out; have hnb42 := NB379_360.out; have hnc42 := NB360_379.out; obtain ⟨hcz43_0, hcz43_1, hcz43_2, hcz43_3, hcz43_4, hfz43_0, hfz43_1, hfz43_2, hfz43_3, hfz43_4⟩ := cz5_ (w := w40) BK379.out; obtain ⟨Ao44, co44, eo44⟩ := Kd.R_slice HO371.out; subst eo44; obtain ⟨Ao45, co45, eo45⟩ := Kd.R_slice HO374.out; subst eo45; obtain ⟨Ao46, co46, eo46⟩ := Kd.R_slice HO377.out; subst eo46))
       (try simp only [Act.put, List.setIfInBounds_toArray, List.set_cons_zero, List.set_cons_succ])
       go_cut [67] (fun v67 wc => ∃ (kq : Nat) (x67_32 : Bool), v67 = .bool x67_32 ∧ Aside0 (laws_FnExactImposeSheet.j1 kq t362 x67_32 t348 t349 t363 t364 t365 = some r) ∧ Aside0 (kq ≤ kj6) ∧ Aside0 (Kd.R (Kd.int .i64) 2 wc w.heap.size (fun k_ => nb_ k_ Ao12 t340.length co12 ∧ nb_ k_ Ao13 t343.length co13 ∧ nb_ k_ Ao18 t350.length co18 ∧ nb_ k_ Ao19 t353.length co19 ∧ nb_ k_ Ao20 t356.length co20 ∧ nb_ k_ Ao44 t369.length co44 ∧ nb_ k_ Ao45 t372.length co45 ∧ nb_ k_ Ao46 t375.length co46) (.slice Ao11 t337.length co11) t337) ∧ Aside0 (Kd.R (Kd.int .i64) 2 wc w.heap.size (fun k_ => nb_ k_ Ao11 t337.length co11 ∧ nb_ k_ Ao13 t343.length co13 ∧ nb_ k_ Ao18 t350.length co18 ∧ nb_ k_ Ao19 t353.length co19 ∧ nb_ k_ Ao20 t356.length co20 ∧ nb_ k_ Ao44 t369.length co44 ∧ nb_ k_ Ao45 t372.length co45 ∧ nb_ k_ Ao46 t375.length co46) (.slice Ao12 t340.length co12) t340) ∧ Aside0 (Kd.R (Kd.int .i64) 2 wc w.heap.size (fun k_ => nb_ k_ Ao11 t337.length co11 ∧ nb_ k_ Ao12 t340.length co12 ∧ nb_ k_ Ao18 t350.length co18 ∧ nb_ k_ Ao19 t353.length co19 ∧ nb_ k_ Ao20 t356.length co20 ∧ nb_ k_ Ao44 t369.length co44 ∧ nb_ k_ Ao45 t372.length co45 ∧ nb_ k_ Ao46 t375.length co46) (.slice Ao13 t343.length co13) t343) ∧ Aside0 (Kd.R (Kd.int .i64) 2 wc w.heap.size (fun k_ => nb_ k_ Ao11 t337.length co11 ∧ nb_ k_ Ao12 t340.length co12 ∧ nb_ k_ Ao13 t343.length co13 ∧ nb_ k_ Ao19 t353.length co19 ∧ nb_ k_ Ao20 t356.length co20 ∧ nb_ k_ Ao44 t369.length co44 ∧ nb_ k_ Ao45 t372.length co45 ∧ nb_ k_ Ao46 t375.length co46) (.slice Ao18 t350.length co18) t363) ∧ Aside0 (Kd.R (Kd.int .i64) 2 wc w.heap.size (fun k_ => nb_ k_ Ao11 t337.length co11 ∧ nb_ k_ Ao12 t340.length co12 ∧ nb_ k_ Ao13 t343.length co13 ∧ nb_ k_ Ao18 t350.length co18 ∧ nb_ k_ Ao20 t356.length co20 ∧ nb_ k_ Ao44 t369.length co44 ∧ nb_ k_ Ao45 t372.length co45 ∧ nb_ k_ Ao46 t375.length co46) (.slice Ao19 t353.length co19) t364) ∧ Aside0 (Kd.R (Kd.int .i64) 2 wc w.heap.size (fun k_ => nb_ k_ Ao11 t337.length co11 ∧ nb_ k_ Ao12 t340.length co12 ∧ nb_ k_ Ao13 t343.length co13 ∧ nb_ k_ Ao18 t350.length co18 ∧ nb_ k_ Ao19 t353.length co19 ∧ nb_ k_ Ao44 t369.length co44 ∧ nb_ k_ Ao45 t372.length co45 ∧ nb_ k_ Ao46 t375.length co46) (.slice Ao20 t356.length co20) t365) ∧ Aside0 (Kd.R (Kd.int .i64) 2 wc w.heap.size (fun k_ => nb_ k_ Ao11 t337.length co11 ∧ nb_ k_ Ao12 t340.length co12 ∧ nb_ k_ Ao13 t343.length co13 ∧ nb_ k_ Ao18 t350.length co18 ∧ nb_ k_ Ao19 t353.length co19 ∧ nb_ k_ Ao20 t356.length co20 ∧ nb_ k_ Ao45 t372.length co45 ∧ nb_ k_ Ao46 t375.length co46) (.slice Ao44 t369.length co44) t369) ∧ Aside0 (Kd.R (Kd.int .i64) 2 wc w.heap.size (fun k_ => nb_ k_ Ao11 t337.length co11 ∧ nb_ k_ Ao12 t340.length co12 ∧ nb_ k_ Ao13 t343.length co13 ∧ nb_ k_ Ao18 t350.length co18 ∧ nb_ k_ Ao19 t353.length co19 ∧ nb_ k_ Ao20 t356.length co20 ∧ nb_ k_ Ao44 t369.length co44 ∧ nb_ k_ Ao46 t375.length co46) (.slice Ao45 t372.length co45) t372) ∧ Aside0 (Kd.R (Kd.int .i64) 2 wc w.heap.size (fun k_ => nb_ k_ Ao11 t337.length co11 ∧ nb_ k_ Ao12 t340.length co12 ∧ nb_ k_ Ao13 t343.length co13 ∧ nb_ k_ Ao18 t350.length co18 ∧ nb_ k_ Ao19 t353.length co19 ∧ nb_ k_ Ao20 t356.length co20 ∧ nb_ k_ Ao44 t369.length co44 ∧ nb_ k_ Ao45 t372.length co45) (.slice Ao46 t375.length co46) t375) ∧ Aside0 (wc.heap[gb347]? = some (.cells #[.int .i64 t335, .int .i64 t336, (.slice Ao11 t337.length co11), (.slice Ao12 t340.length co12), (.slice Ao13 t343.length co13)] 24 (0, 0))) ∧ Aside0 (wc.heap[gb360]? = some (.cells #[.int .i64 t348, .int .i64 t349, (.slice Ao18 t350.length co18), (.slice Ao19 t353.length co19), (.slice Ao20 t356.length co20)] 24 (0, 0))) ∧ Aside0 (wc.heap[gb379]? = some (.cells #[.int .i64 t367, .int .i64 t368, (.slice Ao44 t369.length co44), (.slice Ao45 t372.length co45), (.slice Ao46 t375.length co46)] 24 (0, 0))) ∧ Aside0 (Below w.heap.size w wc))
       case first =>
        have H := HC33.out
        clear HC33
        replace H := Option.bind_eq_some_iff.mp H
        obtain ⟨t380, A470, H⟩ := H
        replace H : (if t380 = true then (laws_FnExactImposeSheet.j1 kj6 t362 (t378 != t346) t348 t349 t363 t364 t365) else (none)) = some r := H
        have A47 := a_ A470
        clear A470
        by_cases c48 : t380 = true
        ·subst c48
         have H1 : (laws_FnExactImposeSheet.j1 kj6 t362 (t378 != t346) t348 t349 t363 t364 t365) = some r := by rw [if_pos rfl] at H; exact H
         clear H
         have H := H1
         clear H1
         have H' := a_ H
         clear H
         have hnb49 := NB379_347.out
         have hnc49 := NB347_379.out
         have hnb50 := NB379_360.out
         have hnc50 := NB360_379.out
         obtain ⟨hcz51_0, hcz51_1, hcz51_2, hcz51_3, hcz51_4, hfz51_0, hfz51_1, hfz51_2, hfz51_3, hfz51_4⟩ := cz5_ (w := w40) BK379.out
         have hnb52 := NB347_360.out
         have hnc52 := NB360_347.out
         obtain ⟨hcz53_0, hcz53_1, hcz53_2, hcz53_3, hcz53_4, hfz53_0, hfz53_1, hfz53_2, hfz53_3, hfz53_4⟩ := cz5_ (w := w40) BK347.out
         go_wp2_with (first | ((with_reducible refine gate_callee (f := 6) rfl ?_); refine goesL_ (some 61) rfl rfl Tryd.func6 (by kernel_rfl) rfl #[.agg #[.int .i64 t367, .int .i64 t368, .slice Ao44 t369.length co44, .slice Ao45 t372.length co45, .slice Ao46 t375.length co46], .agg #[.int .i64 t335, .int .i64 t336, .slice Ao11 t337.length co11, .slice Ao12 t340.length co12, .slice Ao13 t343.length co13]] rfl z27_ ?_; (with_reducible refine (laws_eqForm.calls kj6 t367 t368 _ _ t369 _ _ t372 _ _ t375 t335 t336 _ _ t337 _ _ t340 _ _ t343 true _ ?side1 ?side2 ?side3 ?side4 ?side5 ?side6 ?side7 ?side8 ?side9 ?side10 ?side11 ?side12 A47.out).mono ?_); (case side1 => refine (Kd.R_reads' (e := 2) (base := w.heap.size) (ok := fun k_ => (((((((nb_ k_ Ao45 t372.length co45 ∧ nb_ k_ Ao46 t375.length co46) ∧ nb_ k_ Ao11 t337.length co11) ∧ nb_ k_ Ao12 t340.length co12) ∧ nb_ k_ Ao13 t343.length co13) ∧ nb_ k_ Ao18 t350.length co18) ∧ nb_ k_ Ao19 t353.length co19) ∧ nb_ k_ Ao20 t356.length co20)) (n := t369.length) (c := co44) ?_).2.2; exact (rc_ (h := by exact Kd.R_mono (rt5_ HO371.out BK379.out) (fun _ h_ => h_.1)))); (case side2 => exact (Kd.R_reads' HO371.out).2.1); (case side3 => refine (Kd.R_reads' (e := 2) (base := w.heap.size) (ok := fun k_ => (((((((nb_ k_ Ao44 t369.length co44 ∧ nb_ k_ Ao46 t375.length co46) ∧ nb_ k_ Ao11 t337.length co11) ∧ nb_ k_ Ao12 t340.length co12) ∧ nb_ k_ Ao13 t343.length co13) ∧ nb_ k_ Ao18 t350.length co18) ∧ nb_ k_ Ao19 t353.length co19) ∧ nb_ k_ Ao20 t356.length co20)) (n := t372.length) (c := co45) ?_).2.2; exact (rc_ (h := by exact Kd.R_mono (rt5_ HO374.out BK379.out) (fun _ h_ => h_.1)))); (case side4 => exact (Kd.R_reads' HO374.out).2.1); (case side5 => refine (Kd.R_reads' (e := 2) (base := w.heap.size) (ok := fun k_ => (((((((nb_ k_ Ao44 t369.length co44 ∧ nb_ k_ Ao45 t372.length co45) ∧ nb_ k_ Ao11 t337.length co11) ∧ nb_ k_ Ao12 t340.length co12) ∧ nb_ k_ Ao13 t343.length co13) ∧ nb_ k_ Ao18 t350.length co18) ∧ nb_ k_ Ao19 t353.length co19) ∧ nb_ k_ Ao20 t356.length co20)) (n := t375.length) (c := co46) ?_).2.2; exact (rc_ (h := by exact Kd.R_mono (rt5_ HO377.out BK379.out) (fun _ h_ => h_.1)))); (case side6 => exact (Kd.R_reads' HO377.out).2.1); (case side7 => refine (Kd.R_reads' (e := 2) (base := w.heap.size) (ok := fun k_ => ((((nb_ k_ Ao12 t340.length co12 ∧ (nb_ k_ Ao13 t343.length co13 ∧ (nb_ k_ Ao18 t350.length co18 ∧ (nb_ k_ Ao19 t353.length co19 ∧ nb_ k_ Ao20 t356.length co20)))) ∧ nb_ k_ Ao44 t369.length co44) ∧ nb_ k_ Ao45 t372.length co45) ∧ nb_ k_ Ao46 t375.length co46)) (n := t337.length) (c := co11) ?_).2.2; exact (rc_ (h := by exact Kd.R_mono (rt5_ HO_348002.out BK379.out) (fun _ h_ => h_.1)))); (case side8 => exact (Kd.R_reads' HO_348002.out).2.1); (case side9 => refine (Kd.R_reads' (e := 2) (base := w.heap.size) (ok := fun k_ => ((((nb_ k_ Ao11 t337.length co11 ∧ (nb_ k_ Ao13 t343.length co13 ∧ (nb_ k_ Ao18 t350.length co18 ∧ (nb_ k_ Ao19 t353.length co19 ∧ nb_ k_ Ao20 t356.length co20)))) ∧ nb_ k_ Ao44 t369.length co44) ∧ nb_ k_ Ao45 t372.length co45) ∧ nb_ k_ Ao46 t375.length co46)) (n := t340.length) (c := co12) ?_).2.2; exact (rc_ (h := by exact Kd.R_mono (rt5_ HO_348003.out BK379.out) (fun _ h_ => h_.1)))); (case side10 => exact (Kd.R_reads' HO_348003.out).2.1); (case side11 => refine (Kd.R_reads' (e := 2) (base := w.heap.size) (ok := fun k_ => ((((nb_ k_ Ao11 t337.length co11 ∧ (nb_ k_ Ao12 t340.length co12 ∧ (nb_ k_ Ao18 t350.length co18 ∧ (nb_ k_ Ao19 t353.length co19 ∧ nb_ k_ Ao20 t356.length co20)))) ∧ nb_ k_ Ao44 t369.length co44) ∧ nb_ k_ Ao45 t372.length co45) ∧ nb_ k_ Ao46 t375.length co46)) (n := t343.length) (c := co13) ?_).2.2; exact (rc_ (h := by exact Kd.R_mono (rt5_ HO_348004.out BK379.out) (fun _ h_ => h_.1)))); (case side12 => exact (Kd.R_reads' HO_348004.out).2.1); rintro e w54 ⟨rfl, hb⟩; refine ⟨_, rfl, ?_⟩; replace HO_348002 := a_ (Kd.R_below (rc_ (h := by exact Kd.R_mono (rt5_ HO_348002.out BK379.out) (fun _ h_ => h_.1))) hb); replace HO_348003 := a_ (Kd.R_below (rc_ (h := by exact Kd.R_mono (rt5_ HO_348003.out BK379.out) (fun _ h_ => h_.1))) hb); replace HO_348004 := a_ (Kd.R_below (rc_ (h := by exact Kd.R_mono (rt5_ HO_348004.out BK379.out) (fun _ h_ => h_.1))) hb); replace HO_361002 := a_ (Kd.R_below (rc_ (h := by exact Kd.R_mono (rt5_ HO_361002.out BK379.out) (fun _ h_ => h_.1))) hb); replace HO_361003 := a_ (Kd.R_below (rc_ (h := by exact Kd.R_mono (rt5_ HO_361003.out BK379.out) (fun _ h_ => h_.1))) hb); replace HO_361004 := a_ (Kd.R_below (rc_ (h := by exact Kd.R_mono (rt5_ HO_361004.out BK379.out) (fun _ h_ => h_.1))) hb); replace HO371 := a_ (Kd.R_below (rc_ (h := by exact Kd.R_mono (rt5_ HO371.out BK379.out) (fun _ h_ => h_.1))) hb); replace HO374 := a_ (Kd.R_below (rc_ (h := by exact Kd.R_mono (rt5_ HO374.out BK379.out) (fun _ h_ => h_.1))) hb); replace HO377 := a_ (Kd.R_below (rc_ (h := by exact Kd.R_mono (rt5_ HO377.out BK379.out) (fun _ h_ => h_.1))) hb); replace BK347 := a_ (blk_below (g := gb347) (o := .cells #[.int .i64 t335, .int .i64 t336, .slice Ao11 t337.length co11, .slice Ao12 t340.length co12, .slice Ao13 t343.length co13] 24 (0, 0)) (rb2_ (h := by exact bf5_ NB347_379.out BK347.out)) hb); replace BK360 := a_ (blk_below (g := gb360) (o := .cells #[.int .i64 t348, .int .i64 t349, .slice Ao18 t350.length co18, .slice Ao19 t353.length co19, .slice Ao20 t356.length co20] 24 (0, 0)) (rb2_ (h := by exact bf5_ NB360_379.out BK360.out)) hb); replace BK379 := a_ (blk_below (g := gb379) (o := .cells #[.int .i64 t367, .int .i64 t368, .slice Ao44 t369.length co44, .slice Ao45 t372.length co45, .slice Ao46 t375.length co46] 24 (0, 0)) (rb2_ (h := by exact bp5x5_ BK379.out)) hb); replace HB := bst_ z7_ hb; (try clear hb); (try clear hb2); (try clear hk); (try clear hi)))
         go_meet
         case rel => exact ⟨_, ((t378 != t346)), z48_, H', ⟨by have := HJ6.out; first | omega | exact Nat.le_refl _⟩, ⟨by (with_reducible repeat (first | apply Kd.R_alloc | apply Kd.R_drewN | apply Kd.R_drew)); exact Kd.R_mono HO_348002.out (fun _ hk => ⟨hk.1.1.1.1, ⟨hk.1.1.1.2.1, ⟨hk.1.1.1.2.2.1, ⟨hk.1.1.1.2.2.2.1, ⟨hk.1.1.1.2.2.2.2, ⟨hk.1.1.2, ⟨hk.1.2, hk.2⟩⟩⟩⟩⟩⟩⟩)⟩, ⟨by (with_reducible repeat (first | apply Kd.R_alloc | apply Kd.R_drewN | apply Kd.R_drew)); exact Kd.R_mono HO_348003.out (fun _ hk => ⟨hk.1.1.1.1, ⟨hk.1.1.1.2.1, ⟨hk.1.1.1.2.2.1, ⟨hk.1.1.1.2.2.2.1, ⟨hk.1.1.1.2.2.2.2, ⟨hk.1.1.2, ⟨hk.1.2, hk.2⟩⟩⟩⟩⟩⟩⟩)⟩, ⟨by (with_reducible repeat (first | apply Kd.R_alloc | apply Kd.R_drewN | apply Kd.R_drew)); exact Kd.R_mono HO_348004.out (fun _ hk => ⟨hk.1.1.1.1, ⟨hk.1.1.1.2.1, ⟨hk.1.1.1.2.2.1, ⟨hk.1.1.1.2.2.2.1, ⟨hk.1.1.1.2.2.2.2, ⟨hk.1.1.2, ⟨hk.1.2, hk.2⟩⟩⟩⟩⟩⟩⟩)⟩, ⟨by (with_reducible repeat (first | apply Kd.R_alloc | apply Kd.R_drewN | apply Kd.R_drew)); exact Kd.R_mono HO_361002.out (fun _ hk => ⟨hk.1.1.1.1, ⟨hk.1.1.1.2.1, ⟨hk.1.1.1.2.2.1, ⟨hk.1.1.1.2.2.2.1, ⟨hk.1.1.1.2.2.2.2, ⟨hk.1.1.2, ⟨hk.1.2, hk.2⟩⟩⟩⟩⟩⟩⟩)⟩, ⟨by (with_reducible repeat (first | apply Kd.R_alloc | apply Kd.R_drewN | apply Kd.R_drew)); exact Kd.R_mono HO_361003.out (fun _ hk => ⟨hk.1.1.1.1, ⟨hk.1.1.1.2.1, ⟨hk.1.1.1.2.2.1, ⟨hk.1.1.1.2.2.2.1, ⟨hk.1.1.1.2.2.2.2, ⟨hk.1.1.2, ⟨hk.1.2, hk.2⟩⟩⟩⟩⟩⟩⟩)⟩, ⟨by (with_reducible repeat (first | apply Kd.R_alloc | apply Kd.R_drewN | apply Kd.R_drew)); exact Kd.R_mono HO_361004.out (fun _ hk => ⟨hk.1.1.1.1, ⟨hk.1.1.1.2.1, ⟨hk.1.1.1.2.2.1, ⟨hk.1.1.1.2.2.2.1, ⟨hk.1.1.1.2.2.2.2, ⟨hk.1.1.2, ⟨hk.1.2, hk.2⟩⟩⟩⟩⟩⟩⟩)⟩, ⟨by (with_reducible repeat (first | apply Kd.R_alloc | apply Kd.R_drewN | apply Kd.R_drew)); exact Kd.R_mono HO371.out (fun _ hk => ⟨hk.1.1.1.1.1.2, ⟨hk.1.1.1.1.2, ⟨hk.1.1.1.2, ⟨hk.1.1.2, ⟨hk.1.2, ⟨hk.2, ⟨hk.1.1.1.1.1.1.1, hk.1.1.1.1.1.1.2⟩⟩⟩⟩⟩⟩⟩)⟩, ⟨by (with_reducible repeat (first | apply Kd.R_alloc | apply Kd.R_drewN | apply Kd.R_drew)); exact Kd.R_mono HO374.out (fun _ hk => ⟨hk.1.1.1.1.1.2, ⟨hk.1.1.1.1.2, ⟨hk.1.1.1.2, ⟨hk.1.1.2, ⟨hk.1.2, ⟨hk.2, ⟨hk.1.1.1.1.1.1.1, hk.1.1.1.1.1.1.2⟩⟩⟩⟩⟩⟩⟩)⟩, ⟨by (with_reducible repeat (first | apply Kd.R_alloc | apply Kd.R_drewN | apply Kd.R_drew)); exact Kd.R_mono HO377.out (fun _ hk => ⟨hk.1.1.1.1.1.2, ⟨hk.1.1.1.1.2, ⟨hk.1.1.1.2, ⟨hk.1.1.2, ⟨hk.1.2, ⟨hk.2, ⟨hk.1.1.1.1.1.1.1, hk.1.1.1.1.1.1.2⟩⟩⟩⟩⟩⟩⟩)⟩, ⟨by (with_reducible repeat (first | refine blk_drewN ?_ _ | refine blk_drew ?_ | refine blk_alloc ?_ _)); exact BK347.out⟩, ⟨by (with_reducible repeat (first | refine blk_drewN ?_ _ | refine blk_drew ?_ | refine blk_alloc ?_ _)); exact BK360.out⟩, ⟨by (with_reducible repeat (first | refine blk_drewN ?_ _ | refine blk_drew ?_ | refine blk_alloc ?_ _)); exact BK379.out⟩, ⟨z7_⟩⟩
        ·replace c48 := Bool.eq_false_iff.mpr c48
         subst c48
         have H1 : (none) = some r := by rw [if_neg (show ¬ (false = true) by decide)] at H; exact H
         clear H
         have H := H1
         clear H1
         exact absurd H (by simp)
       case rest =>
        clear HC33; try clear c27; try clear c30b0; try clear c31b0; try clear c31b1; try clear hcz35_0 hcz35_1 hcz35_2 hcz35_3 hcz35_4; try clear hcz37_0 hcz37_1 hcz37_2 hcz37_3 hcz37_4; try clear hcz43_0 hcz43_1 hcz43_2 hcz43_3 hcz43_4; try clear hfz35_0 hfz35_1 hfz35_2 hfz35_3 hfz35_4; try clear hfz37_0 hfz37_1 hfz37_2 hfz37_3 hfz37_4; try clear hfz43_0 hfz43_1 hfz43_2 hfz43_3 hfz43_4
        obtain ⟨kq, x67_32, rfl, HA, HJ32, HO_348002, HO_348003, HO_348004, HO_361002, HO_361003, HO_361004, HO_380002, HO_380003, HO_380004, BK347, BK360, BK379, HB⟩ := hcut
        have hl361002_32 := (Kd.R_reads' HO_361002.out).1
        rw [hl361002_32] at HO_361002
        (try simp only [hl361002_32])
        (try simp only [hl361002_32] at BK347)
        (try simp only [hl361002_32] at BK360)
        (try simp only [hl361002_32] at BK379)
        (try simp only [hl361002_32] at HO_348002)
        (try simp only [hl361002_32] at HO_348003)
        (try simp only [hl361002_32] at HO_348004)
        (try simp only [hl361002_32] at HO_361003)
        (try simp only [hl361002_32] at HO_361004)
        (try simp only [hl361002_32] at HO_380002)
        (try simp only [hl361002_32] at HO_380003)
        (try simp only [hl361002_32] at HO_380004)
        have hl361003_32 := (Kd.R_reads' HO_361003.out).1
        rw [hl361003_32] at HO_361003
        (try simp only [hl361003_32])
        (try simp only [hl361003_32] at BK347)
        (try simp only [hl361003_32] at BK360)
        (try simp only [hl361003_32] at BK379)
        (try simp only [hl361003_32] at HO_348002)
        (try simp only [hl361003_32] at HO_348003)
        (try simp only [hl361003_32] at HO_348004)
        (try simp only [hl361003_32] at HO_361002)
        (try simp only [hl361003_32] at HO_361004)
        (try simp only [hl361003_32] at HO_380002)
        (try simp only [hl361003_32] at HO_380003)
        (try simp only [hl361003_32] at HO_380004)
        have hl361004_32 := (Kd.R_reads' HO_361004.out).1
        rw [hl361004_32] at HO_361004
        (try simp only [hl361004_32])
        (try simp only [hl361004_32] at BK347)
        (try simp only [hl361004_32] at BK360)
        (try simp only [hl361004_32] at BK379)
        (try simp only [hl361004_32] at HO_348002)
        (try simp only [hl361004_32] at HO_348003)
        (try simp only [hl361004_32] at HO_348004)
        (try simp only [hl361004_32] at HO_361002)
        (try simp only [hl361004_32] at HO_361003)
        (try simp only [hl361004_32] at HO_380002)
        (try simp only [hl361004_32] at HO_380003)
        (try simp only [hl361004_32] at HO_380004)
        cases kq with
        | zero => exact absurd HA.out (by simp [laws_FnExactImposeSheet.j1])
        | succ kj32 =>
         have H := HA.out
         clear HA
         simp only [laws_FnExactImposeSheet.j1] at H
         by_cases c55 : x67_32 = true
         ·subst c55
          have H1 : (none) = some r := by rw [if_pos rfl] at H; exact H
          clear H
          have H := H1
          clear H1
          exact absurd H (by simp)
         ·replace c55 := Bool.eq_false_iff.mpr c55
          subst c55
          have H1 : ((laws_heldForm.f kj32 t348 t349 t363 t364 t365 1).bind fun t381 => (if t381 < 0 then (none) else (if t381 = t362 then (some true) else (none)))) = some r := by rw [if_neg (show ¬ (false = true) by decide)] at H; exact H
          clear H
          have H := H1
          clear H1
          replace H := Option.bind_eq_some_iff.mp H
          obtain ⟨t381, A560, H⟩ := H
          replace H : (if t381 < 0 then (none) else (if t381 = t362 then (some true) else (none))) = some r := H
          have A56 := a_ A560
          clear A560
          by_cases c57 : t381 < 0
          ·rw [if_pos c57] at H
           exact absurd H (by simp)
          ·rw [if_neg c57] at H
           have c57b0 : decide (t381 < 0) = false := decide_eq_false c57
           clear c57
           by_cases c58 : t381 = t362
           ·rw [if_pos c58] at H
            have c58b0 : (t381 == t362) = true := beq_iff_eq.mpr c58
            have c58b1 : (t381 != t362) = false := bne_eq_false_iff_eq.mpr c58
            clear c58
            obtain rfl := Option.some.inj H
            have hnb59 := NB360_347.out
            have hnc59 := NB347_360.out
            have hnb60 := NB360_379.out
            have hnc60 := NB379_360.out
            obtain ⟨hcz61_0, hcz61_1, hcz61_2, hcz61_3, hcz61_4, hfz61_0, hfz61_1, hfz61_2, hfz61_3, hfz61_4⟩ := cz5_ (w := wc) BK360.out
            go_wp2_with (first | ((with_reducible refine gate_callee (f := 8) rfl ?_); refine goesL_ (some 70) rfl rfl Tryd.func8 (by kernel_rfl) rfl #[.agg #[.int .i64 t348, .int .i64 t349, .slice Ao18 t363.length co18, .slice Ao19 t364.length co19, .slice Ao20 t365.length co20], .int .i64 1] rfl z27_ ?_; (with_reducible refine (laws_heldForm.calls kj32 t348 t349 _ _ t363 _ _ t364 _ _ t365 1 t381 _ ?side1 ?side2 ?side3 ?side4 ?side5 ?side6 A56.out).mono ?_); (case side1 => exact (by (repeat (first | exact (Kd.R_reads' HO_361002.out).2.2 | (with_reducible refine Kd.C_alloc ?_ _) | (with_reducible refine Kd.C_drewN ?_ _) | (with_reducible refine Kd.C_drew ?_))); first | done | fail)); (case side2 => exact (Kd.R_reads' HO_361002.out).2.1); (case side3 => exact (by (repeat (first | exact (Kd.R_reads' HO_361003.out).2.2 | (with_reducible refine Kd.C_alloc ?_ _) | (with_reducible refine Kd.C_drewN ?_ _) | (with_reducible refine Kd.C_drew ?_))); first | done | fail)); (case side4 => exact (Kd.R_reads' HO_361003.out).2.1); (case side5 => exact (by (repeat (first | exact (Kd.R_reads' HO_361004.out).2.2 | (with_reducible refine Kd.C_alloc ?_ _) | (with_reducible refine Kd.C_drewN ?_ _) | (with_reducible refine Kd.C_drew ?_))); first | done | fail)); (case side6 => exact (Kd.R_reads' HO_361004.out).2.1); rintro e w62 ⟨rfl, hb⟩; refine ⟨_, rfl, ?_⟩; replace HO_348002 := rl_ HO_348002 hb; replace HO_348003 := rl_ HO_348003 hb; replace HO_348004 := rl_ HO_348004 hb; replace HO_361002 := rl_ HO_361002 hb; replace HO_361003 := rl_ HO_361003 hb; replace HO_361004 := rl_ HO_361004 hb; replace HO_380002 := rl_ HO_380002 hb; replace HO_380003 := rl_ HO_380003 hb; replace HO_380004 := rl_ HO_380004 hb; replace BK347 := bb_ gb347 BK347 hb; replace BK360 := bb_ gb360 BK360 hb; replace BK379 := bb_ gb379 BK379 hb; replace HB := bst_ z7_ hb; (try clear hb); (try clear hb2); (try clear hk); (try clear hi)))
            go_ret
            exact ⟨z24_, z7_⟩
           ·rw [if_neg c58] at H
            exact absurd H (by simp)
      ·rw [if_neg c31] at H
       exact absurd H (by simp)

/-- THE ONE PURE STATEMENT of laws_FnExactImposeSheet: yours. -/
def laws_FnExactImposeSheet.Pure : Prop := ∀ (a0 : Int) (a1 : Int) (a2 : ByteArray), (Lit.int .i64 a0).wf = true → (Lit.int .i64 a1).wf = true → a2.size ≤ 140737488351232 → ∃ k, laws_FnExactImposeSheet.f k a0 a1 a2 = some true
theorem laws_FnExactImposeSheet.walk (P : laws_FnExactImposeSheet.Pure) (a0 : Int) (a1 : Int) (a2 : ByteArray) (w : World) (w0 : (Lit.int .i64 a0).wf = true) (w1 : (Lit.int .i64 a1).wf = true) (w2 : a2.size ≤ 140737488351232) :
  Calls Tryd.prog 3 #[.int .i64 a0, .int .i64 a1, .string a2] w fun e w' => e = .returned (.bool true) ∧ Below w.heap.size w w' := by
 obtain ⟨k, h⟩ := P a0 a1 a2 w0 w1 w2
 refine (laws_FnExactImposeSheet.calls k a0 a1 a2 true w h).mono ?_
 rintro e w' ⟨rfl, hd⟩
 exact ⟨rfl, hd⟩

end Go.Proofs.YtkpidjmhdagkfaaDoor.QFnExactImposeSheet
-- halved
