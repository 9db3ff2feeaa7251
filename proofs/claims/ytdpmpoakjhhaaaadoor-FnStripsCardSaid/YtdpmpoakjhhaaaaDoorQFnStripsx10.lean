-- Written by own_print.py of this session's repo over the kit's print (its output, turned at some places).
import Derived.Test.YtdpmpoakjhhaaaaDoorQFnStripsx0
import Derived.Test.YtdpmpoakjhhaaaaDoorQFnStripsx1
import Derived.Test.YtdpmpoakjhhaaaaDoorQFnStripsx4
import Derived.Test.YtdpmpoakjhhaaaaDoorQFnStripsx5
import Derived.Test.YtdpmpoakjhhaaaaDoorQFnStripsx6
import Derived.Test.YtdpmpoakjhhaaaaDoorQFnStripsx7
import Derived.Test.YtdpmpoakjhhaaaaDoorQFnStripsx8
import Derived.Test.YtdpmpoakjhhaaaaDoorQFnStripsx9
namespace Go.Proofs.YtdpmpoakjhhaaaaDoor.QFnStrips
open Go.RowKit Go.Proofs.YtdpmpoakjhhaaaaDoorW.PrintWords Go.Proofs.YtdpmpoakjhhaaaaDoorW.PrintLast Go.Proofs.YtdpmpoakjhhaaaaDoorW.PrintMore
attribute [local go_sem] max2_int min2_int max_two min_two max_three min_three max_four min_four   -- for this text's walks alone
set_option linter.unusedVariables false
set_option linter.unusedSimpArgs false

/-! ### laws_FnStrips: function 3 -/
mutual
def laws_FnStrips.j0 : Nat → ByteArray → List Int → Int → List Int → ByteArray → Int → Int → Int → Bool → Option (Bool)
  | 0, _, _, _, _, _, _, _, _, _ => none
  | k + 1, x3, x4, x5, x8, x9, x10, x19, x20, x137 => if x137 = true then (none) else (if x10 = 0 then ((impl_FoldStrip.f k x9).bind fun bt414 => (if bt414.2 = 0 then ((laws_likeInts.f k bt414.1 x8).bind fun t418 => (if t418 = true then (laws_FnStrips.j1 k x3 x4 x5 x19 x20) else (none))) else (none))) else (laws_FnStrips.j1 k x3 x4 x5 x19 x20))
def laws_FnStrips.j1 : Nat → ByteArray → List Int → Int → Int → Int → Option (Bool)
  | 0, _, _, _, _, _ => none
  | k + 1, x3, x4, x5, x19, x20 => if x5 = 0 then ((impl_FindFolds.f k x4).bind fun bt419 => (laws_FnStrips.l0 k x3 x4 x19 x20 bt419.1 bt419.2 0)) else (some true)
def laws_FnStrips.l0 : Nat → ByteArray → List Int → Int → Int → ByteArray → Int → Int → Option (Bool)
  | 0, _, _, _, _, _, _, _ => none
  | k + 1, x3, x4, x19, x20, x27, x28, x29 => if x29 < (x4.length : Int) then (if 0 ≤ x29 then ((impl_PlaceOf.f k x3 (wrap64 ((mx (rd x4 x29) (wrap64 (-(rd x4 x29)))) - 1))).bind fun bt423 => (if bt423.2 = 0 then (if bt423.1 = x29 then (laws_FnStrips.l0 k x3 x4 x19 x20 x27 x28 (wrap64 (x29 + 1))) else (none)) else (none))) else (none)) else (if x28 = 0 then (if x27.toList = x3.toList then (if (wrap64 (x19 + x20)) = (x4.length : Int) then (if x3.toList = ([] : List UInt8) then (some true) else (some (x19 == x20))) else (none)) else (none)) else (none))
end
def laws_FnStrips.f (k : Nat) (l0 : List Int) : Option (Bool) := (laws_big.f l0).bind fun t382 => (if t382 = true then (some true) else ((spec_DrawFoldStrip.f k l0).bind fun t383 => ((impl_FoldStrip.f k t383).bind fun bt384 => ((spec_FoldStrip.f k t383).bind fun bt388 => ((spec_DrawFindFolds.f k l0).bind fun t392 => ((impl_FindFolds.f k t392).bind fun bt395 => ((spec_FindFolds.f k t392).bind fun bt397 => ((spec_DrawPlaceOf.f k l0).bind fun bt399 => ((impl_PlaceOf.f k bt399.1 bt399.2).bind fun bt401 => ((spec_PlaceOf.f k bt399.1 bt399.2).bind fun bt403 => ((impl_CountFaces.f k t383).bind fun bt405 => ((spec_CountFaces.f k t383).bind fun bt408 => (if bt384.2 = bt388.2 then ((laws_likeInts.f k bt384.1 bt388.1).bind fun t411 => (if t411 = true then (if bt395.2 = bt397.2 then (if bt395.1.toList = bt397.1.toList then (if bt401.2 = bt403.2 then (if bt401.1 = bt403.1 then (if bt405.2.2 = bt408.2.2 then (if bt405.1 = bt408.1 then (if bt405.2.1 = bt408.2.1 then ((impl_IsFolds.f t383).bind fun t412 => ((spec_IsFolds.f k t383).bind fun t413 => (laws_FnStrips.j0 k t383 bt384.1 bt384.2 t392 bt395.1 bt395.2 bt405.1 bt405.2.1 (t412 != t413)))) else (none)) else (none)) else (none)) else (none)) else (none)) else (none)) else (none)) else (none))) else (none))))))))))))))
theorem laws_FnStrips.mono_l : ∀ k, (∀ y0 y1 y2 y3 y4 y5 y6 y7 y8, LeO (laws_FnStrips.j0 k y0 y1 y2 y3 y4 y5 y6 y7 y8) (laws_FnStrips.j0 (k + 1) y0 y1 y2 y3 y4 y5 y6 y7 y8)) ∧ (∀ y0 y1 y2 y3 y4, LeO (laws_FnStrips.j1 k y0 y1 y2 y3 y4) (laws_FnStrips.j1 (k + 1) y0 y1 y2 y3 y4)) ∧ (∀ y0 y1 y2 y3 y4 y5 y6, LeO (laws_FnStrips.l0 k y0 y1 y2 y3 y4 y5 y6) (laws_FnStrips.l0 (k + 1) y0 y1 y2 y3 y4 y5 y6))
  | 0 => ⟨fun _ _ _ _ _ _ _ _ _ r h => by simp [laws_FnStrips.j0] at h, fun _ _ _ _ _ r h => by simp [laws_FnStrips.j1] at h, fun _ _ _ _ _ _ _ r h => by simp [laws_FnStrips.l0] at h⟩
  | k + 1 => by
    obtain ⟨ih0, ih1, ih2⟩ := laws_FnStrips.mono_l k
    refine ⟨?_, ?_, ?_⟩
    · intro y0 y1 y2 y3 y4 y5 y6 y7 y8
      unfold laws_FnStrips.j0
      repeat' first
      | (with_reducible exact ih0 _ _ _ _ _ _ _ _ _)
      | (with_reducible exact ih1 _ _ _ _ _)
      | (with_reducible exact ih2 _ _ _ _ _ _ _)
      | (with_reducible exact impl_CountFaces.mono _ _)
      | (with_reducible exact impl_FindFolds.mono _ _)
      | (with_reducible exact impl_FoldStrip.mono _ _)
      | (with_reducible exact impl_PlaceOf.mono _ _ _)
      | (with_reducible exact laws_likeInts.mono _ _ _)
      | (with_reducible exact spec_CountFaces.mono _ _)
      | (with_reducible exact spec_DrawFindFolds.mono _ _)
      | (with_reducible exact spec_DrawFoldStrip.mono _ _)
      | (with_reducible exact spec_DrawPlaceOf.mono _ _)
      | (with_reducible exact spec_FindFolds.mono _ _)
      | (with_reducible exact spec_FoldStrip.mono _ _)
      | (with_reducible exact spec_IsFolds.mono _ _)
      | (with_reducible exact spec_PlaceOf.mono _ _ _)
      | (with_reducible exact LeO.refl _)
      | (with_reducible exact LeO.none _)
      | (with_reducible refine LeO.ite ?_ ?_)
      | (with_reducible refine LeO.bind ?_ (fun _ => ?_))
      | exact ih0 _ _ _ _ _ _ _ _ _
      | exact ih1 _ _ _ _ _
      | exact ih2 _ _ _ _ _ _ _
      | exact impl_CountFaces.mono _ _
      | exact impl_FindFolds.mono _ _
      | exact impl_FoldStrip.mono _ _
      | exact impl_PlaceOf.mono _ _ _
      | exact laws_likeInts.mono _ _ _
      | exact spec_CountFaces.mono _ _
      | exact spec_DrawFindFolds.mono _ _
      | exact spec_DrawFoldStrip.mono _ _
      | exact spec_DrawPlaceOf.mono _ _
      | exact spec_FindFolds.mono _ _
      | exact spec_FoldStrip.mono _ _
      | exact spec_IsFolds.mono _ _
      | exact spec_PlaceOf.mono _ _ _
      | exact LeO.none _
      | refine LeO.ite ?_ ?_
      | refine LeO.bind ?_ (fun _ => ?_)
    · intro y0 y1 y2 y3 y4
      unfold laws_FnStrips.j1
      repeat' first
      | (with_reducible exact ih0 _ _ _ _ _ _ _ _ _)
      | (with_reducible exact ih1 _ _ _ _ _)
      | (with_reducible exact ih2 _ _ _ _ _ _ _)
      | (with_reducible exact impl_CountFaces.mono _ _)
      | (with_reducible exact impl_FindFolds.mono _ _)
      | (with_reducible exact impl_FoldStrip.mono _ _)
      | (with_reducible exact impl_PlaceOf.mono _ _ _)
      | (with_reducible exact laws_likeInts.mono _ _ _)
      | (with_reducible exact spec_CountFaces.mono _ _)
      | (with_reducible exact spec_DrawFindFolds.mono _ _)
      | (with_reducible exact spec_DrawFoldStrip.mono _ _)
      | (with_reducible exact spec_DrawPlaceOf.mono _ _)
      | (with_reducible exact spec_FindFolds.mono _ _)
      | (with_reducible exact spec_FoldStrip.mono _ _)
      | (with_reducible exact spec_IsFolds.mono _ _)
      | (with_reducible exact spec_PlaceOf.mono _ _ _)
      | (with_reducible exact LeO.refl _)
      | (with_reducible exact LeO.none _)
      | (with_reducible refine LeO.ite ?_ ?_)
      | (with_reducible refine LeO.bind ?_ (fun _ => ?_))
      | exact ih0 _ _ _ _ _ _ _ _ _
      | exact ih1 _ _ _ _ _
      | exact ih2 _ _ _ _ _ _ _
      | exact impl_CountFaces.mono _ _
      | exact impl_FindFolds.mono _ _
      | exact impl_FoldStrip.mono _ _
      | exact impl_PlaceOf.mono _ _ _
      | exact laws_likeInts.mono _ _ _
      | exact spec_CountFaces.mono _ _
      | exact spec_DrawFindFolds.mono _ _
      | exact spec_DrawFoldStrip.mono _ _
      | exact spec_DrawPlaceOf.mono _ _
      | exact spec_FindFolds.mono _ _
      | exact spec_FoldStrip.mono _ _
      | exact spec_IsFolds.mono _ _
      | exact spec_PlaceOf.mono _ _ _
      | exact LeO.none _
      | refine LeO.ite ?_ ?_
      | refine LeO.bind ?_ (fun _ => ?_)
    · intro y0 y1 y2 y3 y4 y5 y6
      unfold laws_FnStrips.l0
      repeat' first
      | (with_reducible exact ih0 _ _ _ _ _ _ _ _ _)
      | (with_reducible exact ih1 _ _ _ _ _)
      | (with_reducible exact ih2 _ _ _ _ _ _ _)
      | (with_reducible exact impl_CountFaces.mono _ _)
      | (with_reducible exact impl_FindFolds.mono _ _)
      | (with_reducible exact impl_FoldStrip.mono _ _)
      | (with_reducible exact impl_PlaceOf.mono _ _ _)
      | (with_reducible exact laws_likeInts.mono _ _ _)
      | (with_reducible exact spec_CountFaces.mono _ _)
      | (with_reducible exact spec_DrawFindFolds.mono _ _)
      | (with_reducible exact spec_DrawFoldStrip.mono _ _)
      | (with_reducible exact spec_DrawPlaceOf.mono _ _)
      | (with_reducible exact spec_FindFolds.mono _ _)
      | (with_reducible exact spec_FoldStrip.mono _ _)
      | (with_reducible exact spec_IsFolds.mono _ _)
      | (with_reducible exact spec_PlaceOf.mono _ _ _)
      | (with_reducible exact LeO.refl _)
      | (with_reducible exact LeO.none _)
      | (with_reducible refine LeO.ite ?_ ?_)
      | (with_reducible refine LeO.bind ?_ (fun _ => ?_))
      | exact ih0 _ _ _ _ _ _ _ _ _
      | exact ih1 _ _ _ _ _
      | exact ih2 _ _ _ _ _ _ _
      | exact impl_CountFaces.mono _ _
      | exact impl_FindFolds.mono _ _
      | exact impl_FoldStrip.mono _ _
      | exact impl_PlaceOf.mono _ _ _
      | exact laws_likeInts.mono _ _ _
      | exact spec_CountFaces.mono _ _
      | exact spec_DrawFindFolds.mono _ _
      | exact spec_DrawFoldStrip.mono _ _
      | exact spec_DrawPlaceOf.mono _ _
      | exact spec_FindFolds.mono _ _
      | exact spec_FoldStrip.mono _ _
      | exact spec_IsFolds.mono _ _
      | exact spec_PlaceOf.mono _ _ _
      | exact LeO.none _
      | refine LeO.ite ?_ ?_
      | refine LeO.bind ?_ (fun _ => ?_)
theorem laws_FnStrips.mono : ∀ a0 k, LeO (laws_FnStrips.f k a0) (laws_FnStrips.f (k + 1) a0) := by
  intro a0 k
  obtain ⟨ih0, ih1, ih2⟩ := laws_FnStrips.mono_l k
  unfold laws_FnStrips.f
  repeat' first
      | (with_reducible exact ih0 _ _ _ _ _ _ _ _ _)
      | (with_reducible exact ih1 _ _ _ _ _)
      | (with_reducible exact ih2 _ _ _ _ _ _ _)
      | (with_reducible exact impl_CountFaces.mono _ _)
      | (with_reducible exact impl_FindFolds.mono _ _)
      | (with_reducible exact impl_FoldStrip.mono _ _)
      | (with_reducible exact impl_PlaceOf.mono _ _ _)
      | (with_reducible exact laws_likeInts.mono _ _ _)
      | (with_reducible exact spec_CountFaces.mono _ _)
      | (with_reducible exact spec_DrawFindFolds.mono _ _)
      | (with_reducible exact spec_DrawFoldStrip.mono _ _)
      | (with_reducible exact spec_DrawPlaceOf.mono _ _)
      | (with_reducible exact spec_FindFolds.mono _ _)
      | (with_reducible exact spec_FoldStrip.mono _ _)
      | (with_reducible exact spec_IsFolds.mono _ _)
      | (with_reducible exact spec_PlaceOf.mono _ _ _)
      | (with_reducible exact LeO.refl _)
      | (with_reducible exact LeO.none _)
      | (with_reducible refine LeO.ite ?_ ?_)
      | (with_reducible refine LeO.bind ?_ (fun _ => ?_))
      | exact ih0 _ _ _ _ _ _ _ _ _
      | exact ih1 _ _ _ _ _
      | exact ih2 _ _ _ _ _ _ _
      | exact impl_CountFaces.mono _ _
      | exact impl_FindFolds.mono _ _
      | exact impl_FoldStrip.mono _ _
      | exact impl_PlaceOf.mono _ _ _
      | exact laws_likeInts.mono _ _ _
      | exact spec_CountFaces.mono _ _
      | exact spec_DrawFindFolds.mono _ _
      | exact spec_DrawFoldStrip.mono _ _
      | exact spec_DrawPlaceOf.mono _ _
      | exact spec_FindFolds.mono _ _
      | exact spec_FoldStrip.mono _ _
      | exact spec_IsFolds.mono _ _
      | exact spec_PlaceOf.mono _ _ _
      | exact LeO.none _
      | refine LeO.ite ?_ ?_
      | refine LeO.bind ?_ (fun _ => ?_)
def laws_FnStrips.T26 : Bool × List (List Nat × List Nat) := (true, [([], []), ([], []), ([], []), ([1, 2], [1, 2]), ([3], [3]), ([], []), ([], []), ([5, 6], [5, 6]), ([7], [7]), ([8], [8]), ([4, 9], [4, 9]), ([10], [10]), ([0, 11], [0, 11]), ([12], [12]), ([13], [13]), ([13], [13]), ([14, 12, 0, 1, 2, 3, 4, 5, 6, 7, 8, 9, 10, 11, 12, 13, 14], [14]), ([15, 16, 0, 1, 2, 3, 4, 5, 6, 7, 8, 9, 10, 11, 12, 13, 14, 15, 16], [15])])
def laws_FnStrips.B26 : List Nat := [0, 0, 0, 6, 14, 0, 0, 96, 224, 480, 1022, 2046, 4095, 8191, 16383, 16383, 32767, 131071]
theorem laws_FnStrips.tab26 : rtab .any (opsOf Tryd.f3 26) = laws_FnStrips.T26 := by kernel_rfl
theorem laws_FnStrips.bits26 : waitsOk laws_FnStrips.T26.2 laws_FnStrips.B26 = true := by kernel_rfl
set_option maxHeartbeats 8000000 in
set_option maxRecDepth 100000 in
theorem laws_FnStrips.calls (k : Nat) (A0 : Option Addr) (c0 : Nat) (l0 : List Int) (r : Bool) (w : World) (hr0 : Kd.C (Kd.int .u8) w A0 l0.length l0) (hc0 : l0.length ≤ c0) (h : laws_FnStrips.f k l0 = some r) :
    Calls Tryd.prog 3 #[.slice A0 l0.length c0] w fun e w' => e = .returned (.bool r) ∧ Below w.heap.size w w' := by
  have HR0 := Aside0.mk hr0
  have HC0 := Aside0.mk hc0
  clear hr0 hc0
  have HB := Aside0.mk (Below.refl w.heap.size w)
  have H : ((laws_big.f l0).bind fun t382 => (if t382 = true then (some true) else ((spec_DrawFoldStrip.f k l0).bind fun t383 => ((impl_FoldStrip.f k t383).bind fun bt384 => ((spec_FoldStrip.f k t383).bind fun bt388 => ((spec_DrawFindFolds.f k l0).bind fun t392 => ((impl_FindFolds.f k t392).bind fun bt395 => ((spec_FindFolds.f k t392).bind fun bt397 => ((spec_DrawPlaceOf.f k l0).bind fun bt399 => ((impl_PlaceOf.f k bt399.1 bt399.2).bind fun bt401 => ((spec_PlaceOf.f k bt399.1 bt399.2).bind fun bt403 => ((impl_CountFaces.f k t383).bind fun bt405 => ((spec_CountFaces.f k t383).bind fun bt408 => (if bt384.2 = bt388.2 then ((laws_likeInts.f k bt384.1 bt388.1).bind fun t411 => (if t411 = true then (if bt395.2 = bt397.2 then (if bt395.1.toList = bt397.1.toList then (if bt401.2 = bt403.2 then (if bt401.1 = bt403.1 then (if bt405.2.2 = bt408.2.2 then (if bt405.1 = bt408.1 then (if bt405.2.1 = bt408.2.1 then ((impl_IsFolds.f t383).bind fun t412 => ((spec_IsFolds.f k t383).bind fun t413 => (laws_FnStrips.j0 k t383 bt384.1 bt384.2 t392 bt395.1 bt395.2 bt405.1 bt405.2.1 (t412 != t413)))) else (none)) else (none)) else (none)) else (none)) else (none)) else (none)) else (none)) else (none))) else (none))))))))))))))) = some r := h
  clear h
  replace H := Option.bind_eq_some_iff.mp H
  obtain ⟨t382, A20, H⟩ := H
  replace H : (if t382 = true then (some true) else ((spec_DrawFoldStrip.f k l0).bind fun t383 => ((impl_FoldStrip.f k t383).bind fun bt384 => ((spec_FoldStrip.f k t383).bind fun bt388 => ((spec_DrawFindFolds.f k l0).bind fun t392 => ((impl_FindFolds.f k t392).bind fun bt395 => ((spec_FindFolds.f k t392).bind fun bt397 => ((spec_DrawPlaceOf.f k l0).bind fun bt399 => ((impl_PlaceOf.f k bt399.1 bt399.2).bind fun bt401 => ((spec_PlaceOf.f k bt399.1 bt399.2).bind fun bt403 => ((impl_CountFaces.f k t383).bind fun bt405 => ((spec_CountFaces.f k t383).bind fun bt408 => (if bt384.2 = bt388.2 then ((laws_likeInts.f k bt384.1 bt388.1).bind fun t411 => (if t411 = true then (if bt395.2 = bt397.2 then (if bt395.1.toList = bt397.1.toList then (if bt401.2 = bt403.2 then (if bt401.1 = bt403.1 then (if bt405.2.2 = bt408.2.2 then (if bt405.1 = bt408.1 then (if bt405.2.1 = bt408.2.1 then ((impl_IsFolds.f t383).bind fun t412 => ((spec_IsFolds.f k t383).bind fun t413 => (laws_FnStrips.j0 k t383 bt384.1 bt384.2 t392 bt395.1 bt395.2 bt405.1 bt405.2.1 (t412 != t413)))) else (none)) else (none)) else (none)) else (none)) else (none)) else (none)) else (none)) else (none))) else (none)))))))))))))) = some r := H
  have A2 := Aside0.mk A20
  clear A20
  by_cases c3 : t382 = true
  · subst c3
    have H1 : (some true) = some r := by rw [if_pos rfl] at H; exact H
    clear H
    have H := H1
    clear H1
    obtain rfl := Option.some.inj H
    go_enter Tryd.func3, Tryd.ntmps3
    go_wp2_with (first | ((with_reducible refine gate_callee (f := 5) rfl ?_); refine goesL_ (some 33) rfl rfl Tryd.func5 (by kernel_rfl) rfl #[.slice A0 l0.length c0] rfl (by (try simp only [List.map_toArray, List.map_cons, List.map_nil]); first | done | rfl | (simp only [List.length_drop, List.length_take]; rfl)) ?_; (with_reducible refine (laws_big.calls _ _ l0 true _ ?side1 ?side2 A2.out).mono ?_); (case side1 => repeat (first | exact HR0.out | (with_reducible refine Kd.C_alloc ?_ _) | (with_reducible refine Kd.C_drewN ?_ _) | (with_reducible refine Kd.C_drew ?_))); (case side2 => exact HC0.out); rintro e w' ⟨rfl, ⟨nd, rfl⟩⟩; refine ⟨_, rfl, ?_⟩))
    go_ret
    exact ⟨by first | rfl | (simp only [Go.IntWalk.i64_left]; first | done | rfl) | (simp [errW_none, errW_some] <;> rfl) | (simp [*, errW_none, errW_some] <;> rfl), by repeat (first | (with_reducible first | exact HB.out | apply below_alloc | apply pw_below_drewN | apply below_drew1) | exact HB.out)⟩
  · replace c3 := Bool.eq_false_iff.mpr c3
    subst c3
    have H1 : ((spec_DrawFoldStrip.f k l0).bind fun t383 => ((impl_FoldStrip.f k t383).bind fun bt384 => ((spec_FoldStrip.f k t383).bind fun bt388 => ((spec_DrawFindFolds.f k l0).bind fun t392 => ((impl_FindFolds.f k t392).bind fun bt395 => ((spec_FindFolds.f k t392).bind fun bt397 => ((spec_DrawPlaceOf.f k l0).bind fun bt399 => ((impl_PlaceOf.f k bt399.1 bt399.2).bind fun bt401 => ((spec_PlaceOf.f k bt399.1 bt399.2).bind fun bt403 => ((impl_CountFaces.f k t383).bind fun bt405 => ((spec_CountFaces.f k t383).bind fun bt408 => (if bt384.2 = bt388.2 then ((laws_likeInts.f k bt384.1 bt388.1).bind fun t411 => (if t411 = true then (if bt395.2 = bt397.2 then (if bt395.1.toList = bt397.1.toList then (if bt401.2 = bt403.2 then (if bt401.1 = bt403.1 then (if bt405.2.2 = bt408.2.2 then (if bt405.1 = bt408.1 then (if bt405.2.1 = bt408.2.1 then ((impl_IsFolds.f t383).bind fun t412 => ((spec_IsFolds.f k t383).bind fun t413 => (laws_FnStrips.j0 k t383 bt384.1 bt384.2 t392 bt395.1 bt395.2 bt405.1 bt405.2.1 (t412 != t413)))) else (none)) else (none)) else (none)) else (none)) else (none)) else (none)) else (none)) else (none))) else (none))))))))))))) = some r := by rw [if_neg (show ¬ (false = true) by decide)] at H; exact H
    clear H
    have H := H1
    clear H1
    replace H := Option.bind_eq_some_iff.mp H
    obtain ⟨t383, A40, H⟩ := H
    replace H : ((impl_FoldStrip.f k t383).bind fun bt384 => ((spec_FoldStrip.f k t383).bind fun bt388 => ((spec_DrawFindFolds.f k l0).bind fun t392 => ((impl_FindFolds.f k t392).bind fun bt395 => ((spec_FindFolds.f k t392).bind fun bt397 => ((spec_DrawPlaceOf.f k l0).bind fun bt399 => ((impl_PlaceOf.f k bt399.1 bt399.2).bind fun bt401 => ((spec_PlaceOf.f k bt399.1 bt399.2).bind fun bt403 => ((impl_CountFaces.f k t383).bind fun bt405 => ((spec_CountFaces.f k t383).bind fun bt408 => (if bt384.2 = bt388.2 then ((laws_likeInts.f k bt384.1 bt388.1).bind fun t411 => (if t411 = true then (if bt395.2 = bt397.2 then (if bt395.1.toList = bt397.1.toList then (if bt401.2 = bt403.2 then (if bt401.1 = bt403.1 then (if bt405.2.2 = bt408.2.2 then (if bt405.1 = bt408.1 then (if bt405.2.1 = bt408.2.1 then ((impl_IsFolds.f t383).bind fun t412 => ((spec_IsFolds.f k t383).bind fun t413 => (laws_FnStrips.j0 k t383 bt384.1 bt384.2 t392 bt395.1 bt395.2 bt405.1 bt405.2.1 (t412 != t413)))) else (none)) else (none)) else (none)) else (none)) else (none)) else (none)) else (none)) else (none))) else (none)))))))))))) = some r := H
    have A4 := Aside0.mk A40
    clear A40
    replace H := Option.bind_eq_some_iff.mp H
    obtain ⟨⟨t384, t385⟩, A50, H⟩ := H
    replace H : ((spec_FoldStrip.f k t383).bind fun bt388 => ((spec_DrawFindFolds.f k l0).bind fun t392 => ((impl_FindFolds.f k t392).bind fun bt395 => ((spec_FindFolds.f k t392).bind fun bt397 => ((spec_DrawPlaceOf.f k l0).bind fun bt399 => ((impl_PlaceOf.f k bt399.1 bt399.2).bind fun bt401 => ((spec_PlaceOf.f k bt399.1 bt399.2).bind fun bt403 => ((impl_CountFaces.f k t383).bind fun bt405 => ((spec_CountFaces.f k t383).bind fun bt408 => (if t385 = bt388.2 then ((laws_likeInts.f k t384 bt388.1).bind fun t411 => (if t411 = true then (if bt395.2 = bt397.2 then (if bt395.1.toList = bt397.1.toList then (if bt401.2 = bt403.2 then (if bt401.1 = bt403.1 then (if bt405.2.2 = bt408.2.2 then (if bt405.1 = bt408.1 then (if bt405.2.1 = bt408.2.1 then ((impl_IsFolds.f t383).bind fun t412 => ((spec_IsFolds.f k t383).bind fun t413 => (laws_FnStrips.j0 k t383 t384 t385 t392 bt395.1 bt395.2 bt405.1 bt405.2.1 (t412 != t413)))) else (none)) else (none)) else (none)) else (none)) else (none)) else (none)) else (none)) else (none))) else (none))))))))))) = some r := H
    have A5 := Aside0.mk A50
    clear A50
    replace H := Option.bind_eq_some_iff.mp H
    obtain ⟨⟨t388, t389⟩, A60, H⟩ := H
    replace H : ((spec_DrawFindFolds.f k l0).bind fun t392 => ((impl_FindFolds.f k t392).bind fun bt395 => ((spec_FindFolds.f k t392).bind fun bt397 => ((spec_DrawPlaceOf.f k l0).bind fun bt399 => ((impl_PlaceOf.f k bt399.1 bt399.2).bind fun bt401 => ((spec_PlaceOf.f k bt399.1 bt399.2).bind fun bt403 => ((impl_CountFaces.f k t383).bind fun bt405 => ((spec_CountFaces.f k t383).bind fun bt408 => (if t385 = t389 then ((laws_likeInts.f k t384 t388).bind fun t411 => (if t411 = true then (if bt395.2 = bt397.2 then (if bt395.1.toList = bt397.1.toList then (if bt401.2 = bt403.2 then (if bt401.1 = bt403.1 then (if bt405.2.2 = bt408.2.2 then (if bt405.1 = bt408.1 then (if bt405.2.1 = bt408.2.1 then ((impl_IsFolds.f t383).bind fun t412 => ((spec_IsFolds.f k t383).bind fun t413 => (laws_FnStrips.j0 k t383 t384 t385 t392 bt395.1 bt395.2 bt405.1 bt405.2.1 (t412 != t413)))) else (none)) else (none)) else (none)) else (none)) else (none)) else (none)) else (none)) else (none))) else (none)))))))))) = some r := H
    have A6 := Aside0.mk A60
    clear A60
    replace H := Option.bind_eq_some_iff.mp H
    obtain ⟨t392, A70, H⟩ := H
    replace H : ((impl_FindFolds.f k t392).bind fun bt395 => ((spec_FindFolds.f k t392).bind fun bt397 => ((spec_DrawPlaceOf.f k l0).bind fun bt399 => ((impl_PlaceOf.f k bt399.1 bt399.2).bind fun bt401 => ((spec_PlaceOf.f k bt399.1 bt399.2).bind fun bt403 => ((impl_CountFaces.f k t383).bind fun bt405 => ((spec_CountFaces.f k t383).bind fun bt408 => (if t385 = t389 then ((laws_likeInts.f k t384 t388).bind fun t411 => (if t411 = true then (if bt395.2 = bt397.2 then (if bt395.1.toList = bt397.1.toList then (if bt401.2 = bt403.2 then (if bt401.1 = bt403.1 then (if bt405.2.2 = bt408.2.2 then (if bt405.1 = bt408.1 then (if bt405.2.1 = bt408.2.1 then ((impl_IsFolds.f t383).bind fun t412 => ((spec_IsFolds.f k t383).bind fun t413 => (laws_FnStrips.j0 k t383 t384 t385 t392 bt395.1 bt395.2 bt405.1 bt405.2.1 (t412 != t413)))) else (none)) else (none)) else (none)) else (none)) else (none)) else (none)) else (none)) else (none))) else (none))))))))) = some r := H
    have A7 := Aside0.mk A70
    clear A70
    replace H := Option.bind_eq_some_iff.mp H
    obtain ⟨⟨t395, t396⟩, A80, H⟩ := H
    replace H : ((spec_FindFolds.f k t392).bind fun bt397 => ((spec_DrawPlaceOf.f k l0).bind fun bt399 => ((impl_PlaceOf.f k bt399.1 bt399.2).bind fun bt401 => ((spec_PlaceOf.f k bt399.1 bt399.2).bind fun bt403 => ((impl_CountFaces.f k t383).bind fun bt405 => ((spec_CountFaces.f k t383).bind fun bt408 => (if t385 = t389 then ((laws_likeInts.f k t384 t388).bind fun t411 => (if t411 = true then (if t396 = bt397.2 then (if t395.toList = bt397.1.toList then (if bt401.2 = bt403.2 then (if bt401.1 = bt403.1 then (if bt405.2.2 = bt408.2.2 then (if bt405.1 = bt408.1 then (if bt405.2.1 = bt408.2.1 then ((impl_IsFolds.f t383).bind fun t412 => ((spec_IsFolds.f k t383).bind fun t413 => (laws_FnStrips.j0 k t383 t384 t385 t392 t395 t396 bt405.1 bt405.2.1 (t412 != t413)))) else (none)) else (none)) else (none)) else (none)) else (none)) else (none)) else (none)) else (none))) else (none)))))))) = some r := H
    have A8 := Aside0.mk A80
    clear A80
    replace H := Option.bind_eq_some_iff.mp H
    obtain ⟨⟨t397, t398⟩, A90, H⟩ := H
    replace H : ((spec_DrawPlaceOf.f k l0).bind fun bt399 => ((impl_PlaceOf.f k bt399.1 bt399.2).bind fun bt401 => ((spec_PlaceOf.f k bt399.1 bt399.2).bind fun bt403 => ((impl_CountFaces.f k t383).bind fun bt405 => ((spec_CountFaces.f k t383).bind fun bt408 => (if t385 = t389 then ((laws_likeInts.f k t384 t388).bind fun t411 => (if t411 = true then (if t396 = t398 then (if t395.toList = t397.toList then (if bt401.2 = bt403.2 then (if bt401.1 = bt403.1 then (if bt405.2.2 = bt408.2.2 then (if bt405.1 = bt408.1 then (if bt405.2.1 = bt408.2.1 then ((impl_IsFolds.f t383).bind fun t412 => ((spec_IsFolds.f k t383).bind fun t413 => (laws_FnStrips.j0 k t383 t384 t385 t392 t395 t396 bt405.1 bt405.2.1 (t412 != t413)))) else (none)) else (none)) else (none)) else (none)) else (none)) else (none)) else (none)) else (none))) else (none))))))) = some r := H
    have A9 := Aside0.mk A90
    clear A90
    replace H := Option.bind_eq_some_iff.mp H
    obtain ⟨⟨t399, t400⟩, A100, H⟩ := H
    replace H : ((impl_PlaceOf.f k t399 t400).bind fun bt401 => ((spec_PlaceOf.f k t399 t400).bind fun bt403 => ((impl_CountFaces.f k t383).bind fun bt405 => ((spec_CountFaces.f k t383).bind fun bt408 => (if t385 = t389 then ((laws_likeInts.f k t384 t388).bind fun t411 => (if t411 = true then (if t396 = t398 then (if t395.toList = t397.toList then (if bt401.2 = bt403.2 then (if bt401.1 = bt403.1 then (if bt405.2.2 = bt408.2.2 then (if bt405.1 = bt408.1 then (if bt405.2.1 = bt408.2.1 then ((impl_IsFolds.f t383).bind fun t412 => ((spec_IsFolds.f k t383).bind fun t413 => (laws_FnStrips.j0 k t383 t384 t385 t392 t395 t396 bt405.1 bt405.2.1 (t412 != t413)))) else (none)) else (none)) else (none)) else (none)) else (none)) else (none)) else (none)) else (none))) else (none)))))) = some r := H
    have A10 := Aside0.mk A100
    clear A100
    replace H := Option.bind_eq_some_iff.mp H
    obtain ⟨⟨t401, t402⟩, A110, H⟩ := H
    replace H : ((spec_PlaceOf.f k t399 t400).bind fun bt403 => ((impl_CountFaces.f k t383).bind fun bt405 => ((spec_CountFaces.f k t383).bind fun bt408 => (if t385 = t389 then ((laws_likeInts.f k t384 t388).bind fun t411 => (if t411 = true then (if t396 = t398 then (if t395.toList = t397.toList then (if t402 = bt403.2 then (if t401 = bt403.1 then (if bt405.2.2 = bt408.2.2 then (if bt405.1 = bt408.1 then (if bt405.2.1 = bt408.2.1 then ((impl_IsFolds.f t383).bind fun t412 => ((spec_IsFolds.f k t383).bind fun t413 => (laws_FnStrips.j0 k t383 t384 t385 t392 t395 t396 bt405.1 bt405.2.1 (t412 != t413)))) else (none)) else (none)) else (none)) else (none)) else (none)) else (none)) else (none)) else (none))) else (none))))) = some r := H
    have A11 := Aside0.mk A110
    clear A110
    replace H := Option.bind_eq_some_iff.mp H
    obtain ⟨⟨t403, t404⟩, A120, H⟩ := H
    replace H : ((impl_CountFaces.f k t383).bind fun bt405 => ((spec_CountFaces.f k t383).bind fun bt408 => (if t385 = t389 then ((laws_likeInts.f k t384 t388).bind fun t411 => (if t411 = true then (if t396 = t398 then (if t395.toList = t397.toList then (if t402 = t404 then (if t401 = t403 then (if bt405.2.2 = bt408.2.2 then (if bt405.1 = bt408.1 then (if bt405.2.1 = bt408.2.1 then ((impl_IsFolds.f t383).bind fun t412 => ((spec_IsFolds.f k t383).bind fun t413 => (laws_FnStrips.j0 k t383 t384 t385 t392 t395 t396 bt405.1 bt405.2.1 (t412 != t413)))) else (none)) else (none)) else (none)) else (none)) else (none)) else (none)) else (none)) else (none))) else (none)))) = some r := H
    have A12 := Aside0.mk A120
    clear A120
    replace H := Option.bind_eq_some_iff.mp H
    obtain ⟨⟨t405, t406, t407⟩, A130, H⟩ := H
    replace H : ((spec_CountFaces.f k t383).bind fun bt408 => (if t385 = t389 then ((laws_likeInts.f k t384 t388).bind fun t411 => (if t411 = true then (if t396 = t398 then (if t395.toList = t397.toList then (if t402 = t404 then (if t401 = t403 then (if t407 = bt408.2.2 then (if t405 = bt408.1 then (if t406 = bt408.2.1 then ((impl_IsFolds.f t383).bind fun t412 => ((spec_IsFolds.f k t383).bind fun t413 => (laws_FnStrips.j0 k t383 t384 t385 t392 t395 t396 t405 t406 (t412 != t413)))) else (none)) else (none)) else (none)) else (none)) else (none)) else (none)) else (none)) else (none))) else (none))) = some r := H
    have A13 := Aside0.mk A130
    clear A130
    replace H := Option.bind_eq_some_iff.mp H
    obtain ⟨⟨t408, t409, t410⟩, A140, H⟩ := H
    replace H : (if t385 = t389 then ((laws_likeInts.f k t384 t388).bind fun t411 => (if t411 = true then (if t396 = t398 then (if t395.toList = t397.toList then (if t402 = t404 then (if t401 = t403 then (if t407 = t410 then (if t405 = t408 then (if t406 = t409 then ((impl_IsFolds.f t383).bind fun t412 => ((spec_IsFolds.f k t383).bind fun t413 => (laws_FnStrips.j0 k t383 t384 t385 t392 t395 t396 t405 t406 (t412 != t413)))) else (none)) else (none)) else (none)) else (none)) else (none)) else (none)) else (none)) else (none))) else (none)) = some r := H
    have A14 := Aside0.mk A140
    clear A140
    have HC15 := Aside0.mk H
    clear H
    go_enter Tryd.func3, Tryd.ntmps3
    go_upto_region 14 with (first | ((with_reducible refine gate_callee (f := 5) rfl ?_); refine goesL_ (some 33) rfl rfl Tryd.func5 (by kernel_rfl) rfl #[.slice A0 l0.length c0] rfl (by (try simp only [List.map_toArray, List.map_cons, List.map_nil]); first | done | rfl | (simp only [List.length_drop, List.length_take]; rfl)) ?_; (with_reducible refine (laws_big.calls _ _ l0 false _ ?side1 ?side2 A2.out).mono ?_); (case side1 => repeat (first | exact HR0.out | (with_reducible refine Kd.C_alloc ?_ _) | (with_reducible refine Kd.C_drewN ?_ _) | (with_reducible refine Kd.C_drew ?_))); (case side2 => exact HC0.out); rintro e w' ⟨rfl, ⟨nd, rfl⟩⟩; refine ⟨_, rfl, ?_⟩) | ((with_reducible refine gate_callee (f := 6) rfl ?_); refine goesL_ (some 35) rfl rfl Tryd.func6 (by kernel_rfl) rfl #[.slice A0 l0.length c0] rfl (by (try simp only [List.map_toArray, List.map_cons, List.map_nil]); first | done | rfl | (simp only [List.length_drop, List.length_take]; rfl)) ?_; (with_reducible refine (spec_DrawFoldStrip.calls k _ _ l0 t383 _ ?side1 ?side2 A4.out).mono ?_); (case side1 => repeat (first | exact HR0.out | (with_reducible refine Kd.C_alloc ?_ _) | (with_reducible refine Kd.C_drewN ?_ _) | (with_reducible refine Kd.C_drew ?_))); (case side2 => exact HC0.out); rintro e w16 ⟨rfl, hb⟩; refine ⟨_, rfl, ?_⟩; have n0_ := Aside0.mk (below_step (by repeat (first | (with_reducible first | exact HB.out | apply below_alloc | apply pw_below_drewN | apply below_drew1) | exact HB.out)) hb); clear HB; have HB := n0_; clear n0_; (try clear hb); (try clear hb2); (try clear hk); (try clear hi)) | ((with_reducible refine gate_callee (f := 7) rfl ?_); refine goesL_ (some 38) rfl rfl Tryd.func7 (by kernel_rfl) rfl #[.string t383] rfl (by (try simp only [List.map_toArray, List.map_cons, List.map_nil]); first | done | rfl | (simp only [List.length_drop, List.length_take]; rfl)) ?_; (with_reducible refine (impl_FoldStrip.calls k t383 t384 t385 _ A5.out).mono ?_); rintro e w17 ⟨v386, rfl, ho0, hb⟩; refine ⟨_, rfl, ?_⟩; have n0_ := Aside0.mk (Kd.R_lower ho0 (below_size (by repeat (first | (with_reducible first | exact HB.out | apply below_alloc | apply pw_below_drewN | apply below_drew1) | exact HB.out)))); have n1_ := Aside0.mk (below_step (by repeat (first | (with_reducible first | exact HB.out | apply below_alloc | apply pw_below_drewN | apply below_drew1) | exact HB.out)) hb); clear HB; have HO387 := n0_; have HB := n1_; clear n0_ n1_; (try clear hb); (try clear hb2); (try clear hk); (try clear hi); (try clear ho0)) | ((with_reducible refine gate_callee (f := 8) rfl ?_); refine goesL_ (some 43) rfl rfl Tryd.func8 (by kernel_rfl) rfl #[.string t383] rfl (by (try simp only [List.map_toArray, List.map_cons, List.map_nil]); first | done | rfl | (simp only [List.length_drop, List.length_take]; rfl)) ?_; (with_reducible refine (spec_FoldStrip.calls k t383 t388 t389 _ A6.out).mono ?_); rintro e w18 ⟨v390, rfl, ho0, hb⟩; refine ⟨_, rfl, ?_⟩; have n0_ := Aside0.mk (Kd.R_elder' (by (with_reducible repeat (first | apply Kd.R_alloc | apply Kd.R_drewN | apply Kd.R_drew)); exact HO387.out) (Kd.R_base ho0) hb); have n1_ := Aside0.mk (Kd.R_lower (Kd.R_new' ho0 (Kd.R_lt (by (with_reducible repeat (first | apply Kd.R_alloc | apply Kd.R_drewN | apply Kd.R_drew)); exact HO387.out))) (below_size (by repeat (first | (with_reducible first | exact HB.out | apply below_alloc | apply pw_below_drewN | apply below_drew1) | exact HB.out)))); have n2_ := Aside0.mk (below_step (by repeat (first | (with_reducible first | exact HB.out | apply below_alloc | apply pw_below_drewN | apply below_drew1) | exact HB.out)) hb); clear HO387; clear HB; have HO387 := n0_; have HO391 := n1_; have HB := n2_; clear n0_ n1_ n2_; (try clear hb); (try clear hb2); (try clear hk); (try clear hi); (try clear ho0)) | ((with_reducible refine gate_callee (f := 9) rfl ?_); refine goesL_ (some 47) rfl rfl Tryd.func9 (by kernel_rfl) rfl #[.slice A0 l0.length c0] rfl (by (try simp only [List.map_toArray, List.map_cons, List.map_nil]); first | done | rfl | (simp only [List.length_drop, List.length_take]; rfl)) ?_; (with_reducible refine (spec_DrawFindFolds.calls k _ _ l0 t392 _ ?side1 ?side2 A7.out).mono ?_); (case side1 => repeat (first | exact (Kd.C_below HR0.out HB.out) | (with_reducible refine Kd.C_alloc ?_ _) | (with_reducible refine Kd.C_drewN ?_ _) | (with_reducible refine Kd.C_drew ?_))); (case side2 => exact HC0.out); rintro e w19 ⟨v393, rfl, ho0, hb⟩; refine ⟨_, rfl, ?_⟩; have n0_ := Aside0.mk (Kd.R_elder' (by (with_reducible repeat (first | apply Kd.R_alloc | apply Kd.R_drewN | apply Kd.R_drew)); exact HO387.out) (Kd.R_base ho0) hb); have n1_ := Aside0.mk (Kd.R_elder' (by (with_reducible repeat (first | apply Kd.R_alloc | apply Kd.R_drewN | apply Kd.R_drew)); exact HO391.out) (Kd.R_base ho0) hb); have n2_ := Aside0.mk (Kd.R_lower (Kd.R_new' (Kd.R_new' ho0 (Kd.R_lt (by (with_reducible repeat (first | apply Kd.R_alloc | apply Kd.R_drewN | apply Kd.R_drew)); exact HO387.out))) (Kd.R_lt (by (with_reducible repeat (first | apply Kd.R_alloc | apply Kd.R_drewN | apply Kd.R_drew)); exact HO391.out))) (below_size (by repeat (first | (with_reducible first | exact HB.out | apply below_alloc | apply pw_below_drewN | apply below_drew1) | exact HB.out)))); have n3_ := Aside0.mk (below_step (by repeat (first | (with_reducible first | exact HB.out | apply below_alloc | apply pw_below_drewN | apply below_drew1) | exact HB.out)) hb); clear HO387; clear HO391; clear HB; have HO387 := n0_; have HO391 := n1_; have HO394 := n2_; have HB := n3_; clear n0_ n1_ n2_ n3_; (try clear hb); (try clear hb2); (try clear hk); (try clear hi); (try clear ho0); obtain ⟨Ao20, co20, eo20⟩ := Kd.R_slice HO394.out; subst eo20) | ((with_reducible refine gate_callee (f := 10) rfl ?_); refine goesL_ (some 50) rfl rfl Tryd.func10 (by kernel_rfl) rfl #[.slice Ao20 t392.length co20] rfl (by (try simp only [List.map_toArray, List.map_cons, List.map_nil]); first | done | rfl | (simp only [List.length_drop, List.length_take]; rfl)) ?_; (with_reducible refine (impl_FindFolds.calls k _ _ t392 t395 t396 _ ?side1 ?side2 A8.out).mono ?_); (case side1 => repeat (first | exact (Kd.R_reads' HO394.out).2.2 | (with_reducible refine Kd.C_alloc ?_ _) | (with_reducible refine Kd.C_drewN ?_ _) | (with_reducible refine Kd.C_drew ?_))); (case side2 => exact (Kd.R_reads' HO394.out).2.1); rintro e w21 ⟨rfl, hb⟩; refine ⟨_, rfl, ?_⟩; have n0_ := Aside0.mk (Kd.R_below (by (with_reducible repeat (first | apply Kd.R_alloc | apply Kd.R_drewN | apply Kd.R_drew)); exact HO387.out) hb); have n1_ := Aside0.mk (Kd.R_below (by (with_reducible repeat (first | apply Kd.R_alloc | apply Kd.R_drewN | apply Kd.R_drew)); exact HO391.out) hb); have n2_ := Aside0.mk (Kd.R_below (by (with_reducible repeat (first | apply Kd.R_alloc | apply Kd.R_drewN | apply Kd.R_drew)); exact HO394.out) hb); have n3_ := Aside0.mk (below_step (by repeat (first | (with_reducible first | exact HB.out | apply below_alloc | apply pw_below_drewN | apply below_drew1) | exact HB.out)) hb); clear HO387; clear HO391; clear HO394; clear HB; have HO387 := n0_; have HO391 := n1_; have HO394 := n2_; have HB := n3_; clear n0_ n1_ n2_ n3_; (try clear hb); (try clear hb2); (try clear hk); (try clear hi)) | ((with_reducible refine gate_callee (f := 11) rfl ?_); refine goesL_ (some 55) rfl rfl Tryd.func11 (by kernel_rfl) rfl #[.slice Ao20 t392.length co20] rfl (by (try simp only [List.map_toArray, List.map_cons, List.map_nil]); first | done | rfl | (simp only [List.length_drop, List.length_take]; rfl)) ?_; (with_reducible refine (spec_FindFolds.calls k _ _ t392 t397 t398 _ ?side1 ?side2 A9.out).mono ?_); (case side1 => repeat (first | exact (Kd.R_reads' HO394.out).2.2 | (with_reducible refine Kd.C_alloc ?_ _) | (with_reducible refine Kd.C_drewN ?_ _) | (with_reducible refine Kd.C_drew ?_))); (case side2 => exact (Kd.R_reads' HO394.out).2.1); rintro e w22 ⟨rfl, hb⟩; refine ⟨_, rfl, ?_⟩; have n0_ := Aside0.mk (Kd.R_below (by (with_reducible repeat (first | apply Kd.R_alloc | apply Kd.R_drewN | apply Kd.R_drew)); exact HO387.out) hb); have n1_ := Aside0.mk (Kd.R_below (by (with_reducible repeat (first | apply Kd.R_alloc | apply Kd.R_drewN | apply Kd.R_drew)); exact HO391.out) hb); have n2_ := Aside0.mk (Kd.R_below (by (with_reducible repeat (first | apply Kd.R_alloc | apply Kd.R_drewN | apply Kd.R_drew)); exact HO394.out) hb); have n3_ := Aside0.mk (below_step (by repeat (first | (with_reducible first | exact HB.out | apply below_alloc | apply pw_below_drewN | apply below_drew1) | exact HB.out)) hb); clear HO387; clear HO391; clear HO394; clear HB; have HO387 := n0_; have HO391 := n1_; have HO394 := n2_; have HB := n3_; clear n0_ n1_ n2_ n3_; (try clear hb); (try clear hb2); (try clear hk); (try clear hi)) | ((with_reducible refine gate_callee (f := 12) rfl ?_); refine goesL_ (some 60) rfl rfl Tryd.func12 (by kernel_rfl) rfl #[.slice A0 l0.length c0] rfl (by (try simp only [List.map_toArray, List.map_cons, List.map_nil]); first | done | rfl | (simp only [List.length_drop, List.length_take]; rfl)) ?_; (with_reducible refine (spec_DrawPlaceOf.calls k _ _ l0 t399 t400 _ ?side1 ?side2 A10.out).mono ?_); (case side1 => repeat (first | exact (Kd.C_below HR0.out HB.out) | (with_reducible refine Kd.C_alloc ?_ _) | (with_reducible refine Kd.C_drewN ?_ _) | (with_reducible refine Kd.C_drew ?_))); (case side2 => exact HC0.out); rintro e w23 ⟨rfl, hb⟩; refine ⟨_, rfl, ?_⟩; have n0_ := Aside0.mk (Kd.R_below (by (with_reducible repeat (first | apply Kd.R_alloc | apply Kd.R_drewN | apply Kd.R_drew)); exact HO387.out) hb); have n1_ := Aside0.mk (Kd.R_below (by (with_reducible repeat (first | apply Kd.R_alloc | apply Kd.R_drewN | apply Kd.R_drew)); exact HO391.out) hb); have n2_ := Aside0.mk (Kd.R_below (by (with_reducible repeat (first | apply Kd.R_alloc | apply Kd.R_drewN | apply Kd.R_drew)); exact HO394.out) hb); have n3_ := Aside0.mk (below_step (by repeat (first | (with_reducible first | exact HB.out | apply below_alloc | apply pw_below_drewN | apply below_drew1) | exact HB.out)) hb); clear HO387; clear HO391; clear HO394; clear HB; have HO387 := n0_; have HO391 := n1_; have HO394 := n2_; have HB := n3_; clear n0_ n1_ n2_ n3_; (try clear hb); (try clear hb2); (try clear hk); (try clear hi)) | ((with_reducible refine gate_callee (f := 13) rfl ?_); refine goesL_ (some 66) rfl rfl Tryd.func13 (by kernel_rfl) rfl #[.string t399, .int .i64 t400] rfl (by (try simp only [List.map_toArray, List.map_cons, List.map_nil]); first | done | rfl | (simp only [List.length_drop, List.length_take]; rfl)) ?_; (with_reducible refine (impl_PlaceOf.calls k t399 t400 t401 t402 _ A11.out).mono ?_); rintro e w24 ⟨rfl, hb⟩; refine ⟨_, rfl, ?_⟩; have n0_ := Aside0.mk (Kd.R_below (by (with_reducible repeat (first | apply Kd.R_alloc | apply Kd.R_drewN | apply Kd.R_drew)); exact HO387.out) hb); have n1_ := Aside0.mk (Kd.R_below (by (with_reducible repeat (first | apply Kd.R_alloc | apply Kd.R_drewN | apply Kd.R_drew)); exact HO391.out) hb); have n2_ := Aside0.mk (Kd.R_below (by (with_reducible repeat (first | apply Kd.R_alloc | apply Kd.R_drewN | apply Kd.R_drew)); exact HO394.out) hb); have n3_ := Aside0.mk (below_step (by repeat (first | (with_reducible first | exact HB.out | apply below_alloc | apply pw_below_drewN | apply below_drew1) | exact HB.out)) hb); clear HO387; clear HO391; clear HO394; clear HB; have HO387 := n0_; have HO391 := n1_; have HO394 := n2_; have HB := n3_; clear n0_ n1_ n2_ n3_; (try clear hb); (try clear hb2); (try clear hk); (try clear hi)) | ((with_reducible refine gate_callee (f := 14) rfl ?_); refine goesL_ (some 72) rfl rfl Tryd.func14 (by kernel_rfl) rfl #[.string t399, .int .i64 t400] rfl (by (try simp only [List.map_toArray, List.map_cons, List.map_nil]); first | done | rfl | (simp only [List.length_drop, List.length_take]; rfl)) ?_; (with_reducible refine (spec_PlaceOf.calls k t399 t400 t403 t404 _ A12.out).mono ?_); rintro e w25 ⟨rfl, hb⟩; refine ⟨_, rfl, ?_⟩; have n0_ := Aside0.mk (Kd.R_below (by (with_reducible repeat (first | apply Kd.R_alloc | apply Kd.R_drewN | apply Kd.R_drew)); exact HO387.out) hb); have n1_ := Aside0.mk (Kd.R_below (by (with_reducible repeat (first | apply Kd.R_alloc | apply Kd.R_drewN | apply Kd.R_drew)); exact HO391.out) hb); have n2_ := Aside0.mk (Kd.R_below (by (with_reducible repeat (first | apply Kd.R_alloc | apply Kd.R_drewN | apply Kd.R_drew)); exact HO394.out) hb); have n3_ := Aside0.mk (below_step (by repeat (first | (with_reducible first | exact HB.out | apply below_alloc | apply pw_below_drewN | apply below_drew1) | exact HB.out)) hb); clear HO387; clear HO391; clear HO394; clear HB; have HO387 := n0_; have HO391 := n1_; have HO394 := n2_; have HB := n3_; clear n0_ n1_ n2_ n3_; (try clear hb); (try clear hb2); (try clear hk); (try clear hi)) | ((with_reducible refine gate_callee (f := 15) rfl ?_); refine goesL_ (some 77) rfl rfl Tryd.func15 (by kernel_rfl) rfl #[.string t383] rfl (by (try simp only [List.map_toArray, List.map_cons, List.map_nil]); first | done | rfl | (simp only [List.length_drop, List.length_take]; rfl)) ?_; (with_reducible refine (impl_CountFaces.calls k t383 t405 t406 t407 _ A13.out).mono ?_); rintro e w26 ⟨rfl, hb⟩; refine ⟨_, rfl, ?_⟩; have n0_ := Aside0.mk (Kd.R_below (by (with_reducible repeat (first | apply Kd.R_alloc | apply Kd.R_drewN | apply Kd.R_drew)); exact HO387.out) hb); have n1_ := Aside0.mk (Kd.R_below (by (with_reducible repeat (first | apply Kd.R_alloc | apply Kd.R_drewN | apply Kd.R_drew)); exact HO391.out) hb); have n2_ := Aside0.mk (Kd.R_below (by (with_reducible repeat (first | apply Kd.R_alloc | apply Kd.R_drewN | apply Kd.R_drew)); exact HO394.out) hb); have n3_ := Aside0.mk (below_step (by repeat (first | (with_reducible first | exact HB.out | apply below_alloc | apply pw_below_drewN | apply below_drew1) | exact HB.out)) hb); clear HO387; clear HO391; clear HO394; clear HB; have HO387 := n0_; have HO391 := n1_; have HO394 := n2_; have HB := n3_; clear n0_ n1_ n2_ n3_; (try clear hb); (try clear hb2); (try clear hk); (try clear hi)) | ((with_reducible refine gate_callee (f := 16) rfl ?_); refine goesL_ (some 83) rfl rfl Tryd.func16 (by kernel_rfl) rfl #[.string t383] rfl (by (try simp only [List.map_toArray, List.map_cons, List.map_nil]); first | done | rfl | (simp only [List.length_drop, List.length_take]; rfl)) ?_; (with_reducible refine (spec_CountFaces.calls k t383 t408 t409 t410 _ A14.out).mono ?_); rintro e w27 ⟨rfl, hb⟩; refine ⟨_, rfl, ?_⟩; have n0_ := Aside0.mk (Kd.R_below (by (with_reducible repeat (first | apply Kd.R_alloc | apply Kd.R_drewN | apply Kd.R_drew)); exact HO387.out) hb); have n1_ := Aside0.mk (Kd.R_below (by (with_reducible repeat (first | apply Kd.R_alloc | apply Kd.R_drewN | apply Kd.R_drew)); exact HO391.out) hb); have n2_ := Aside0.mk (Kd.R_below (by (with_reducible repeat (first | apply Kd.R_alloc | apply Kd.R_drewN | apply Kd.R_drew)); exact HO394.out) hb); have n3_ := Aside0.mk (below_step (by repeat (first | (with_reducible first | exact HB.out | apply below_alloc | apply pw_below_drewN | apply below_drew1) | exact HB.out)) hb); clear HO387; clear HO391; clear HO394; clear HB; have HO387 := n0_; have HO391 := n1_; have HO394 := n2_; have HB := n3_; clear n0_ n1_ n2_ n3_; (try clear hb); (try clear hb2); (try clear hk); (try clear hi)))
    (try simp only [Act.put, List.setIfInBounds_toArray, List.set_cons_zero, List.set_cons_succ])
    go_cut [137] (fun v137 wc => ∃ (kq : Nat) (x137_14 : Bool), v137 = .bool x137_14 ∧ Aside0 (laws_FnStrips.j0 kq t383 t384 t385 t392 t395 t396 t405 t406 x137_14 = some r) ∧ Aside0 (kq ≤ k) ∧ Aside0 (Kd.R (Kd.int .i64) 2 wc w.heap.size (fun k_ => some k_ ≠ ((.slice Ao20 t392.length co20) : Value).ownBlock) v386 t384) ∧ Aside0 (Kd.R (Kd.int .i64) 2 wc w.heap.size (fun k_ => some k_ ≠ (v386 : Value).ownBlock) (.slice Ao20 t392.length co20) t392) ∧ Aside0 (Below w.heap.size w wc))
    case first =>
      have H := HC15.out
      clear HC15
      by_cases c28 : t385 = t389
      · rw [if_pos c28] at H
        have c28b0 : (t385 == t389) = true := beq_iff_eq.mpr c28
        have c28b1 : (t385 != t389) = false := bne_eq_false_iff_eq.mpr c28
        clear c28
        (first | rw [c28b0] | (simp only [i64_w, i32_w]; rw [c28b0]) | skip)
        replace H := Option.bind_eq_some_iff.mp H
        obtain ⟨t411, A290, H⟩ := H
        replace H : (if t411 = true then (if t396 = t398 then (if t395.toList = t397.toList then (if t402 = t404 then (if t401 = t403 then (if t407 = t410 then (if t405 = t408 then (if t406 = t409 then ((impl_IsFolds.f t383).bind fun t412 => ((spec_IsFolds.f k t383).bind fun t413 => (laws_FnStrips.j0 k t383 t384 t385 t392 t395 t396 t405 t406 (t412 != t413)))) else (none)) else (none)) else (none)) else (none)) else (none)) else (none)) else (none)) else (none)) = some r := H
        have A29 := Aside0.mk A290
        clear A290
        by_cases c30 : t411 = true
        · subst c30
          have H1 : (if t396 = t398 then (if t395.toList = t397.toList then (if t402 = t404 then (if t401 = t403 then (if t407 = t410 then (if t405 = t408 then (if t406 = t409 then ((impl_IsFolds.f t383).bind fun t412 => ((spec_IsFolds.f k t383).bind fun t413 => (laws_FnStrips.j0 k t383 t384 t385 t392 t395 t396 t405 t406 (t412 != t413)))) else (none)) else (none)) else (none)) else (none)) else (none)) else (none)) else (none)) = some r := by rw [if_pos rfl] at H; exact H
          clear H
          have H := H1
          clear H1
          by_cases c31 : t396 = t398
          · rw [if_pos c31] at H
            have c31b0 : (t396 == t398) = true := beq_iff_eq.mpr c31
            have c31b1 : (t396 != t398) = false := bne_eq_false_iff_eq.mpr c31
            clear c31
            by_cases c32 : t395.toList = t397.toList
            · rw [if_pos c32] at H
              have c32b0 : (t395.toList == t397.toList) = true := beq_iff_eq.mpr c32
              have c32b1 : (t395.toList != t397.toList) = false := bne_eq_false_iff_eq.mpr c32
              clear c32
              by_cases c33 : t402 = t404
              · rw [if_pos c33] at H
                have c33b0 : (t402 == t404) = true := beq_iff_eq.mpr c33
                have c33b1 : (t402 != t404) = false := bne_eq_false_iff_eq.mpr c33
                clear c33
                by_cases c34 : t401 = t403
                · rw [if_pos c34] at H
                  have c34b0 : (t401 == t403) = true := beq_iff_eq.mpr c34
                  have c34b1 : (t401 != t403) = false := bne_eq_false_iff_eq.mpr c34
                  clear c34
                  by_cases c35 : t407 = t410
                  · rw [if_pos c35] at H
                    have c35b0 : (t407 == t410) = true := beq_iff_eq.mpr c35
                    have c35b1 : (t407 != t410) = false := bne_eq_false_iff_eq.mpr c35
                    clear c35
                    by_cases c36 : t405 = t408
                    · rw [if_pos c36] at H
                      have c36b0 : (t405 == t408) = true := beq_iff_eq.mpr c36
                      have c36b1 : (t405 != t408) = false := bne_eq_false_iff_eq.mpr c36
                      clear c36
                      by_cases c37 : t406 = t409
                      · rw [if_pos c37] at H
                        have c37b0 : (t406 == t409) = true := beq_iff_eq.mpr c37
                        have c37b1 : (t406 != t409) = false := bne_eq_false_iff_eq.mpr c37
                        clear c37
                        replace H := Option.bind_eq_some_iff.mp H
                        obtain ⟨t412, A380, H⟩ := H
                        replace H : ((spec_IsFolds.f k t383).bind fun t413 => (laws_FnStrips.j0 k t383 t384 t385 t392 t395 t396 t405 t406 (t412 != t413))) = some r := H
                        have A38 := Aside0.mk A380
                        clear A380
                        replace H := Option.bind_eq_some_iff.mp H
                        obtain ⟨t413, A390, H⟩ := H
                        replace H : (laws_FnStrips.j0 k t383 t384 t385 t392 t395 t396 t405 t406 (t412 != t413)) = some r := H
                        have A39 := Aside0.mk A390
                        clear A390
                        have H' := Aside0.mk H
                        clear H
                        obtain ⟨Ao40, co40, eo40⟩ := Kd.R_slice HO387.out
                        subst eo40
                        obtain ⟨Ao41, co41, eo41⟩ := Kd.R_slice HO391.out
                        subst eo41
                        go_wp2_with (first | (go_at_call 17; (with_reducible refine (laws_likeInts.calls k _ _ t384 _ _ t388 true _ ?side1 ?side2 ?side3 ?side4 A29.out).mono ?_); (case side1 => repeat (first | exact (Kd.R_reads' HO387.out).2.2 | (with_reducible refine Kd.C_alloc ?_ _) | (with_reducible refine Kd.C_drewN ?_ _) | (with_reducible refine Kd.C_drew ?_))); (case side2 => exact (Kd.R_reads' HO387.out).2.1); (case side3 => repeat (first | exact (Kd.R_reads' HO391.out).2.2 | (with_reducible refine Kd.C_alloc ?_ _) | (with_reducible refine Kd.C_drewN ?_ _) | (with_reducible refine Kd.C_drew ?_))); (case side4 => exact (Kd.R_reads' HO391.out).2.1); rintro e w' ⟨rfl, ⟨nd, rfl⟩⟩) | (go_at_call 18; (with_reducible refine (impl_IsFolds.calls t383 t412 _ A38.out).mono ?_); rintro e w42 ⟨rfl, hb⟩; have n0_ := Aside0.mk (Kd.R_below (by (with_reducible repeat (first | apply Kd.R_alloc | apply Kd.R_drewN | apply Kd.R_drew)); exact HO387.out) hb); have n1_ := Aside0.mk (Kd.R_below (by (with_reducible repeat (first | apply Kd.R_alloc | apply Kd.R_drewN | apply Kd.R_drew)); exact HO391.out) hb); have n2_ := Aside0.mk (Kd.R_below (by (with_reducible repeat (first | apply Kd.R_alloc | apply Kd.R_drewN | apply Kd.R_drew)); exact HO394.out) hb); have n3_ := Aside0.mk (below_step (by repeat (first | (with_reducible first | exact HB.out | apply below_alloc | apply pw_below_drewN | apply below_drew1) | exact HB.out)) hb); clear HO387; clear HO391; clear HO394; clear HB; have HO387 := n0_; have HO391 := n1_; have HO394 := n2_; have HB := n3_; clear n0_ n1_ n2_ n3_; (try clear hb); (try clear hb2); (try clear hk); (try clear hi)) | (go_at_call 19; (with_reducible refine (spec_IsFolds.calls k t383 t413 _ A39.out).mono ?_); rintro e w' ⟨rfl, ⟨nd, rfl⟩⟩))
                        go_meet
                        case rel => exact ⟨_, ((t412 != t413)), (by first | rfl | (simp; done) | (simp [*]; done)), H', ⟨by first | omega | exact Nat.le_refl _⟩, ⟨by (with_reducible repeat (first | apply Kd.R_alloc | apply Kd.R_drewN | apply Kd.R_drew)); exact Kd.R_mono HO387.out (fun _ hk => hk.2)⟩, ⟨by (with_reducible repeat (first | apply Kd.R_alloc | apply Kd.R_drewN | apply Kd.R_drew)); exact Kd.R_mono HO394.out (fun _ hk => hk.1.2)⟩, ⟨by repeat (first | (with_reducible first | exact HB.out | apply below_alloc | apply pw_below_drewN | apply below_drew1) | exact HB.out)⟩⟩
                      · rw [if_neg c37] at H
                        exact absurd H (by simp)
                    · rw [if_neg c36] at H
                      exact absurd H (by simp)
                  · rw [if_neg c35] at H
                    exact absurd H (by simp)
                · rw [if_neg c34] at H
                  exact absurd H (by simp)
              · rw [if_neg c33] at H
                exact absurd H (by simp)
            · rw [if_neg c32] at H
              exact absurd H (by simp)
          · rw [if_neg c31] at H
            exact absurd H (by simp)
        · replace c30 := Bool.eq_false_iff.mpr c30
          subst c30
          have H1 : (none) = some r := by rw [if_neg (show ¬ (false = true) by decide)] at H; exact H
          clear H
          have H := H1
          clear H1
          exact absurd H (by simp)
      · rw [if_neg c28] at H
        exact absurd H (by simp)
    case rest =>
      clear HC15
      try clear c1
      try clear c2
      try clear p2
      try clear c3
      try clear c5
      try clear c6
      try clear c7
      try clear c8
      try clear c9
      try clear c10
      try clear c11
      try clear c12
      try clear c13
      try clear c14
      try clear c15
      try clear c16
      try clear c28
      try clear c28b0
      try clear c28b1
      try clear c30
      try clear c31
      try clear c31b0
      try clear c31b1
      try clear c32
      try clear c32b0
      try clear c32b1
      try clear c33
      try clear c33b0
      try clear c33b1
      try clear c34
      try clear c34b0
      try clear c34b1
      try clear c35
      try clear c35b0
      try clear c35b1
      try clear c36
      try clear c36b0
      try clear c36b1
      try clear c37
      try clear c37b0
      try clear c37b1
      obtain ⟨kq, x137_14, rfl, HA, HJ14, HO_4, HO_8, HB⟩ := hcut
      cases kq with
      | zero => exact absurd HA.out (by simp [laws_FnStrips.j0])
      | succ kj14 =>
        have H := HA.out
        clear HA
        simp only [laws_FnStrips.j0] at H
        by_cases c43 : x137_14 = true
        · subst c43
          have H1 : (none) = some r := by rw [if_pos rfl] at H; exact H
          clear H
          have H := H1
          clear H1
          exact absurd H (by simp)
        · replace c43 := Bool.eq_false_iff.mpr c43
          subst c43
          have H1 : (if t396 = 0 then ((impl_FoldStrip.f kj14 t395).bind fun bt414 => (if bt414.2 = 0 then ((laws_likeInts.f kj14 bt414.1 t392).bind fun t418 => (if t418 = true then (laws_FnStrips.j1 kj14 t383 t384 t385 t405 t406) else (none))) else (none))) else (laws_FnStrips.j1 kj14 t383 t384 t385 t405 t406)) = some r := by rw [if_neg (show ¬ (false = true) by decide)] at H; exact H
          clear H
          have H := H1
          clear H1
          have HC44 := Aside0.mk H
          clear H
          go_upto_if 139 with (fail)
          go_cut [] (fun wc => ∃ (kq : Nat), Aside0 (laws_FnStrips.j1 kq t383 t384 t385 t405 t406 = some r) ∧ Aside0 (kq ≤ kj14) ∧ Aside0 (Kd.R (Kd.int .i64) 2 wc w.heap.size (fun _ => True) v386 t384) ∧ Aside0 (Below w.heap.size w wc))
          case first =>
            have H := HC44.out
            clear HC44
            by_cases c45 : t396 = 0
            · rw [if_pos c45] at H
              have c45b0 : (t396 == 0) = true := beq_iff_eq.mpr c45
              have c45b1 : (t396 != 0) = false := bne_eq_false_iff_eq.mpr c45
              clear c45
              (first | rw [c45b0] | (simp only [i64_w, i32_w]; rw [c45b0]) | skip)
              replace H := Option.bind_eq_some_iff.mp H
              obtain ⟨⟨t414, t415⟩, A460, H⟩ := H
              replace H : (if t415 = 0 then ((laws_likeInts.f kj14 t414 t392).bind fun t418 => (if t418 = true then (laws_FnStrips.j1 kj14 t383 t384 t385 t405 t406) else (none))) else (none)) = some r := H
              have A46 := Aside0.mk A460
              clear A460
              by_cases c47 : t415 = 0
              · rw [if_pos c47] at H
                have c47b0 : (t415 == 0) = true := beq_iff_eq.mpr c47
                have c47b1 : (t415 != 0) = false := bne_eq_false_iff_eq.mpr c47
                clear c47
                replace H := Option.bind_eq_some_iff.mp H
                obtain ⟨t418, A480, H⟩ := H
                replace H : (if t418 = true then (laws_FnStrips.j1 kj14 t383 t384 t385 t405 t406) else (none)) = some r := H
                have A48 := Aside0.mk A480
                clear A480
                by_cases c49 : t418 = true
                · subst c49
                  have H1 : (laws_FnStrips.j1 kj14 t383 t384 t385 t405 t406) = some r := by rw [if_pos rfl] at H; exact H
                  clear H
                  have H := H1
                  clear H1
                  have H' := Aside0.mk H
                  clear H
                  go_wp2_with (first | ((with_reducible refine gate_callee (f := 7) rfl ?_); refine goesL_ (some 142) rfl rfl Tryd.func7 (by kernel_rfl) rfl #[.string t395] rfl (by (try simp only [List.map_toArray, List.map_cons, List.map_nil]); first | done | rfl | (simp only [List.length_drop, List.length_take]; rfl)) ?_; (with_reducible refine (impl_FoldStrip.calls kj14 t395 t414 t415 _ A46.out).mono ?_); rintro e w50 ⟨v416, rfl, ho0, hb⟩; refine ⟨_, rfl, ?_⟩; have n0_ := Aside0.mk (Kd.R_elder' (by (with_reducible repeat (first | apply Kd.R_alloc | apply Kd.R_drewN | apply Kd.R_drew)); exact HO_4.out) (Kd.R_base ho0) hb); have n1_ := Aside0.mk (Kd.R_elder' (by (with_reducible repeat (first | apply Kd.R_alloc | apply Kd.R_drewN | apply Kd.R_drew)); exact HO_8.out) (Kd.R_base ho0) hb); have n2_ := Aside0.mk (Kd.R_lower (Kd.R_new' (Kd.R_new' ho0 (Kd.R_lt (by (with_reducible repeat (first | apply Kd.R_alloc | apply Kd.R_drewN | apply Kd.R_drew)); exact HO_4.out))) (Kd.R_lt (by (with_reducible repeat (first | apply Kd.R_alloc | apply Kd.R_drewN | apply Kd.R_drew)); exact HO_8.out))) (below_size (by repeat (first | (with_reducible first | exact HB.out | apply below_alloc | apply pw_below_drewN | apply below_drew1) | exact HB.out)))); have n3_ := Aside0.mk (below_step (by repeat (first | (with_reducible first | exact HB.out | apply below_alloc | apply pw_below_drewN | apply below_drew1) | exact HB.out)) hb); clear HO_4; clear HO_8; clear HB; have HO_4 := n0_; have HO_8 := n1_; have HO417 := n2_; have HB := n3_; clear n0_ n1_ n2_ n3_; (try clear hb); (try clear hb2); (try clear hk); (try clear hi); (try clear ho0); obtain ⟨Ao51, co51, eo51⟩ := Kd.R_slice HO417.out; subst eo51) | (go_at_call 17; (with_reducible refine (laws_likeInts.calls kj14 _ _ t414 _ _ t392 true _ ?side1 ?side2 ?side3 ?side4 A48.out).mono ?_); (case side1 => repeat (first | exact (Kd.R_reads' HO417.out).2.2 | (with_reducible refine Kd.C_alloc ?_ _) | (with_reducible refine Kd.C_drewN ?_ _) | (with_reducible refine Kd.C_drew ?_))); (case side2 => exact (Kd.R_reads' HO417.out).2.1); (case side3 => repeat (first | exact (Kd.R_reads' HO_8.out).2.2 | (with_reducible refine Kd.C_alloc ?_ _) | (with_reducible refine Kd.C_drewN ?_ _) | (with_reducible refine Kd.C_drew ?_))); (case side4 => exact (Kd.R_reads' HO_8.out).2.1); rintro e w' ⟨rfl, ⟨nd, rfl⟩⟩))
                  go_meet
                  case rel => exact ⟨_, H', ⟨by have := HJ14.out; first | omega | exact Nat.le_refl _⟩, ⟨by (with_reducible repeat (first | apply Kd.R_alloc | apply Kd.R_drewN | apply Kd.R_drew)); exact Kd.R_mono HO_4.out (fun _ hk => trivial)⟩, ⟨by repeat (first | (with_reducible first | exact HB.out | apply below_alloc | apply pw_below_drewN | apply below_drew1) | exact HB.out)⟩⟩
                · replace c49 := Bool.eq_false_iff.mpr c49
                  subst c49
                  have H1 : (none) = some r := by rw [if_neg (show ¬ (false = true) by decide)] at H; exact H
                  clear H
                  have H := H1
                  clear H1
                  exact absurd H (by simp)
              · rw [if_neg c47] at H
                exact absurd H (by simp)
            · rw [if_neg c45] at H
              have c45b0 : (t396 == 0) = false := beq_eq_false_iff_ne.mpr c45
              have c45b1 : (t396 != 0) = true := bne_iff_ne.mpr c45
              (first | rw [c45b0] | (simp only [i64_w, i32_w]; rw [c45b0]) | skip)
              have H' := Aside0.mk H
              clear H
              go_wp2
              go_meet
              case rel => exact ⟨_, H', ⟨by have := HJ14.out; first | omega | exact Nat.le_refl _⟩, ⟨by (with_reducible repeat (first | apply Kd.R_alloc | apply Kd.R_drewN | apply Kd.R_drew)); exact Kd.R_mono HO_4.out (fun _ hk => trivial)⟩, ⟨by repeat (first | (with_reducible first | exact HB.out | apply below_alloc | apply pw_below_drewN | apply below_drew1) | exact HB.out)⟩⟩
          case rest =>
            clear HC44
            try clear c1
            try clear c2
            try clear p2
            try clear c3
            try clear c4
            try clear c5
            try clear c6
            try clear c7
            try clear c8
            try clear c9
            try clear c10
            try clear c11
            try clear c12
            try clear c13
            try clear c14
            try clear c15
            try clear c16
            try clear c28
            try clear c28b0
            try clear c28b1
            try clear c30
            try clear c31
            try clear c31b0
            try clear c31b1
            try clear c32
            try clear c32b0
            try clear c32b1
            try clear c33
            try clear c33b0
            try clear c33b1
            try clear c34
            try clear c34b0
            try clear c34b1
            try clear c35
            try clear c35b0
            try clear c35b1
            try clear c36
            try clear c36b0
            try clear c36b1
            try clear c37
            try clear c37b0
            try clear c37b1
            try clear c43
            try clear c45
            try clear c45b0
            try clear c45b1
            try clear c47
            try clear c47b0
            try clear c47b1
            try clear c49
            try clear p2
            obtain ⟨kq, HA, HJ43, HO_4, HB⟩ := hcut
            cases kq with
            | zero => exact absurd HA.out (by simp [laws_FnStrips.j1])
            | succ kj43 =>
              have H := HA.out
              clear HA
              simp only [laws_FnStrips.j1] at H
              by_cases c52 : t385 = 0
              · rw [if_pos c52] at H
                have c52b0 : (t385 == 0) = true := beq_iff_eq.mpr c52
                have c52b1 : (t385 != 0) = false := bne_eq_false_iff_eq.mpr c52
                clear c52
                replace H := Option.bind_eq_some_iff.mp H
                obtain ⟨⟨t419, t420⟩, A530, H⟩ := H
                replace H : (laws_FnStrips.l0 kj43 t383 t384 t405 t406 t419 t420 0) = some r := H
                have A53 := Aside0.mk A530
                clear A530
                have H' := Aside0.mk H
                clear H
                obtain ⟨Ao54, co54, eo54⟩ := Kd.R_slice HO_4.out
                subst eo54
                go_wp2_with (first | ((with_reducible refine gate_callee (f := 10) rfl ?_); refine goesL_ (some 157) rfl rfl Tryd.func10 (by kernel_rfl) rfl #[.slice Ao54 t384.length co54] rfl (by (try simp only [List.map_toArray, List.map_cons, List.map_nil]); first | done | rfl | (simp only [List.length_drop, List.length_take]; rfl)) ?_; (with_reducible refine (impl_FindFolds.calls kj43 _ _ t384 t419 t420 _ ?side1 ?side2 A53.out).mono ?_); (case side1 => repeat (first | exact (Kd.R_reads' HO_4.out).2.2 | (with_reducible refine Kd.C_alloc ?_ _) | (with_reducible refine Kd.C_drewN ?_ _) | (with_reducible refine Kd.C_drew ?_))); (case side2 => exact (Kd.R_reads' HO_4.out).2.1); rintro e w55 ⟨rfl, hb⟩; refine ⟨_, rfl, ?_⟩; have n0_ := Aside0.mk (Kd.R_below (by (with_reducible repeat (first | apply Kd.R_alloc | apply Kd.R_drewN | apply Kd.R_drew)); exact HO_4.out) hb); have n1_ := Aside0.mk (below_step (by repeat (first | (with_reducible first | exact HB.out | apply below_alloc | apply pw_below_drewN | apply below_drew1) | exact HB.out)) hb); clear HO_4; clear HB; have HO_4 := n0_; have HB := n1_; clear n0_ n1_; (try clear hb); (try clear hb2); (try clear hk); (try clear hi)))
                go_loopg [29] kj43 (fun kq v29 w' => ∃ (x29_3 : Int), v29 = .int .i64 x29_3 ∧ Aside0 (laws_FnStrips.l0 kq t383 t384 t405 t406 t419 t420 x29_3 = some r) ∧ Aside0 (kq ≤ kj43) ∧ Aside0 (Kd.R (Kd.int .i64) 2 w' w.heap.size (fun _ => True) (.slice Ao54 t384.length co54) t384) ∧ Aside0 (Below w.heap.size w w'))
                case atStart => exact ⟨(0), (by first | rfl | (simp; done) | (simp [*]; done)), H', ⟨Nat.le_refl _⟩, ⟨by (with_reducible repeat (first | apply Kd.R_alloc | apply Kd.R_drewN | apply Kd.R_drew)); exact HO_4.out⟩, ⟨by repeat (first | (with_reducible first | exact HB.out | apply below_alloc | apply pw_below_drewN | apply below_drew1) | exact HB.out)⟩⟩
                case round =>
                  clear H'
                  try clear c1
                  try clear c2
                  try clear p2
                  try clear c3
                  try clear c4
                  try clear c5
                  try clear c6
                  try clear c7
                  try clear c8
                  try clear c9
                  try clear c10
                  try clear c11
                  try clear c12
                  try clear c13
                  try clear c14
                  try clear c15
                  try clear c16
                  try clear c28
                  try clear c28b0
                  try clear c28b1
                  try clear c30
                  try clear c31
                  try clear c31b0
                  try clear c31b1
                  try clear c32
                  try clear c32b0
                  try clear c32b1
                  try clear c33
                  try clear c33b0
                  try clear c33b1
                  try clear c34
                  try clear c34b0
                  try clear c34b1
                  try clear c35
                  try clear c35b0
                  try clear c35b1
                  try clear c36
                  try clear c36b0
                  try clear c36b1
                  try clear c37
                  try clear c37b0
                  try clear c37b1
                  try clear c43
                  try clear c45
                  try clear c45b0
                  try clear c45b1
                  try clear c47
                  try clear c47b0
                  try clear c47b1
                  try clear c49
                  try clear c52
                  try clear c52b0
                  try clear c52b1
                  try clear p2
                  obtain ⟨x29_3, rfl, HA, HK3, HO_4, HB⟩ := hrel
                  cases gk with
                  | zero => exact absurd HA.out (by simp [laws_FnStrips.l0])
                  | succ k3 =>
                    have H := HA.out
                    clear HA
                    simp only [laws_FnStrips.l0] at H
                    by_cases c56 : x29_3 < (t384.length : Int)
                    · rw [if_pos c56] at H
                      have c56b0 : decide (x29_3 < (t384.length : Int)) = true := decide_eq_true c56
                      clear c56
                      by_cases c57 : 0 ≤ x29_3
                      · rw [if_pos c57] at H
                        have c57b0 : decide (0 ≤ x29_3) = true := decide_eq_true c57
                        clear c57
                        obtain ⟨ji58, hji58⟩ : ∃ j_ : Int, (mx (rd t384 x29_3) (wrap64 (-(rd t384 x29_3)))) = j_ := ⟨_, rfl⟩
                        replace H : ((impl_PlaceOf.f k3 t383 (wrap64 ((ji58) - 1))).bind fun bt423 => (if bt423.2 = 0 then (if bt423.1 = x29_3 then (laws_FnStrips.l0 k3 t383 t384 t405 t406 t419 t420 (wrap64 (x29_3 + 1))) else (none)) else (none))) = some r := by first | (rw [hji58] at H; exact H) | (simp only [hji58] at H ⊢; exact H)
                        have hji58_ : (if (rd t384 x29_3) < (wrap64 (-(rd t384 x29_3))) then (wrap64 (-(rd t384 x29_3))) else (rd t384 x29_3)) = ji58 := hji58
                        replace H := Option.bind_eq_some_iff.mp H
                        obtain ⟨⟨t423, t424⟩, A590, H⟩ := H
                        replace H : (if t424 = 0 then (if t423 = x29_3 then (laws_FnStrips.l0 k3 t383 t384 t405 t406 t419 t420 (wrap64 (x29_3 + 1))) else (none)) else (none)) = some r := H
                        have A59 := Aside0.mk A590
                        clear A590
                        by_cases c60 : t424 = 0
                        · rw [if_pos c60] at H
                          have c60b0 : (t424 == 0) = true := beq_iff_eq.mpr c60
                          have c60b1 : (t424 != 0) = false := bne_eq_false_iff_eq.mpr c60
                          clear c60
                          by_cases c61 : t423 = x29_3
                          · rw [if_pos c61] at H
                            have c61b0 : (t423 == x29_3) = true := beq_iff_eq.mpr c61
                            have c61b1 : (t423 != x29_3) = false := bne_eq_false_iff_eq.mpr c61
                            clear c61
                            have H' := Aside0.mk H
                            clear H
                            try go_wp2
                            have n0_ := Aside0.mk (Kd.R_drew HO_4.out)
                            have n1_ := Aside0.mk (below_drew1 HB.out)
                            clear HO_4
                            clear HB
                            have HO_4 := n0_
                            have HB := n1_
                            clear n0_ n1_
                            have p421 : 0 ≤ (x29_3 : Int) := of_decide_eq_true (by first | (with_reducible assumption) | assumption)
                            have q421 : x29_3 < (t384.length : Int) := of_decide_eq_true (by first | (with_reducible assumption) | assumption)
                            obtain ⟨ad421, e421, hx421_0⟩ := Kd.at_int (Kd.R_reads' HO_4.out).2.2 x29_3 p421 q421
                            cases e421
                            replace p421 := eq_true p421
                            replace q421 := eq_true q421
                            have p422 : 0 ≤ (x29_3 : Int) := of_decide_eq_true (by first | (with_reducible assumption) | assumption)
                            have q422 : x29_3 < (t384.length : Int) := of_decide_eq_true (by first | (with_reducible assumption) | assumption)
                            obtain ⟨ad422, e422, hx422_0⟩ := Kd.at_int (Kd.R_reads' HO_4.out).2.2 x29_3 p422 q422
                            obtain rfl : ad421 = ad422 := (by injection e422)
                            replace p422 := eq_true p422
                            replace q422 := eq_true q422
                            refine start_ (n := 18) (S := fun w' => w'.cell? (ad421.add (x29_3).toNat) = some (.int .i64 (rd t384 x29_3)) ∧ w'.cell? (ad421.add (x29_3).toNat) = some (.int .i64 (rd t384 x29_3))) (ds := []) #[false, false, false, false, false, false, false, false, false, false, false, false, false, false, false, false, false, false] (by kernel_rfl) rfl rfl ⟨hx421_0, hx422_0⟩ (fun hHeld => ?_); refine with_tabW laws_FnStrips.tab26 laws_FnStrips.bits26 (fun HT_ HW_ => ?_)
                            generalize wr.drew = w62 at HO_4 HB hx421_0 hx422_0 hHeld ⊢
                            refine pure_ (i := 0) (N := some 167) (v := ?_) (a' := ?_) #[true, false, false, false, false, false, false, false, false, false, false, false, false, false, false, false, false, false] rfl rfl (any_of HT_.out (by kernel_rfl)) (fun _ _ _ h => h) (Or.inl ⟨by rfl, ?_⟩) ?_ ?_
                            rotate_left
                            · intro w'
                              go_simp
                              with_reducible rfl
                            rotate_left
                            · simp only [Act.put, List.setIfInBounds_toArray, List.set_cons_zero, List.set_cons_succ, i64_w, i32_w]
                              rfl
                            refine pure_ (i := 1) (N := some 168) (v := ?_) (a' := ?_) #[true, true, false, false, false, false, false, false, false, false, false, false, false, false, false, false, false, false] rfl rfl (any_of HT_.out (by kernel_rfl)) (fun _ _ _ h => h) (Or.inl ⟨by rfl, ?_⟩) ?_ ?_
                            rotate_left
                            · intro w'
                              go_simp
                              with_reducible rfl
                            rotate_left
                            · simp only [Act.put, List.setIfInBounds_toArray, List.set_cons_zero, List.set_cons_succ, i64_w, i32_w]
                              rfl
                            refine pure_ (i := 2) (N := some 169) (v := ?_) (a' := ?_) #[true, true, true, false, false, false, false, false, false, false, false, false, false, false, false, false, false, false] rfl rfl (any_of HT_.out (by kernel_rfl)) (fun _ _ _ h => h) (Or.inl ⟨by rfl, ?_⟩) ?_ ?_
                            rotate_left
                            · intro w'
                              go_simp
                              with_reducible rfl
                            rotate_left
                            · simp only [Act.put, List.setIfInBounds_toArray, List.set_cons_zero, List.set_cons_succ, i64_w, i32_w]
                              rfl
                            refine pure_ (i := 3) (N := some 170) (v := ?_) (a' := ?_) #[true, true, true, true, false, false, false, false, false, false, false, false, false, false, false, false, false, false] rfl rfl (any_of HT_.out (by kernel_rfl)) (fun _ _ _ h => h) (Or.inl ⟨by rfl, ?_⟩) ?_ ?_
                            rotate_left
                            · intro w'
                              go_simp
                              with_reducible rfl
                            rotate_left
                            · simp only [Act.put, List.setIfInBounds_toArray, List.set_cons_zero, List.set_cons_succ, i64_w, i32_w]
                              rfl
                            refine pure_ (i := 5) (N := some 172) (v := ?_) (a' := ?_) #[true, true, true, true, false, true, false, false, false, false, false, false, false, false, false, false, false, false] rfl rfl (any_of HT_.out (by kernel_rfl)) (fun _ _ _ h => h) (Or.inl ⟨by rfl, ?_⟩) ?_ ?_
                            rotate_left
                            · intro w'
                              go_simp
                              with_reducible rfl
                            rotate_left
                            · simp only [Act.put, List.setIfInBounds_toArray, List.set_cons_zero, List.set_cons_succ, i64_w, i32_w]
                              rfl
                            refine pure_ (i := 6) (N := some 173) (v := ?_) (a' := ?_) #[true, true, true, true, false, true, true, false, false, false, false, false, false, false, false, false, false, false] rfl rfl (any_of HT_.out (by kernel_rfl)) (fun _ _ _ h => h) (Or.inl ⟨by rfl, ?_⟩) ?_ ?_
                            rotate_left
                            · intro w'
                              go_simp
                              with_reducible rfl
                            rotate_left
                            · simp only [Act.put, List.setIfInBounds_toArray, List.set_cons_zero, List.set_cons_succ, i64_w, i32_w]
                              rfl
                            refine pure_ (i := 7) (N := some 174) (v := ?_) (a' := ?_) #[true, true, true, true, false, true, true, true, false, false, false, false, false, false, false, false, false, false] rfl rfl (any_of HT_.out (by kernel_rfl)) (fun _ _ _ h => h) (Or.inl ⟨by rfl, ?_⟩) ?_ ?_
                            rotate_left
                            · intro w'
                              go_simp
                              with_reducible rfl
                            rotate_left
                            · simp only [Act.put, List.setIfInBounds_toArray, List.set_cons_zero, List.set_cons_succ, i64_w, i32_w]
                              rfl
                            refine take_ (i := 4) (N := some 171) (v := ?_) (a' := ?_) #[true, true, true, true, true, true, true, true, false, false, false, false, false, false, false, false, false, false] rfl rfl (take_ofW HT_.out HW_.out (by kernel_rfl)) (fun _ _ _ h => h) (Or.inl ⟨by rfl, ?_⟩) hHeld ?_ ?_
                            rotate_left
                            · rintro w' ⟨s0, s1⟩
                              go_simp
                              with_reducible rfl
                            rotate_left
                            · simp only [Act.put, List.setIfInBounds_toArray, List.set_cons_zero, List.set_cons_succ, i64_w, i32_w]
                              rfl
                            refine take_ (i := 8) (N := some 175) (v := ?_) (a' := ?_) #[true, true, true, true, true, true, true, true, true, false, false, false, false, false, false, false, false, false] rfl rfl (take_ofW HT_.out HW_.out (by kernel_rfl)) (fun _ _ _ h => h) (Or.inl ⟨by rfl, ?_⟩) hHeld ?_ ?_
                            rotate_left
                            · rintro w' ⟨s0, s1⟩
                              go_simp
                              with_reducible rfl
                            rotate_left
                            · simp only [Act.put, List.setIfInBounds_toArray, List.set_cons_zero, List.set_cons_succ, i64_w, i32_w]
                              rfl
                            refine pure_ (i := 9) (N := some 176) (v := ?_) (a' := ?_) #[true, true, true, true, true, true, true, true, true, true, false, false, false, false, false, false, false, false] rfl rfl (any_of HT_.out (by kernel_rfl)) (fun _ _ _ h => h) (Or.inl ⟨by rfl, ?_⟩) ?_ ?_
                            rotate_left
                            · intro w'
                              go_simp
                              with_reducible rfl
                            rotate_left
                            · simp only [Act.put, List.setIfInBounds_toArray, List.set_cons_zero, List.set_cons_succ, i64_w, i32_w]
                              rfl
                            refine pure_ (i := 10) (N := some 177) (v := ?_) (a' := ?_) #[true, true, true, true, true, true, true, true, true, true, true, false, false, false, false, false, false, false] rfl rfl (any_of HT_.out (by kernel_rfl)) (fun _ _ _ h => h) (Or.inl ⟨by rfl, ?_⟩) ?_ ?_
                            rotate_left
                            · intro w'
                              go_simp
                              with_reducible rfl
                            rotate_left
                            · simp only [Act.put, List.setIfInBounds_toArray, List.set_cons_zero, List.set_cons_succ, i64_w, i32_w]
                              rfl
                            refine pure_ (i := 11) (N := some 178) (v := ?_) (a' := ?_) #[true, true, true, true, true, true, true, true, true, true, true, true, false, false, false, false, false, false] rfl rfl (any_of HT_.out (by kernel_rfl)) (fun _ _ _ h => h) (Or.inl ⟨by rfl, ?_⟩) ?_ ?_
                            rotate_left
                            · intro w'
                              go_simp
                              with_reducible rfl
                            rotate_left
                            · simp only [Act.put, List.setIfInBounds_toArray, List.set_cons_zero, List.set_cons_succ, i64_w, i32_w]
                              rfl
                            refine one_ (i := 12) (N := some 179) #[true, true, true, true, true, true, true, true, true, true, true, true, true, false, false, false, false, false] rfl rfl (one_of HT_.out (by kernel_rfl)) (by decide) (fun K hK => ?_)
                            refine goes_ Tryd.func13 (by kernel_rfl) rfl #[.string t383, .int .i64 (wrap64 ((ji58) - 1))] (by rfl) rfl rfl (by (try simp only [List.map_toArray, List.map_cons, List.map_nil]); first | done | (simp only [hji58]; rfl) | rfl | (simp only [List.length_drop, List.length_take]; rfl)) ?_
                            with_reducible refine (impl_PlaceOf.calls k3 t383 (wrap64 ((ji58) - 1)) t423 t424 _ A59.out).mono ?_
                            rintro e w63 ⟨rfl, hb⟩
                            have HS0_ := (hb.cell (World.block_lt_of_cell? _ _ (hHeld.1))).trans (hHeld.1)
                            have HS1_ := (hb.cell (World.block_lt_of_cell? _ _ (hHeld.2))).trans (hHeld.2)
                            refine ⟨_, rfl, ?_⟩
                            have n0_ := Aside0.mk (Kd.R_below (by (with_reducible repeat (first | apply Kd.R_alloc | apply Kd.R_drewN | apply Kd.R_drew)); exact HO_4.out) hb)
                            have n1_ := Aside0.mk (below_step (by repeat (first | (with_reducible first | exact HB.out | apply below_alloc | apply pw_below_drewN | apply below_drew1) | exact HB.out)) hb)
                            clear HO_4
                            clear HB
                            have HO_4 := n0_
                            have HB := n1_
                            clear n0_ n1_
                            (try clear hb)
                            (try clear hb2)
                            (try clear hk)
                            (try clear hi)
                            refine hK.out _ _ ⟨HS0_, HS1_⟩ (fun hHeld => ?_)
                            clear hK K
                            refine norm_ (a' := ?_) ?_ ?_
                            rotate_left
                            · show Act.put _ (some 179) _ = _
                              simp only [Act.put, List.setIfInBounds_toArray, List.set_cons_zero, List.set_cons_succ, i64_w, i32_w]
                              rfl
                            refine pure_ (i := 13) (N := some 166) (v := ?_) (a' := ?_) #[true, true, true, true, true, true, true, true, true, true, true, true, true, true, false, false, false, false] rfl rfl (any_of HT_.out (by kernel_rfl)) (fun _ _ _ h => h) (Or.inl ⟨by rfl, ?_⟩) ?_ ?_
                            rotate_left
                            · intro w'
                              go_simp
                              with_reducible rfl
                            rotate_left
                            · simp only [Act.put, List.setIfInBounds_toArray, List.set_cons_zero, List.set_cons_succ, i64_w, i32_w]
                              rfl
                            refine pure_ (i := 14) (N := some 180) (v := ?_) (a' := ?_) #[true, true, true, true, true, true, true, true, true, true, true, true, true, true, true, false, false, false] rfl rfl (any_of HT_.out (by kernel_rfl)) (fun _ _ _ h => h) (Or.inl ⟨by rfl, ?_⟩) ?_ ?_
                            rotate_left
                            · intro w'
                              go_simp
                              with_reducible rfl
                            rotate_left
                            · simp only [Act.put, List.setIfInBounds_toArray, List.set_cons_zero, List.set_cons_succ, i64_w, i32_w]
                              rfl
                            refine pure_ (i := 15) (N := some 181) (v := ?_) (a' := ?_) #[true, true, true, true, true, true, true, true, true, true, true, true, true, true, true, true, false, false] rfl rfl (any_of HT_.out (by kernel_rfl)) (fun _ _ _ h => h) (Or.inl ⟨by rfl, ?_⟩) ?_ ?_
                            rotate_left
                            · intro w'
                              go_simp
                              with_reducible rfl
                            rotate_left
                            · simp only [Act.put, List.setIfInBounds_toArray, List.set_cons_zero, List.set_cons_succ, i64_w, i32_w]
                              rfl
                            refine pure_ (i := 16) (N := some 30) (v := ?_) (a' := ?_) #[true, true, true, true, true, true, true, true, true, true, true, true, true, true, true, true, true, false] rfl rfl (any_of HT_.out (by kernel_rfl)) (fun _ _ _ h => h) (Or.inl ⟨by rfl, ?_⟩) ?_ ?_
                            rotate_left
                            · intro w'
                              go_simp
                              with_reducible rfl
                            rotate_left
                            · simp only [Act.put, List.setIfInBounds_toArray, List.set_cons_zero, List.set_cons_succ, i64_w, i32_w]
                              rfl
                            refine pure_ (i := 17) (N := some 31) (v := ?_) (a' := ?_) #[true, true, true, true, true, true, true, true, true, true, true, true, true, true, true, true, true, true] rfl rfl (any_of HT_.out (by kernel_rfl)) (fun _ _ _ h => h) (Or.inl ⟨by rfl, ?_⟩) ?_ ?_
                            rotate_left
                            · intro w'
                              go_simp
                              with_reducible rfl
                            rotate_left
                            · simp only [Act.put, List.setIfInBounds_toArray, List.set_cons_zero, List.set_cons_succ, i64_w, i32_w]
                              rfl
                            refine done_ (done_of HT_.out (by kernel_rfl)) ?_
                            try go_wp2
                            go_roundg k3
                            case measure => have := HJ14.out; have := HJ43.out; have := HK3.out; omega
                            case rel => exact ⟨(wrap64 (x29_3 + 1)), (by first | rfl | (simp; done) | (simp [*]; done)), H', ⟨by have := HJ14.out; have := HJ43.out; have := HK3.out; omega⟩, ⟨by (with_reducible repeat (first | apply Kd.R_alloc | apply Kd.R_drewN | apply Kd.R_drew)); exact HO_4.out⟩, ⟨by repeat (first | (with_reducible first | exact HB.out | apply below_alloc | apply pw_below_drewN | apply below_drew1) | exact HB.out)⟩⟩
                          · rw [if_neg c61] at H
                            exact absurd H (by simp)
                        · rw [if_neg c60] at H
                          exact absurd H (by simp)
                      · rw [if_neg c57] at H
                        exact absurd H (by simp)
                    · rw [if_neg c56] at H
                      have c56b0 : decide (x29_3 < (t384.length : Int)) = false := decide_eq_false c56
                      clear c56
                      by_cases c64 : t420 = 0
                      · rw [if_pos c64] at H
                        have c64b0 : (t420 == 0) = true := beq_iff_eq.mpr c64
                        have c64b1 : (t420 != 0) = false := bne_eq_false_iff_eq.mpr c64
                        clear c64
                        by_cases c65 : t419.toList = t383.toList
                        · rw [if_pos c65] at H
                          have c65b0 : (t419.toList == t383.toList) = true := beq_iff_eq.mpr c65
                          have c65b1 : (t419.toList != t383.toList) = false := bne_eq_false_iff_eq.mpr c65
                          clear c65
                          by_cases c66 : (wrap64 (t405 + t406)) = (t384.length : Int)
                          · rw [if_pos c66] at H
                            have c66b0 : ((wrap64 (t405 + t406)) == (t384.length : Int)) = true := beq_iff_eq.mpr c66
                            have c66b1 : ((wrap64 (t405 + t406)) != (t384.length : Int)) = false := bne_eq_false_iff_eq.mpr c66
                            clear c66
                            by_cases c67 : t383.toList = ([] : List UInt8)
                            · rw [if_pos c67] at H
                              have c67b0 : (t383.toList == ([] : List UInt8)) = true := beq_iff_eq.mpr c67
                              have c67b1 : (t383.toList != ([] : List UInt8)) = false := bne_eq_false_iff_eq.mpr c67
                              clear c67
                              obtain rfl := Option.some.inj H
                              go_wp2
                              go_ret
                              exact ⟨by first | rfl | (simp only [Go.IntWalk.i64_left]; first | done | rfl) | (simp [errW_none, errW_some] <;> rfl) | (simp [*, errW_none, errW_some] <;> rfl), by repeat (first | (with_reducible first | exact HB.out | apply below_alloc | apply pw_below_drewN | apply below_drew1) | exact HB.out)⟩
                            · rw [if_neg c67] at H
                              have c67b0 : (t383.toList == ([] : List UInt8)) = false := beq_eq_false_iff_ne.mpr c67
                              have c67b1 : (t383.toList != ([] : List UInt8)) = true := bne_iff_ne.mpr c67
                              obtain rfl := Option.some.inj H
                              go_wp2
                              go_ret
                              exact ⟨by first | rfl | (simp only [Go.IntWalk.i64_left]; first | done | rfl) | (simp [errW_none, errW_some] <;> rfl) | (simp [*, errW_none, errW_some] <;> rfl), by repeat (first | (with_reducible first | exact HB.out | apply below_alloc | apply pw_below_drewN | apply below_drew1) | exact HB.out)⟩
                          · rw [if_neg c66] at H
                            exact absurd H (by simp)
                        · rw [if_neg c65] at H
                          exact absurd H (by simp)
                      · rw [if_neg c64] at H
                        exact absurd H (by simp)
              · rw [if_neg c52] at H
                have c52b0 : (t385 == 0) = false := beq_eq_false_iff_ne.mpr c52
                have c52b1 : (t385 != 0) = true := bne_iff_ne.mpr c52
                obtain rfl := Option.some.inj H
                go_wp2
                go_ret
                exact ⟨by first | rfl | (simp only [Go.IntWalk.i64_left]; first | done | rfl) | (simp [errW_none, errW_some] <;> rfl) | (simp [*, errW_none, errW_some] <;> rfl), by repeat (first | (with_reducible first | exact HB.out | apply below_alloc | apply pw_below_drewN | apply below_drew1) | exact HB.out)⟩

/-- THE ONE PURE STATEMENT of laws_FnStrips: yours. -/
def laws_FnStrips.Pure : Prop := ∀ (l0 : List Int), l0.length ≤ maxLen → l0.length * 1 ≤ 140737488351232 → (∀ x ∈ l0, (Lit.int .u8 x).wf = true) → ∃ k, laws_FnStrips.f k l0 = some true
theorem laws_FnStrips.walk (P : laws_FnStrips.Pure) (a0 : Option Addr) (len0 cap0 : Nat) (z0 : List Int) (w : World) (w0 : (a0 = none ∧ len0 = 0 ∧ cap0 = 0 ∧ z0 = []) ∨ ∃ x, a0 = some x ∧ len0 ≤ cap0 ∧ cap0 ≤ maxLen ∧ z0.length = cap0 ∧ (∀ i, i < z0.length → w.cell? (x.add i) = some (.int .u8 (z0.getD i 0))) ∧ ∀ n ∈ z0, (Lit.int .u8 n).wf = true) (y0 : len0 * 1 ≤ 140737488351232) :
    Calls Tryd.prog 3 #[.slice a0 len0 cap0] w fun e w' => e = .returned (.bool true) ∧ Below w.heap.size w w' := by
  obtain ⟨l0, rfl, hr0, hm0, hw0, hc0⟩ := ReadsInt.ofRowC w0
  obtain ⟨k, h⟩ := P l0 hm0 y0 hw0
  refine (laws_FnStrips.calls k _ _ l0 true w (Kd.C_of_reads (d := (0 : Int)) (h1 := fun _ => rfl) hr0) hc0 h).mono ?_
  rintro e w' ⟨rfl, hd⟩
  exact ⟨rfl, hd⟩

end Go.Proofs.YtdpmpoakjhhaaaaDoor.QFnStrips
