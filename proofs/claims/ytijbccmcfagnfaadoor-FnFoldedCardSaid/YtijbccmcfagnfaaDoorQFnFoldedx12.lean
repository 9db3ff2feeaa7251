-- Written by own_print.py of this session's repo over the kit's print (its output, turned at some places).
import Derived.Test.YtijbccmcfagnfaaDoorQFnFoldedx0
import Derived.Test.YtijbccmcfagnfaaDoorQFnFoldedx2
import Derived.Test.YtijbccmcfagnfaaDoorQFnFoldedx6
import Derived.Test.YtijbccmcfagnfaaDoorQFnFoldedx8
import Derived.Test.YtijbccmcfagnfaaDoorQFnFoldedx9
import Derived.Test.YtijbccmcfagnfaaDoorQFnFoldedx10
import Derived.Test.YtijbccmcfagnfaaDoorQFnFoldedx11
namespace Go.Proofs.YtijbccmcfagnfaaDoor.QFnFolded
open Go.RowKit Go.Proofs.YtijbccmcfagnfaaDoorW.PrintWords Go.Proofs.YtijbccmcfagnfaaDoorW.PrintLast Go.Proofs.YtijbccmcfagnfaaDoorW.PrintMore
attribute [local go_sem] max2_int min2_int max_two min_two max_three min_three max_four min_four   -- for this text's walks alone
set_option linter.unusedVariables false
set_option linter.unusedSimpArgs false

/-! ### laws_FnFolded: function 7 -/
mutual
def laws_FnFolded.j0 : Nat → Int → Int → ByteArray → List (S39) → Int → Int → Bool → Option (Bool)
 | 0, _, _, _, _, _, _, _ => none
 | k + 1, x3, x4, x5, x6, x7, x19, x127 => if x127 = true then (none) else (if x7 = 0 then (laws_FnFolded.l0 k x3 x4 x5 x6 x19 0) else (some true))
def laws_FnFolded.l0 : Nat → Int → Int → ByteArray → List (S39) → Int → Int → Option (Bool)
 | 0, _, _, _, _, _, _ => none
 | k + 1, x3, x4, x5, x6, x19, x23 => if x23 < (x6.length : Int) then (if 0 ≤ x23 then ((impl_LeafOf.f k x3 x4 x5 ((rd_T39 x6 x23).f0) ((rd_T39 x6 x23).f1)).bind fun bt405 => (if bt405.2 = 0 then (if bt405.1 = x23 then (laws_FnFolded.l0 k x3 x4 x5 x6 x19 (wrap64 (x23 + 1))) else (none)) else (none))) else (none)) else (if (x6.length : Int) = (wrap64 (x3 * x4)) then (if x5.toList = ([] : List UInt8) then (some true) else (some ((wrap64 (2 * x19)) == (wrap64 (x3 * x4))))) else (none))
end
def laws_FnFolded.f (k : Nat) (l0 : List Int) : Option (Bool) := (laws_big.f l0).bind fun t375 => (if t375 = true then (some true) else ((spec_DrawFoldSheet.f k l0).bind fun bt376 => ((impl_FoldSheet.f k bt376.1 bt376.2.1 bt376.2.2).bind fun bt379 => ((spec_FoldSheet.f k bt376.1 bt376.2.1 bt376.2.2).bind fun bt383 => ((spec_DrawLeafOf.f k l0).bind fun bt387 => ((impl_LeafOf.f k bt387.1 bt387.2.1 bt387.2.2.1 bt387.2.2.2.1 bt387.2.2.2.2).bind fun bt392 => ((spec_LeafOf.f k bt387.1 bt387.2.1 bt387.2.2.1 bt387.2.2.2.1 bt387.2.2.2.2).bind fun bt394 => ((impl_FacesDown.f k bt376.1 bt376.2.1 bt376.2.2).bind fun bt396 => ((spec_FacesDown.f k bt376.1 bt376.2.1 bt376.2.2).bind fun bt398 => (if bt379.2 = bt383.2 then ((laws_likeLeaves9.f k bt379.1 bt383.1).bind fun t400 => (if t400 = true then (if bt392.2 = bt394.2 then (if bt392.1 = bt394.1 then (if bt396.2 = bt398.2 then (if bt396.1 = bt398.1 then ((impl_IsScheme.f k bt376.1 bt376.2.1 bt376.2.2).bind fun t401 => ((spec_IsScheme.f k bt376.1 bt376.2.1 bt376.2.2).bind fun t402 => (laws_FnFolded.j0 k bt376.1 bt376.2.1 bt376.2.2 bt379.1 bt379.2 bt396.1 (t401 != t402)))) else (none)) else (none)) else (none)) else (none)) else (none))) else (none)))))))))))
theorem laws_FnFolded.mono_l : ∀ k, (∀ y0 y1 y2 y3 y4 y5 y6, LeO (laws_FnFolded.j0 k y0 y1 y2 y3 y4 y5 y6) (laws_FnFolded.j0 (k + 1) y0 y1 y2 y3 y4 y5 y6)) ∧ (∀ y0 y1 y2 y3 y4 y5, LeO (laws_FnFolded.l0 k y0 y1 y2 y3 y4 y5) (laws_FnFolded.l0 (k + 1) y0 y1 y2 y3 y4 y5))
 | 0 => ⟨fun _ _ _ _ _ _ _ r h => by simp [laws_FnFolded.j0] at h, fun _ _ _ _ _ _ r h => by simp [laws_FnFolded.l0] at h⟩
 | k + 1 => by
  obtain ⟨ih0, ih1⟩ := laws_FnFolded.mono_l k
  refine ⟨?_, ?_⟩
  ·intro y0 y1 y2 y3 y4 y5 y6
   unfold laws_FnFolded.j0
   repeat' first
   | (with_reducible exact ih0 _ _ _ _ _ _ _)
   | (with_reducible exact ih1 _ _ _ _ _ _)
   | (with_reducible exact impl_FacesDown.mono _ _ _ _)
   | (with_reducible exact impl_FoldSheet.mono _ _ _ _)
   | (with_reducible exact impl_IsScheme.mono _ _ _ _)
   | (with_reducible exact impl_LeafOf.mono _ _ _ _ _ _)
   | (with_reducible exact laws_likeLeaves9.mono _ _ _)
   | (with_reducible exact spec_DrawFoldSheet.mono _ _)
   | (with_reducible exact spec_DrawLeafOf.mono _ _)
   | (with_reducible exact spec_FacesDown.mono _ _ _ _)
   | (with_reducible exact spec_FoldSheet.mono _ _ _ _)
   | (with_reducible exact spec_IsScheme.mono _ _ _ _)
   | (with_reducible exact spec_LeafOf.mono _ _ _ _ _ _)
   | (with_reducible exact LeO.refl _)
   | (with_reducible exact LeO.none _)
   | (with_reducible refine LeO.ite ?_ ?_)
   | (with_reducible refine LeO.bind ?_ (fun _ => ?_))
   | exact ih0 _ _ _ _ _ _ _
   | exact ih1 _ _ _ _ _ _
   | exact impl_FacesDown.mono _ _ _ _
   | exact impl_FoldSheet.mono _ _ _ _
   | exact impl_IsScheme.mono _ _ _ _
   | exact impl_LeafOf.mono _ _ _ _ _ _
   | exact laws_likeLeaves9.mono _ _ _
   | exact spec_DrawFoldSheet.mono _ _
   | exact spec_DrawLeafOf.mono _ _
   | exact spec_FacesDown.mono _ _ _ _
   | exact spec_FoldSheet.mono _ _ _ _
   | exact spec_IsScheme.mono _ _ _ _
   | exact spec_LeafOf.mono _ _ _ _ _ _
   | exact LeO.none _
   | refine LeO.ite ?_ ?_
   | refine LeO.bind ?_ (fun _ => ?_)
  ·intro y0 y1 y2 y3 y4 y5
   unfold laws_FnFolded.l0
   repeat' first
   | (with_reducible exact ih0 _ _ _ _ _ _ _)
   | (with_reducible exact ih1 _ _ _ _ _ _)
   | (with_reducible exact impl_FacesDown.mono _ _ _ _)
   | (with_reducible exact impl_FoldSheet.mono _ _ _ _)
   | (with_reducible exact impl_IsScheme.mono _ _ _ _)
   | (with_reducible exact impl_LeafOf.mono _ _ _ _ _ _)
   | (with_reducible exact laws_likeLeaves9.mono _ _ _)
   | (with_reducible exact spec_DrawFoldSheet.mono _ _)
   | (with_reducible exact spec_DrawLeafOf.mono _ _)
   | (with_reducible exact spec_FacesDown.mono _ _ _ _)
   | (with_reducible exact spec_FoldSheet.mono _ _ _ _)
   | (with_reducible exact spec_IsScheme.mono _ _ _ _)
   | (with_reducible exact spec_LeafOf.mono _ _ _ _ _ _)
   | (with_reducible exact LeO.refl _)
   | (with_reducible exact LeO.none _)
   | (with_reducible refine LeO.ite ?_ ?_)
   | (with_reducible refine LeO.bind ?_ (fun _ => ?_))
   | exact ih0 _ _ _ _ _ _ _
   | exact ih1 _ _ _ _ _ _
   | exact impl_FacesDown.mono _ _ _ _
   | exact impl_FoldSheet.mono _ _ _ _
   | exact impl_IsScheme.mono _ _ _ _
   | exact impl_LeafOf.mono _ _ _ _ _ _
   | exact laws_likeLeaves9.mono _ _ _
   | exact spec_DrawFoldSheet.mono _ _
   | exact spec_DrawLeafOf.mono _ _
   | exact spec_FacesDown.mono _ _ _ _
   | exact spec_FoldSheet.mono _ _ _ _
   | exact spec_IsScheme.mono _ _ _ _
   | exact spec_LeafOf.mono _ _ _ _ _ _
   | exact LeO.none _
   | refine LeO.ite ?_ ?_
   | refine LeO.bind ?_ (fun _ => ?_)
theorem laws_FnFolded.mono : ∀ a0 k, LeO (laws_FnFolded.f k a0) (laws_FnFolded.f (k + 1) a0) := by
 intro a0 k
 obtain ⟨ih0, ih1⟩ := laws_FnFolded.mono_l k
 unfold laws_FnFolded.f
 repeat' first
   | (with_reducible exact ih0 _ _ _ _ _ _ _)
   | (with_reducible exact ih1 _ _ _ _ _ _)
   | (with_reducible exact impl_FacesDown.mono _ _ _ _)
   | (with_reducible exact impl_FoldSheet.mono _ _ _ _)
   | (with_reducible exact impl_IsScheme.mono _ _ _ _)
   | (with_reducible exact impl_LeafOf.mono _ _ _ _ _ _)
   | (with_reducible exact laws_likeLeaves9.mono _ _ _)
   | (with_reducible exact spec_DrawFoldSheet.mono _ _)
   | (with_reducible exact spec_DrawLeafOf.mono _ _)
   | (with_reducible exact spec_FacesDown.mono _ _ _ _)
   | (with_reducible exact spec_FoldSheet.mono _ _ _ _)
   | (with_reducible exact spec_IsScheme.mono _ _ _ _)
   | (with_reducible exact spec_LeafOf.mono _ _ _ _ _ _)
   | (with_reducible exact LeO.refl _)
   | (with_reducible exact LeO.none _)
   | (with_reducible refine LeO.ite ?_ ?_)
   | (with_reducible refine LeO.bind ?_ (fun _ => ?_))
   | exact ih0 _ _ _ _ _ _ _
   | exact ih1 _ _ _ _ _ _
   | exact impl_FacesDown.mono _ _ _ _
   | exact impl_FoldSheet.mono _ _ _ _
   | exact impl_IsScheme.mono _ _ _ _
   | exact impl_LeafOf.mono _ _ _ _ _ _
   | exact laws_likeLeaves9.mono _ _ _
   | exact spec_DrawFoldSheet.mono _ _
   | exact spec_DrawLeafOf.mono _ _
   | exact spec_FacesDown.mono _ _ _ _
   | exact spec_FoldSheet.mono _ _ _ _
   | exact spec_IsScheme.mono _ _ _ _
   | exact spec_LeafOf.mono _ _ _ _ _ _
   | exact LeO.none _
   | refine LeO.ite ?_ ?_
   | refine LeO.bind ?_ (fun _ => ?_)
def laws_FnFolded.T18 : Bool × List (List Nat × List Nat) := (true, [([], []), ([], []), ([], []), ([], []), ([], []), ([3, 4], [3, 4]), ([5], [5]), ([6], [6]), ([], []), ([], []), ([8, 9], [8, 9]), ([10], [10]), ([11], [11]), ([0, 1, 2, 7, 12], [0, 1, 2, 7, 12]), ([13], [13]), ([14], [14]), ([14], [14]), ([15, 13, 0, 1, 2, 3, 4, 5, 6, 7, 8, 9, 10, 11, 12, 13, 14, 15], [15]), ([16, 17, 0, 1, 2, 3, 4, 5, 6, 7, 8, 9, 10, 11, 12, 13, 14, 15, 16, 17], [16])])
def laws_FnFolded.B18 : List Nat := [0, 0, 0, 0, 0, 24, 56, 120, 0, 0, 768, 1792, 3840, 8191, 16383, 32767, 32767, 65535, 262143]
theorem laws_FnFolded.tab18 : rtab .any (opsOf Tryd.f7 18) = laws_FnFolded.T18 := by kernel_rfl
theorem laws_FnFolded.bits18 : waitsOk laws_FnFolded.T18.2 laws_FnFolded.B18 = true := by kernel_rfl
set_option maxHeartbeats 8000000 in
set_option maxRecDepth 100000 in
theorem laws_FnFolded.calls (k : Nat) (A0 : Option Addr) (c0 : Nat) (l0 : List Int) (r : Bool) (w : World) (hr0 : Kd.C (Kd.int .u8) w A0 l0.length l0) (hc0 : l0.length ≤ c0) (h : laws_FnFolded.f k l0 = some r) :
  Calls Tryd.prog 7 #[.slice A0 l0.length c0] w fun e w' => e = .returned (.bool r) ∧ Below w.heap.size w w' := by
 have HR0 := Aside0.mk hr0
 have HC0 := Aside0.mk hc0
 clear hr0 hc0
 have HB := Aside0.mk (Below.refl w.heap.size w)
 have H : ((laws_big.f l0).bind fun t375 => (if t375 = true then (some true) else ((spec_DrawFoldSheet.f k l0).bind fun bt376 => ((impl_FoldSheet.f k bt376.1 bt376.2.1 bt376.2.2).bind fun bt379 => ((spec_FoldSheet.f k bt376.1 bt376.2.1 bt376.2.2).bind fun bt383 => ((spec_DrawLeafOf.f k l0).bind fun bt387 => ((impl_LeafOf.f k bt387.1 bt387.2.1 bt387.2.2.1 bt387.2.2.2.1 bt387.2.2.2.2).bind fun bt392 => ((spec_LeafOf.f k bt387.1 bt387.2.1 bt387.2.2.1 bt387.2.2.2.1 bt387.2.2.2.2).bind fun bt394 => ((impl_FacesDown.f k bt376.1 bt376.2.1 bt376.2.2).bind fun bt396 => ((spec_FacesDown.f k bt376.1 bt376.2.1 bt376.2.2).bind fun bt398 => (if bt379.2 = bt383.2 then ((laws_likeLeaves9.f k bt379.1 bt383.1).bind fun t400 => (if t400 = true then (if bt392.2 = bt394.2 then (if bt392.1 = bt394.1 then (if bt396.2 = bt398.2 then (if bt396.1 = bt398.1 then ((impl_IsScheme.f k bt376.1 bt376.2.1 bt376.2.2).bind fun t401 => ((spec_IsScheme.f k bt376.1 bt376.2.1 bt376.2.2).bind fun t402 => (laws_FnFolded.j0 k bt376.1 bt376.2.1 bt376.2.2 bt379.1 bt379.2 bt396.1 (t401 != t402)))) else (none)) else (none)) else (none)) else (none)) else (none))) else (none)))))))))))) = some r := h
 clear h
 replace H := Option.bind_eq_some_iff.mp H
 obtain ⟨t375, A20, H⟩ := H
 replace H : (if t375 = true then (some true) else ((spec_DrawFoldSheet.f k l0).bind fun bt376 => ((impl_FoldSheet.f k bt376.1 bt376.2.1 bt376.2.2).bind fun bt379 => ((spec_FoldSheet.f k bt376.1 bt376.2.1 bt376.2.2).bind fun bt383 => ((spec_DrawLeafOf.f k l0).bind fun bt387 => ((impl_LeafOf.f k bt387.1 bt387.2.1 bt387.2.2.1 bt387.2.2.2.1 bt387.2.2.2.2).bind fun bt392 => ((spec_LeafOf.f k bt387.1 bt387.2.1 bt387.2.2.1 bt387.2.2.2.1 bt387.2.2.2.2).bind fun bt394 => ((impl_FacesDown.f k bt376.1 bt376.2.1 bt376.2.2).bind fun bt396 => ((spec_FacesDown.f k bt376.1 bt376.2.1 bt376.2.2).bind fun bt398 => (if bt379.2 = bt383.2 then ((laws_likeLeaves9.f k bt379.1 bt383.1).bind fun t400 => (if t400 = true then (if bt392.2 = bt394.2 then (if bt392.1 = bt394.1 then (if bt396.2 = bt398.2 then (if bt396.1 = bt398.1 then ((impl_IsScheme.f k bt376.1 bt376.2.1 bt376.2.2).bind fun t401 => ((spec_IsScheme.f k bt376.1 bt376.2.1 bt376.2.2).bind fun t402 => (laws_FnFolded.j0 k bt376.1 bt376.2.1 bt376.2.2 bt379.1 bt379.2 bt396.1 (t401 != t402)))) else (none)) else (none)) else (none)) else (none)) else (none))) else (none))))))))))) = some r := H
 have A2 := Aside0.mk A20
 clear A20
 by_cases c3 : t375 = true
 ·subst c3
  have H1 : (some true) = some r := by rw [if_pos rfl] at H; exact H
  clear H
  have H := H1
  clear H1
  obtain rfl := Option.some.inj H
  go_enter Tryd.func7, Tryd.ntmps7
  go_wp2_with (first | ((with_reducible refine gate_callee (f := 21) rfl ?_); refine goesL_ (some 27) rfl rfl Tryd.func21 (by kernel_rfl) rfl #[.slice A0 l0.length c0] rfl (by (try simp only [List.map_toArray, List.map_cons, List.map_nil]); first | done | rfl | (simp only [List.length_drop, List.length_take]; rfl)) ?_; (with_reducible refine (laws_big.calls _ _ l0 true _ ?side1 ?side2 A2.out).mono ?_); (case side1 => repeat (first | exact HR0.out | (with_reducible refine Kd.C_alloc ?_ _) | (with_reducible refine Kd.C_drewN ?_ _) | (with_reducible refine Kd.C_drew ?_))); (case side2 => exact HC0.out); rintro e w' ⟨rfl, ⟨nd, rfl⟩⟩; refine ⟨_, rfl, ?_⟩))
  go_ret
  exact ⟨by first | rfl | (simp only [Go.IntWalk.i64_left]; first | done | rfl) | (simp [errW_none, errW_some] <;> rfl) | (simp [*, errW_none, errW_some] <;> rfl), by repeat (first | (with_reducible first | exact HB.out | apply below_alloc | apply pw_below_drewN | apply below_drew1) | exact HB.out)⟩
 ·replace c3 := Bool.eq_false_iff.mpr c3
  subst c3
  have H1 : ((spec_DrawFoldSheet.f k l0).bind fun bt376 => ((impl_FoldSheet.f k bt376.1 bt376.2.1 bt376.2.2).bind fun bt379 => ((spec_FoldSheet.f k bt376.1 bt376.2.1 bt376.2.2).bind fun bt383 => ((spec_DrawLeafOf.f k l0).bind fun bt387 => ((impl_LeafOf.f k bt387.1 bt387.2.1 bt387.2.2.1 bt387.2.2.2.1 bt387.2.2.2.2).bind fun bt392 => ((spec_LeafOf.f k bt387.1 bt387.2.1 bt387.2.2.1 bt387.2.2.2.1 bt387.2.2.2.2).bind fun bt394 => ((impl_FacesDown.f k bt376.1 bt376.2.1 bt376.2.2).bind fun bt396 => ((spec_FacesDown.f k bt376.1 bt376.2.1 bt376.2.2).bind fun bt398 => (if bt379.2 = bt383.2 then ((laws_likeLeaves9.f k bt379.1 bt383.1).bind fun t400 => (if t400 = true then (if bt392.2 = bt394.2 then (if bt392.1 = bt394.1 then (if bt396.2 = bt398.2 then (if bt396.1 = bt398.1 then ((impl_IsScheme.f k bt376.1 bt376.2.1 bt376.2.2).bind fun t401 => ((spec_IsScheme.f k bt376.1 bt376.2.1 bt376.2.2).bind fun t402 => (laws_FnFolded.j0 k bt376.1 bt376.2.1 bt376.2.2 bt379.1 bt379.2 bt396.1 (t401 != t402)))) else (none)) else (none)) else (none)) else (none)) else (none))) else (none)))))))))) = some r := by rw [if_neg (show ¬ (false = true) by decide)] at H; exact H
  clear H
  have H := H1
  clear H1
  replace H := Option.bind_eq_some_iff.mp H
  obtain ⟨⟨t376, t377, t378⟩, A40, H⟩ := H
  replace H : ((impl_FoldSheet.f k t376 t377 t378).bind fun bt379 => ((spec_FoldSheet.f k t376 t377 t378).bind fun bt383 => ((spec_DrawLeafOf.f k l0).bind fun bt387 => ((impl_LeafOf.f k bt387.1 bt387.2.1 bt387.2.2.1 bt387.2.2.2.1 bt387.2.2.2.2).bind fun bt392 => ((spec_LeafOf.f k bt387.1 bt387.2.1 bt387.2.2.1 bt387.2.2.2.1 bt387.2.2.2.2).bind fun bt394 => ((impl_FacesDown.f k t376 t377 t378).bind fun bt396 => ((spec_FacesDown.f k t376 t377 t378).bind fun bt398 => (if bt379.2 = bt383.2 then ((laws_likeLeaves9.f k bt379.1 bt383.1).bind fun t400 => (if t400 = true then (if bt392.2 = bt394.2 then (if bt392.1 = bt394.1 then (if bt396.2 = bt398.2 then (if bt396.1 = bt398.1 then ((impl_IsScheme.f k t376 t377 t378).bind fun t401 => ((spec_IsScheme.f k t376 t377 t378).bind fun t402 => (laws_FnFolded.j0 k t376 t377 t378 bt379.1 bt379.2 bt396.1 (t401 != t402)))) else (none)) else (none)) else (none)) else (none)) else (none))) else (none))))))))) = some r := H
  have A4 := Aside0.mk A40
  clear A40
  replace H := Option.bind_eq_some_iff.mp H
  obtain ⟨⟨t379, t380⟩, A50, H⟩ := H
  replace H : ((spec_FoldSheet.f k t376 t377 t378).bind fun bt383 => ((spec_DrawLeafOf.f k l0).bind fun bt387 => ((impl_LeafOf.f k bt387.1 bt387.2.1 bt387.2.2.1 bt387.2.2.2.1 bt387.2.2.2.2).bind fun bt392 => ((spec_LeafOf.f k bt387.1 bt387.2.1 bt387.2.2.1 bt387.2.2.2.1 bt387.2.2.2.2).bind fun bt394 => ((impl_FacesDown.f k t376 t377 t378).bind fun bt396 => ((spec_FacesDown.f k t376 t377 t378).bind fun bt398 => (if t380 = bt383.2 then ((laws_likeLeaves9.f k t379 bt383.1).bind fun t400 => (if t400 = true then (if bt392.2 = bt394.2 then (if bt392.1 = bt394.1 then (if bt396.2 = bt398.2 then (if bt396.1 = bt398.1 then ((impl_IsScheme.f k t376 t377 t378).bind fun t401 => ((spec_IsScheme.f k t376 t377 t378).bind fun t402 => (laws_FnFolded.j0 k t376 t377 t378 t379 t380 bt396.1 (t401 != t402)))) else (none)) else (none)) else (none)) else (none)) else (none))) else (none)))))))) = some r := H
  have A5 := Aside0.mk A50
  clear A50
  replace H := Option.bind_eq_some_iff.mp H
  obtain ⟨⟨t383, t384⟩, A60, H⟩ := H
  replace H : ((spec_DrawLeafOf.f k l0).bind fun bt387 => ((impl_LeafOf.f k bt387.1 bt387.2.1 bt387.2.2.1 bt387.2.2.2.1 bt387.2.2.2.2).bind fun bt392 => ((spec_LeafOf.f k bt387.1 bt387.2.1 bt387.2.2.1 bt387.2.2.2.1 bt387.2.2.2.2).bind fun bt394 => ((impl_FacesDown.f k t376 t377 t378).bind fun bt396 => ((spec_FacesDown.f k t376 t377 t378).bind fun bt398 => (if t380 = t384 then ((laws_likeLeaves9.f k t379 t383).bind fun t400 => (if t400 = true then (if bt392.2 = bt394.2 then (if bt392.1 = bt394.1 then (if bt396.2 = bt398.2 then (if bt396.1 = bt398.1 then ((impl_IsScheme.f k t376 t377 t378).bind fun t401 => ((spec_IsScheme.f k t376 t377 t378).bind fun t402 => (laws_FnFolded.j0 k t376 t377 t378 t379 t380 bt396.1 (t401 != t402)))) else (none)) else (none)) else (none)) else (none)) else (none))) else (none))))))) = some r := H
  have A6 := Aside0.mk A60
  clear A60
  replace H := Option.bind_eq_some_iff.mp H
  obtain ⟨⟨t387, t388, t389, t390, t391⟩, A70, H⟩ := H
  replace H : ((impl_LeafOf.f k t387 t388 t389 t390 t391).bind fun bt392 => ((spec_LeafOf.f k t387 t388 t389 t390 t391).bind fun bt394 => ((impl_FacesDown.f k t376 t377 t378).bind fun bt396 => ((spec_FacesDown.f k t376 t377 t378).bind fun bt398 => (if t380 = t384 then ((laws_likeLeaves9.f k t379 t383).bind fun t400 => (if t400 = true then (if bt392.2 = bt394.2 then (if bt392.1 = bt394.1 then (if bt396.2 = bt398.2 then (if bt396.1 = bt398.1 then ((impl_IsScheme.f k t376 t377 t378).bind fun t401 => ((spec_IsScheme.f k t376 t377 t378).bind fun t402 => (laws_FnFolded.j0 k t376 t377 t378 t379 t380 bt396.1 (t401 != t402)))) else (none)) else (none)) else (none)) else (none)) else (none))) else (none)))))) = some r := H
  have A7 := Aside0.mk A70
  clear A70
  replace H := Option.bind_eq_some_iff.mp H
  obtain ⟨⟨t392, t393⟩, A80, H⟩ := H
  replace H : ((spec_LeafOf.f k t387 t388 t389 t390 t391).bind fun bt394 => ((impl_FacesDown.f k t376 t377 t378).bind fun bt396 => ((spec_FacesDown.f k t376 t377 t378).bind fun bt398 => (if t380 = t384 then ((laws_likeLeaves9.f k t379 t383).bind fun t400 => (if t400 = true then (if t393 = bt394.2 then (if t392 = bt394.1 then (if bt396.2 = bt398.2 then (if bt396.1 = bt398.1 then ((impl_IsScheme.f k t376 t377 t378).bind fun t401 => ((spec_IsScheme.f k t376 t377 t378).bind fun t402 => (laws_FnFolded.j0 k t376 t377 t378 t379 t380 bt396.1 (t401 != t402)))) else (none)) else (none)) else (none)) else (none)) else (none))) else (none))))) = some r := H
  have A8 := Aside0.mk A80
  clear A80
  replace H := Option.bind_eq_some_iff.mp H
  obtain ⟨⟨t394, t395⟩, A90, H⟩ := H
  replace H : ((impl_FacesDown.f k t376 t377 t378).bind fun bt396 => ((spec_FacesDown.f k t376 t377 t378).bind fun bt398 => (if t380 = t384 then ((laws_likeLeaves9.f k t379 t383).bind fun t400 => (if t400 = true then (if t393 = t395 then (if t392 = t394 then (if bt396.2 = bt398.2 then (if bt396.1 = bt398.1 then ((impl_IsScheme.f k t376 t377 t378).bind fun t401 => ((spec_IsScheme.f k t376 t377 t378).bind fun t402 => (laws_FnFolded.j0 k t376 t377 t378 t379 t380 bt396.1 (t401 != t402)))) else (none)) else (none)) else (none)) else (none)) else (none))) else (none)))) = some r := H
  have A9 := Aside0.mk A90
  clear A90
  replace H := Option.bind_eq_some_iff.mp H
  obtain ⟨⟨t396, t397⟩, A100, H⟩ := H
  replace H : ((spec_FacesDown.f k t376 t377 t378).bind fun bt398 => (if t380 = t384 then ((laws_likeLeaves9.f k t379 t383).bind fun t400 => (if t400 = true then (if t393 = t395 then (if t392 = t394 then (if t397 = bt398.2 then (if t396 = bt398.1 then ((impl_IsScheme.f k t376 t377 t378).bind fun t401 => ((spec_IsScheme.f k t376 t377 t378).bind fun t402 => (laws_FnFolded.j0 k t376 t377 t378 t379 t380 t396 (t401 != t402)))) else (none)) else (none)) else (none)) else (none)) else (none))) else (none))) = some r := H
  have A10 := Aside0.mk A100
  clear A100
  replace H := Option.bind_eq_some_iff.mp H
  obtain ⟨⟨t398, t399⟩, A110, H⟩ := H
  replace H : (if t380 = t384 then ((laws_likeLeaves9.f k t379 t383).bind fun t400 => (if t400 = true then (if t393 = t395 then (if t392 = t394 then (if t397 = t399 then (if t396 = t398 then ((impl_IsScheme.f k t376 t377 t378).bind fun t401 => ((spec_IsScheme.f k t376 t377 t378).bind fun t402 => (laws_FnFolded.j0 k t376 t377 t378 t379 t380 t396 (t401 != t402)))) else (none)) else (none)) else (none)) else (none)) else (none))) else (none)) = some r := H
  have A11 := Aside0.mk A110
  clear A110
  have HC12 := Aside0.mk H
  clear H
  go_enter Tryd.func7, Tryd.ntmps7
  go_upto_region 11 with (first | ((with_reducible refine gate_callee (f := 21) rfl ?_); refine goesL_ (some 27) rfl rfl Tryd.func21 (by kernel_rfl) rfl #[.slice A0 l0.length c0] rfl (by (try simp only [List.map_toArray, List.map_cons, List.map_nil]); first | done | rfl | (simp only [List.length_drop, List.length_take]; rfl)) ?_; (with_reducible refine (laws_big.calls _ _ l0 false _ ?side1 ?side2 A2.out).mono ?_); (case side1 => repeat (first | exact HR0.out | (with_reducible refine Kd.C_alloc ?_ _) | (with_reducible refine Kd.C_drewN ?_ _) | (with_reducible refine Kd.C_drew ?_))); (case side2 => exact HC0.out); rintro e w' ⟨rfl, ⟨nd, rfl⟩⟩; refine ⟨_, rfl, ?_⟩) | ((with_reducible refine gate_callee (f := 22) rfl ?_); refine goesL_ (some 30) rfl rfl Tryd.func22 (by kernel_rfl) rfl #[.slice A0 l0.length c0] rfl (by (try simp only [List.map_toArray, List.map_cons, List.map_nil]); first | done | rfl | (simp only [List.length_drop, List.length_take]; rfl)) ?_; (with_reducible refine (spec_DrawFoldSheet.calls k _ _ l0 t376 t377 t378 _ ?side1 ?side2 A4.out).mono ?_); (case side1 => repeat (first | exact HR0.out | (with_reducible refine Kd.C_alloc ?_ _) | (with_reducible refine Kd.C_drewN ?_ _) | (with_reducible refine Kd.C_drew ?_))); (case side2 => exact HC0.out); rintro e w13 ⟨rfl, hb⟩; refine ⟨_, rfl, ?_⟩; have n0_ := Aside0.mk (below_step (by repeat (first | (with_reducible first | exact HB.out | apply below_alloc | apply pw_below_drewN | apply below_drew1) | exact HB.out)) hb); clear HB; have HB := n0_; clear n0_; (try clear hb); (try clear hb2); (try clear hk); (try clear hi)) | ((with_reducible refine gate_callee (f := 17) rfl ?_); refine goesL_ (some 38) rfl rfl Tryd.func17 (by kernel_rfl) rfl #[.int .i64 t376, .int .i64 t377, .string t378] rfl (by (try simp only [List.map_toArray, List.map_cons, List.map_nil]); first | done | rfl | (simp only [List.length_drop, List.length_take]; rfl)) ?_; (with_reducible refine (impl_FoldSheet.calls k t376 t377 t378 t379 t380 _ A5.out).mono ?_); rintro e w14 ⟨v381, rfl, ho0, hb⟩; refine ⟨_, rfl, ?_⟩; have n0_ := Aside0.mk (Kd.R_lower ho0 (below_size (by repeat (first | (with_reducible first | exact HB.out | apply below_alloc | apply pw_below_drewN | apply below_drew1) | exact HB.out)))); have n1_ := Aside0.mk (below_step (by repeat (first | (with_reducible first | exact HB.out | apply below_alloc | apply pw_below_drewN | apply below_drew1) | exact HB.out)) hb); clear HB; have HO382 := n0_; have HB := n1_; clear n0_ n1_; (try clear hb); (try clear hb2); (try clear hk); (try clear hi); (try clear ho0)) | ((with_reducible refine gate_callee (f := 16) rfl ?_); refine goesL_ (some 45) rfl rfl Tryd.func16 (by kernel_rfl) rfl #[.int .i64 t376, .int .i64 t377, .string t378] rfl (by (try simp only [List.map_toArray, List.map_cons, List.map_nil]); first | done | rfl | (simp only [List.length_drop, List.length_take]; rfl)) ?_; (with_reducible refine (spec_FoldSheet.calls k t376 t377 t378 t383 t384 _ A6.out).mono ?_); rintro e w15 ⟨v385, rfl, ho0, hb⟩; refine ⟨_, rfl, ?_⟩; have n0_ := Aside0.mk (Kd.R_elder' (by (with_reducible repeat (first | apply Kd.R_alloc | apply Kd.R_drewN | apply Kd.R_drew)); exact HO382.out) (Kd.R_base ho0) hb); have n1_ := Aside0.mk (Kd.R_lower (Kd.R_new' ho0 (Kd.R_lt (by (with_reducible repeat (first | apply Kd.R_alloc | apply Kd.R_drewN | apply Kd.R_drew)); exact HO382.out))) (below_size (by repeat (first | (with_reducible first | exact HB.out | apply below_alloc | apply pw_below_drewN | apply below_drew1) | exact HB.out)))); have n2_ := Aside0.mk (below_step (by repeat (first | (with_reducible first | exact HB.out | apply below_alloc | apply pw_below_drewN | apply below_drew1) | exact HB.out)) hb); clear HO382; clear HB; have HO382 := n0_; have HO386 := n1_; have HB := n2_; clear n0_ n1_ n2_; (try clear hb); (try clear hb2); (try clear hk); (try clear hi); (try clear ho0)) | ((with_reducible refine gate_callee (f := 23) rfl ?_); refine goesL_ (some 50) rfl rfl Tryd.func23 (by kernel_rfl) rfl #[.slice A0 l0.length c0] rfl (by (try simp only [List.map_toArray, List.map_cons, List.map_nil]); first | done | rfl | (simp only [List.length_drop, List.length_take]; rfl)) ?_; (with_reducible refine (spec_DrawLeafOf.calls k _ _ l0 t387 t388 t389 t390 t391 _ ?side1 ?side2 A7.out).mono ?_); (case side1 => repeat (first | exact (Kd.C_below HR0.out HB.out) | (with_reducible refine Kd.C_alloc ?_ _) | (with_reducible refine Kd.C_drewN ?_ _) | (with_reducible refine Kd.C_drew ?_))); (case side2 => exact HC0.out); rintro e w16 ⟨rfl, hb⟩; refine ⟨_, rfl, ?_⟩; have n0_ := Aside0.mk (Kd.R_below (by (with_reducible repeat (first | apply Kd.R_alloc | apply Kd.R_drewN | apply Kd.R_drew)); exact HO382.out) hb); have n1_ := Aside0.mk (Kd.R_below (by (with_reducible repeat (first | apply Kd.R_alloc | apply Kd.R_drewN | apply Kd.R_drew)); exact HO386.out) hb); have n2_ := Aside0.mk (below_step (by repeat (first | (with_reducible first | exact HB.out | apply below_alloc | apply pw_below_drewN | apply below_drew1) | exact HB.out)) hb); clear HO382; clear HO386; clear HB; have HO382 := n0_; have HO386 := n1_; have HB := n2_; clear n0_ n1_ n2_; (try clear hb); (try clear hb2); (try clear hk); (try clear hi)) | ((with_reducible refine gate_callee (f := 15) rfl ?_); refine goesL_ (some 62) rfl rfl Tryd.func15 (by kernel_rfl) rfl #[.int .i64 t387, .int .i64 t388, .string t389, .int .i64 t390, .int .i64 t391] rfl (by (try simp only [List.map_toArray, List.map_cons, List.map_nil]); first | done | rfl | (simp only [List.length_drop, List.length_take]; rfl)) ?_; (with_reducible refine (impl_LeafOf.calls k t387 t388 t389 t390 t391 t392 t393 _ A8.out).mono ?_); rintro e w17 ⟨rfl, hb⟩; refine ⟨_, rfl, ?_⟩; have n0_ := Aside0.mk (Kd.R_below (by (with_reducible repeat (first | apply Kd.R_alloc | apply Kd.R_drewN | apply Kd.R_drew)); exact HO382.out) hb); have n1_ := Aside0.mk (Kd.R_below (by (with_reducible repeat (first | apply Kd.R_alloc | apply Kd.R_drewN | apply Kd.R_drew)); exact HO386.out) hb); have n2_ := Aside0.mk (below_step (by repeat (first | (with_reducible first | exact HB.out | apply below_alloc | apply pw_below_drewN | apply below_drew1) | exact HB.out)) hb); clear HO382; clear HO386; clear HB; have HO382 := n0_; have HO386 := n1_; have HB := n2_; clear n0_ n1_ n2_; (try clear hb); (try clear hb2); (try clear hk); (try clear hi)) | ((with_reducible refine gate_callee (f := 14) rfl ?_); refine goesL_ (some 71) rfl rfl Tryd.func14 (by kernel_rfl) rfl #[.int .i64 t387, .int .i64 t388, .string t389, .int .i64 t390, .int .i64 t391] rfl (by (try simp only [List.map_toArray, List.map_cons, List.map_nil]); first | done | rfl | (simp only [List.length_drop, List.length_take]; rfl)) ?_; (with_reducible refine (spec_LeafOf.calls k t387 t388 t389 t390 t391 t394 t395 _ A9.out).mono ?_); rintro e w18 ⟨rfl, hb⟩; refine ⟨_, rfl, ?_⟩; have n0_ := Aside0.mk (Kd.R_below (by (with_reducible repeat (first | apply Kd.R_alloc | apply Kd.R_drewN | apply Kd.R_drew)); exact HO382.out) hb); have n1_ := Aside0.mk (Kd.R_below (by (with_reducible repeat (first | apply Kd.R_alloc | apply Kd.R_drewN | apply Kd.R_drew)); exact HO386.out) hb); have n2_ := Aside0.mk (below_step (by repeat (first | (with_reducible first | exact HB.out | apply below_alloc | apply pw_below_drewN | apply below_drew1) | exact HB.out)) hb); clear HO382; clear HO386; clear HB; have HO382 := n0_; have HO386 := n1_; have HB := n2_; clear n0_ n1_ n2_; (try clear hb); (try clear hb2); (try clear hk); (try clear hi)) | ((with_reducible refine gate_callee (f := 13) rfl ?_); refine goesL_ (some 78) rfl rfl Tryd.func13 (by kernel_rfl) rfl #[.int .i64 t376, .int .i64 t377, .string t378] rfl (by (try simp only [List.map_toArray, List.map_cons, List.map_nil]); first | done | rfl | (simp only [List.length_drop, List.length_take]; rfl)) ?_; (with_reducible refine (impl_FacesDown.calls k t376 t377 t378 t396 t397 _ A10.out).mono ?_); rintro e w19 ⟨rfl, hb⟩; refine ⟨_, rfl, ?_⟩; have n0_ := Aside0.mk (Kd.R_below (by (with_reducible repeat (first | apply Kd.R_alloc | apply Kd.R_drewN | apply Kd.R_drew)); exact HO382.out) hb); have n1_ := Aside0.mk (Kd.R_below (by (with_reducible repeat (first | apply Kd.R_alloc | apply Kd.R_drewN | apply Kd.R_drew)); exact HO386.out) hb); have n2_ := Aside0.mk (below_step (by repeat (first | (with_reducible first | exact HB.out | apply below_alloc | apply pw_below_drewN | apply below_drew1) | exact HB.out)) hb); clear HO382; clear HO386; clear HB; have HO382 := n0_; have HO386 := n1_; have HB := n2_; clear n0_ n1_ n2_; (try clear hb); (try clear hb2); (try clear hk); (try clear hi)) | ((with_reducible refine gate_callee (f := 12) rfl ?_); refine goesL_ (some 85) rfl rfl Tryd.func12 (by kernel_rfl) rfl #[.int .i64 t376, .int .i64 t377, .string t378] rfl (by (try simp only [List.map_toArray, List.map_cons, List.map_nil]); first | done | rfl | (simp only [List.length_drop, List.length_take]; rfl)) ?_; (with_reducible refine (spec_FacesDown.calls k t376 t377 t378 t398 t399 _ A11.out).mono ?_); rintro e w20 ⟨rfl, hb⟩; refine ⟨_, rfl, ?_⟩; have n0_ := Aside0.mk (Kd.R_below (by (with_reducible repeat (first | apply Kd.R_alloc | apply Kd.R_drewN | apply Kd.R_drew)); exact HO382.out) hb); have n1_ := Aside0.mk (Kd.R_below (by (with_reducible repeat (first | apply Kd.R_alloc | apply Kd.R_drewN | apply Kd.R_drew)); exact HO386.out) hb); have n2_ := Aside0.mk (below_step (by repeat (first | (with_reducible first | exact HB.out | apply below_alloc | apply pw_below_drewN | apply below_drew1) | exact HB.out)) hb); clear HO382; clear HO386; clear HB; have HO382 := n0_; have HO386 := n1_; have HB := n2_; clear n0_ n1_ n2_; (try clear hb); (try clear hb2); (try clear hk); (try clear hi)))
  (try simp only [Act.put, List.setIfInBounds_toArray, List.set_cons_zero, List.set_cons_succ])
  go_cut [127] (fun v127 wc => ∃ (kq : Nat) (x127_11 : Bool), v127 = .bool x127_11 ∧ Aside0 (laws_FnFolded.j0 kq t376 t377 t378 t379 t380 t396 x127_11 = some r) ∧ Aside0 (kq ≤ k) ∧ Aside0 (Kd.R k39 39 wc w.heap.size (fun _ => True) v381 t379) ∧ Aside0 (Below w.heap.size w wc))
  case first =>
   have H := HC12.out
   clear HC12
   by_cases c21 : t380 = t384
   ·rw [if_pos c21] at H
    have c21b0 : (t380 == t384) = true := beq_iff_eq.mpr c21
    have c21b1 : (t380 != t384) = false := bne_eq_false_iff_eq.mpr c21
    clear c21
    (first | rw [c21b0] | (simp only [i64_w, i32_w]; rw [c21b0]) | skip)
    replace H := Option.bind_eq_some_iff.mp H
    obtain ⟨t400, A220, H⟩ := H
    replace H : (if t400 = true then (if t393 = t395 then (if t392 = t394 then (if t397 = t399 then (if t396 = t398 then ((impl_IsScheme.f k t376 t377 t378).bind fun t401 => ((spec_IsScheme.f k t376 t377 t378).bind fun t402 => (laws_FnFolded.j0 k t376 t377 t378 t379 t380 t396 (t401 != t402)))) else (none)) else (none)) else (none)) else (none)) else (none)) = some r := H
    have A22 := Aside0.mk A220
    clear A220
    by_cases c23 : t400 = true
    ·subst c23
     have H1 : (if t393 = t395 then (if t392 = t394 then (if t397 = t399 then (if t396 = t398 then ((impl_IsScheme.f k t376 t377 t378).bind fun t401 => ((spec_IsScheme.f k t376 t377 t378).bind fun t402 => (laws_FnFolded.j0 k t376 t377 t378 t379 t380 t396 (t401 != t402)))) else (none)) else (none)) else (none)) else (none)) = some r := by rw [if_pos rfl] at H; exact H
     clear H
     have H := H1
     clear H1
     by_cases c24 : t393 = t395
     ·rw [if_pos c24] at H
      have c24b0 : (t393 == t395) = true := beq_iff_eq.mpr c24
      have c24b1 : (t393 != t395) = false := bne_eq_false_iff_eq.mpr c24
      clear c24
      by_cases c25 : t392 = t394
      ·rw [if_pos c25] at H
       have c25b0 : (t392 == t394) = true := beq_iff_eq.mpr c25
       have c25b1 : (t392 != t394) = false := bne_eq_false_iff_eq.mpr c25
       clear c25
       by_cases c26 : t397 = t399
       ·rw [if_pos c26] at H
        have c26b0 : (t397 == t399) = true := beq_iff_eq.mpr c26
        have c26b1 : (t397 != t399) = false := bne_eq_false_iff_eq.mpr c26
        clear c26
        by_cases c27 : t396 = t398
        ·rw [if_pos c27] at H
         have c27b0 : (t396 == t398) = true := beq_iff_eq.mpr c27
         have c27b1 : (t396 != t398) = false := bne_eq_false_iff_eq.mpr c27
         clear c27
         replace H := Option.bind_eq_some_iff.mp H
         obtain ⟨t401, A280, H⟩ := H
         replace H : ((spec_IsScheme.f k t376 t377 t378).bind fun t402 => (laws_FnFolded.j0 k t376 t377 t378 t379 t380 t396 (t401 != t402))) = some r := H
         have A28 := Aside0.mk A280
         clear A280
         replace H := Option.bind_eq_some_iff.mp H
         obtain ⟨t402, A290, H⟩ := H
         replace H : (laws_FnFolded.j0 k t376 t377 t378 t379 t380 t396 (t401 != t402)) = some r := H
         have A29 := Aside0.mk A290
         clear A290
         have H' := Aside0.mk H
         clear H
         obtain ⟨Ao30, co30, eo30⟩ := Kd.R_slice HO382.out
         subst eo30
         obtain ⟨Ao31, co31, eo31⟩ := Kd.R_slice HO386.out
         subst eo31
         go_wp2_with (first | (go_at_call 24; (with_reducible refine (laws_likeLeaves9.calls k _ _ t379 _ _ t383 true _ ?side1 ?side2 ?side3 ?side4 A22.out).mono ?_); (case side1 => repeat (first | exact (Kd.R_reads' HO382.out).2.2 | (with_reducible refine Kd.C_alloc ?_ _) | (with_reducible refine Kd.C_drewN ?_ _) | (with_reducible refine Kd.C_drew ?_))); (case side2 => exact (Kd.R_reads' HO382.out).2.1); (case side3 => repeat (first | exact (Kd.R_reads' HO386.out).2.2 | (with_reducible refine Kd.C_alloc ?_ _) | (with_reducible refine Kd.C_drewN ?_ _) | (with_reducible refine Kd.C_drew ?_))); (case side4 => exact (Kd.R_reads' HO386.out).2.1); rintro e w' ⟨rfl, ⟨nd, rfl⟩⟩) | (go_at_call 11; (with_reducible refine (impl_IsScheme.calls k t376 t377 t378 t401 _ A28.out).mono ?_); rintro e w32 ⟨rfl, hb⟩; have n0_ := Aside0.mk (Kd.R_below (by (with_reducible repeat (first | apply Kd.R_alloc | apply Kd.R_drewN | apply Kd.R_drew)); exact HO382.out) hb); have n1_ := Aside0.mk (Kd.R_below (by (with_reducible repeat (first | apply Kd.R_alloc | apply Kd.R_drewN | apply Kd.R_drew)); exact HO386.out) hb); have n2_ := Aside0.mk (below_step (by repeat (first | (with_reducible first | exact HB.out | apply below_alloc | apply pw_below_drewN | apply below_drew1) | exact HB.out)) hb); clear HO382; clear HO386; clear HB; have HO382 := n0_; have HO386 := n1_; have HB := n2_; clear n0_ n1_ n2_; (try clear hb); (try clear hb2); (try clear hk); (try clear hi)) | (go_at_call 10; (with_reducible refine (spec_IsScheme.calls k t376 t377 t378 t402 _ A29.out).mono ?_); rintro e w' ⟨rfl, ⟨nd, rfl⟩⟩))
         go_meet
         case rel => exact ⟨_, ((t401 != t402)), (by first | rfl | (simp; done) | (simp [*]; done)), H', ⟨by first | omega | exact Nat.le_refl _⟩, ⟨by (with_reducible repeat (first | apply Kd.R_alloc | apply Kd.R_drewN | apply Kd.R_drew)); exact Kd.R_mono HO382.out (fun _ hk => trivial)⟩, ⟨by repeat (first | (with_reducible first | exact HB.out | apply below_alloc | apply pw_below_drewN | apply below_drew1) | exact HB.out)⟩⟩
        ·rw [if_neg c27] at H
         exact absurd H (by simp)
       ·rw [if_neg c26] at H
        exact absurd H (by simp)
      ·rw [if_neg c25] at H
       exact absurd H (by simp)
     ·rw [if_neg c24] at H
      exact absurd H (by simp)
    ·replace c23 := Bool.eq_false_iff.mpr c23
     subst c23
     have H1 : (none) = some r := by rw [if_neg (show ¬ (false = true) by decide)] at H; exact H
     clear H
     have H := H1
     clear H1
     exact absurd H (by simp)
   ·rw [if_neg c21] at H
    exact absurd H (by simp)
  case rest =>
   clear HC12
   try clear c1
   try clear c2
   try clear p2
   try clear c3
   try clear c7
   try clear c12
   try clear c13
   try clear c14
   try clear c15
   try clear c16
   try clear c17
   try clear c21
   try clear c21b0
   try clear c21b1
   try clear c22
   try clear c23
   try clear c24
   try clear c24b0
   try clear c24b1
   try clear c25
   try clear c25b0
   try clear c25b1
   try clear c26
   try clear c26b0
   try clear c26b1
   try clear c27
   try clear c27b0
   try clear c27b1
   obtain ⟨kq, x127_11, rfl, HA, HJ11, HO_6, HB⟩ := hcut
   cases kq with
   | zero => exact absurd HA.out (by simp [laws_FnFolded.j0])
   | succ kj11 =>
    have H := HA.out
    clear HA
    simp only [laws_FnFolded.j0] at H
    by_cases c33 : x127_11 = true
    ·subst c33
     have H1 : (none) = some r := by rw [if_pos rfl] at H; exact H
     clear H
     have H := H1
     clear H1
     exact absurd H (by simp)
    ·replace c33 := Bool.eq_false_iff.mpr c33
     subst c33
     have H1 : (if t380 = 0 then (laws_FnFolded.l0 kj11 t376 t377 t378 t379 t396 0) else (some true)) = some r := by rw [if_neg (show ¬ (false = true) by decide)] at H; exact H
     clear H
     have H := H1
     clear H1
     by_cases c34 : t380 = 0
     ·rw [if_pos c34] at H
      have c34b0 : (t380 == 0) = true := beq_iff_eq.mpr c34
      have c34b1 : (t380 != 0) = false := bne_eq_false_iff_eq.mpr c34
      clear c34
      have H' := Aside0.mk H
      clear H
      go_wp2
      go_loopg [23] kj11 (fun kq v23 w' => ∃ (x23_2 : Int), v23 = .int .i64 x23_2 ∧ Aside0 (laws_FnFolded.l0 kq t376 t377 t378 t379 t396 x23_2 = some r) ∧ Aside0 (kq ≤ kj11) ∧ Aside0 (Kd.R k39 39 w' w.heap.size (fun _ => True) v381 t379) ∧ Aside0 (Below w.heap.size w w'))
      case atStart => exact ⟨(0), (by first | rfl | (simp; done) | (simp [*]; done)), H', ⟨Nat.le_refl _⟩, ⟨by (with_reducible repeat (first | apply Kd.R_alloc | apply Kd.R_drewN | apply Kd.R_drew)); exact HO_6.out⟩, ⟨by repeat (first | (with_reducible first | exact HB.out | apply below_alloc | apply pw_below_drewN | apply below_drew1) | exact HB.out)⟩⟩
      case round =>
       clear H'
       try clear c1
       try clear c2
       try clear p2
       try clear c3
       try clear c7
       try clear c12
       try clear c13
       try clear c14
       try clear c15
       try clear c16
       try clear c17
       try clear c21
       try clear c21b0
       try clear c21b1
       try clear c22
       try clear c23
       try clear c24
       try clear c24b0
       try clear c24b1
       try clear c25
       try clear c25b0
       try clear c25b1
       try clear c26
       try clear c26b0
       try clear c26b1
       try clear c27
       try clear c27b0
       try clear c27b1
       try clear c33
       try clear c34
       try clear c34b0
       try clear c34b1
       try clear p2
       obtain ⟨x23_2, rfl, HA, HK2, HO_6, HB⟩ := hrel
       cases gk with
       | zero => exact absurd HA.out (by simp [laws_FnFolded.l0])
       | succ k2 =>
        have H := HA.out
        clear HA
        simp only [laws_FnFolded.l0] at H
        by_cases c35 : x23_2 < (t379.length : Int)
        ·rw [if_pos c35] at H
         have c35b0 : decide (x23_2 < (t379.length : Int)) = true := decide_eq_true c35
         clear c35
         by_cases c36 : 0 ≤ x23_2
         ·rw [if_pos c36] at H
          have c36b0 : decide (0 ≤ x23_2) = true := decide_eq_true c36
          clear c36
          replace H := Option.bind_eq_some_iff.mp H
          obtain ⟨⟨t405, t406⟩, A370, H⟩ := H
          replace H : (if t406 = 0 then (if t405 = x23_2 then (laws_FnFolded.l0 k2 t376 t377 t378 t379 t396 (wrap64 (x23_2 + 1))) else (none)) else (none)) = some r := H
          have A37 := Aside0.mk A370
          clear A370
          by_cases c38 : t406 = 0
          ·rw [if_pos c38] at H
           have c38b0 : (t406 == 0) = true := beq_iff_eq.mpr c38
           have c38b1 : (t406 != 0) = false := bne_eq_false_iff_eq.mpr c38
           clear c38
           by_cases c39 : t405 = x23_2
           ·rw [if_pos c39] at H
            have c39b0 : (t405 == x23_2) = true := beq_iff_eq.mpr c39
            have c39b1 : (t405 != x23_2) = false := bne_eq_false_iff_eq.mpr c39
            clear c39
            have H' := Aside0.mk H
            clear H
            obtain ⟨Ao40, co40, eo40⟩ := Kd.R_slice HO_6.out
            subst eo40
            try go_wp2
            have n0_ := Aside0.mk (Kd.R_drew HO_6.out)
            have n1_ := Aside0.mk (below_drew1 HB.out)
            clear HO_6
            clear HB
            have HO_6 := n0_
            have HB := n1_
            clear n0_ n1_
            have p403 : 0 ≤ (x23_2 : Int) := of_decide_eq_true (by first | (with_reducible assumption) | assumption)
            have q403 : x23_2 < (t379.length : Int) := of_decide_eq_true (by first | (with_reducible assumption) | assumption)
            obtain ⟨ad403, e403, hx403_0, hx403_1, hx403_2, hx403_3⟩ := at_T39 (Kd.R_reads' HO_6.out).2.2 x23_2 p403 q403
            cases e403
            replace p403 := eq_true p403
            replace q403 := eq_true q403
            have p404 : 0 ≤ (x23_2 : Int) := of_decide_eq_true (by first | (with_reducible assumption) | assumption)
            have q404 : x23_2 < (t379.length : Int) := of_decide_eq_true (by first | (with_reducible assumption) | assumption)
            obtain ⟨ad404, e404, hx404_0, hx404_1, hx404_2, hx404_3⟩ := at_T39 (Kd.R_reads' HO_6.out).2.2 x23_2 p404 q404
            obtain rfl : ad403 = ad404 := (by injection e404)
            replace p404 := eq_true p404
            replace q404 := eq_true q404
            refine start_ (n := 19) (S := fun w' => w'.cell? (ad403.add ((x23_2).toNat * 4)) = some (.int .i64 ((rd_T39 t379 x23_2).f0)) ∧ w'.cell? ⟨(ad403.add ((x23_2).toNat * 4)).block, (ad403.add ((x23_2).toNat * 4)).off + 1, none⟩ = some (.int .i64 ((rd_T39 t379 x23_2).f1)) ∧ w'.cell? ⟨(ad403.add ((x23_2).toNat * 4)).block, (ad403.add ((x23_2).toNat * 4)).off + 2, none⟩ = some (.bool ((rd_T39 t379 x23_2).f2)) ∧ w'.cell? ⟨(ad403.add ((x23_2).toNat * 4)).block, (ad403.add ((x23_2).toNat * 4)).off + 3, none⟩ = some (.bool ((rd_T39 t379 x23_2).f3)) ∧ w'.cell? (ad403.add ((x23_2).toNat * 4)) = some (.int .i64 ((rd_T39 t379 x23_2).f0)) ∧ w'.cell? ⟨(ad403.add ((x23_2).toNat * 4)).block, (ad403.add ((x23_2).toNat * 4)).off + 1, none⟩ = some (.int .i64 ((rd_T39 t379 x23_2).f1)) ∧ w'.cell? ⟨(ad403.add ((x23_2).toNat * 4)).block, (ad403.add ((x23_2).toNat * 4)).off + 2, none⟩ = some (.bool ((rd_T39 t379 x23_2).f2)) ∧ w'.cell? ⟨(ad403.add ((x23_2).toNat * 4)).block, (ad403.add ((x23_2).toNat * 4)).off + 3, none⟩ = some (.bool ((rd_T39 t379 x23_2).f3))) (ds := []) #[false, false, false, false, false, false, false, false, false, false, false, false, false, false, false, false, false, false, false] (by kernel_rfl) rfl rfl ⟨hx403_0, hx403_1, hx403_2, hx403_3, hx404_0, hx404_1, hx404_2, hx404_3⟩ (fun hHeld => ?_); refine with_tabW laws_FnFolded.tab18 laws_FnFolded.bits18 (fun HT_ HW_ => ?_)
            generalize wr.drew = w41 at HO_6 HB hx403_0 hx403_1 hx403_2 hx403_3 hx404_0 hx404_1 hx404_2 hx404_3 hHeld ⊢
            refine pure_ (i := 0) (N := some 137) (v := ?_) (a' := ?_) #[true, false, false, false, false, false, false, false, false, false, false, false, false, false, false, false, false, false, false] rfl rfl (any_of HT_.out (by kernel_rfl)) (fun _ _ _ h => h) (Or.inl ⟨by rfl, ?_⟩) ?_ ?_
            rotate_left
            ·intro w'
             go_simp
             with_reducible rfl
            rotate_left
            ·simp only [Act.put, List.setIfInBounds_toArray, List.set_cons_zero, List.set_cons_succ, i64_w, i32_w]
             rfl
            refine pure_ (i := 1) (N := some 138) (v := ?_) (a' := ?_) #[true, true, false, false, false, false, false, false, false, false, false, false, false, false, false, false, false, false, false] rfl rfl (any_of HT_.out (by kernel_rfl)) (fun _ _ _ h => h) (Or.inl ⟨by rfl, ?_⟩) ?_ ?_
            rotate_left
            ·intro w'
             go_simp
             with_reducible rfl
            rotate_left
            ·simp only [Act.put, List.setIfInBounds_toArray, List.set_cons_zero, List.set_cons_succ, i64_w, i32_w]
             rfl
            refine pure_ (i := 2) (N := some 139) (v := ?_) (a' := ?_) #[true, true, true, false, false, false, false, false, false, false, false, false, false, false, false, false, false, false, false] rfl rfl (any_of HT_.out (by kernel_rfl)) (fun _ _ _ h => h) (Or.inl ⟨by rfl, ?_⟩) ?_ ?_
            rotate_left
            ·intro w'
             go_simp
             with_reducible rfl
            rotate_left
            ·simp only [Act.put, List.setIfInBounds_toArray, List.set_cons_zero, List.set_cons_succ, i64_w, i32_w]
             rfl
            refine pure_ (i := 3) (N := some 140) (v := ?_) (a' := ?_) #[true, true, true, true, false, false, false, false, false, false, false, false, false, false, false, false, false, false, false] rfl rfl (any_of HT_.out (by kernel_rfl)) (fun _ _ _ h => h) (Or.inl ⟨by rfl, ?_⟩) ?_ ?_
            rotate_left
            ·intro w'
             go_simp
             with_reducible rfl
            rotate_left
            ·simp only [Act.put, List.setIfInBounds_toArray, List.set_cons_zero, List.set_cons_succ, i64_w, i32_w]
             rfl
            refine pure_ (i := 4) (N := some 141) (v := ?_) (a' := ?_) #[true, true, true, true, true, false, false, false, false, false, false, false, false, false, false, false, false, false, false] rfl rfl (any_of HT_.out (by kernel_rfl)) (fun _ _ _ h => h) (Or.inl ⟨by rfl, ?_⟩) ?_ ?_
            rotate_left
            ·intro w'
             go_simp
             with_reducible rfl
            rotate_left
            ·simp only [Act.put, List.setIfInBounds_toArray, List.set_cons_zero, List.set_cons_succ, i64_w, i32_w]
             rfl
            refine pure_ (i := 5) (N := some 142) (v := ?_) (a' := ?_) #[true, true, true, true, true, true, false, false, false, false, false, false, false, false, false, false, false, false, false] rfl rfl (any_of HT_.out (by kernel_rfl)) (fun _ _ _ h => h) (Or.inl ⟨by rfl, ?_⟩) ?_ ?_
            rotate_left
            ·intro w'
             go_simp
             with_reducible rfl
            rotate_left
            ·simp only [Act.put, List.setIfInBounds_toArray, List.set_cons_zero, List.set_cons_succ, i64_w, i32_w]
             rfl
            refine pure_ (i := 6) (N := some 143) (v := ?_) (a' := ?_) #[true, true, true, true, true, true, true, false, false, false, false, false, false, false, false, false, false, false, false] rfl rfl (any_of HT_.out (by kernel_rfl)) (fun _ _ _ h => h) (Or.inl ⟨by rfl, ?_⟩) ?_ ?_
            rotate_left
            ·intro w'
             go_simp
             with_reducible rfl
            rotate_left
            ·simp only [Act.put, List.setIfInBounds_toArray, List.set_cons_zero, List.set_cons_succ, i64_w, i32_w]
             rfl
            refine pure_ (i := 8) (N := some 145) (v := ?_) (a' := ?_) #[true, true, true, true, true, true, true, false, true, false, false, false, false, false, false, false, false, false, false] rfl rfl (any_of HT_.out (by kernel_rfl)) (fun _ _ _ h => h) (Or.inl ⟨by rfl, ?_⟩) ?_ ?_
            rotate_left
            ·intro w'
             go_simp
             with_reducible rfl
            rotate_left
            ·simp only [Act.put, List.setIfInBounds_toArray, List.set_cons_zero, List.set_cons_succ, i64_w, i32_w]
             rfl
            refine pure_ (i := 9) (N := some 146) (v := ?_) (a' := ?_) #[true, true, true, true, true, true, true, false, true, true, false, false, false, false, false, false, false, false, false] rfl rfl (any_of HT_.out (by kernel_rfl)) (fun _ _ _ h => h) (Or.inl ⟨by rfl, ?_⟩) ?_ ?_
            rotate_left
            ·intro w'
             go_simp
             with_reducible rfl
            rotate_left
            ·simp only [Act.put, List.setIfInBounds_toArray, List.set_cons_zero, List.set_cons_succ, i64_w, i32_w]
             rfl
            refine pure_ (i := 10) (N := some 147) (v := ?_) (a' := ?_) #[true, true, true, true, true, true, true, false, true, true, true, false, false, false, false, false, false, false, false] rfl rfl (any_of HT_.out (by kernel_rfl)) (fun _ _ _ h => h) (Or.inl ⟨by rfl, ?_⟩) ?_ ?_
            rotate_left
            ·intro w'
             go_simp
             with_reducible rfl
            rotate_left
            ·simp only [Act.put, List.setIfInBounds_toArray, List.set_cons_zero, List.set_cons_succ, i64_w, i32_w]
             rfl
            refine pure_ (i := 11) (N := some 148) (v := ?_) (a' := ?_) #[true, true, true, true, true, true, true, false, true, true, true, true, false, false, false, false, false, false, false] rfl rfl (any_of HT_.out (by kernel_rfl)) (fun _ _ _ h => h) (Or.inl ⟨by rfl, ?_⟩) ?_ ?_
            rotate_left
            ·intro w'
             go_simp
             with_reducible rfl
            rotate_left
            ·simp only [Act.put, List.setIfInBounds_toArray, List.set_cons_zero, List.set_cons_succ, i64_w, i32_w]
             rfl
            refine take_ (i := 7) (N := some 144) (v := ?_) (a' := ?_) #[true, true, true, true, true, true, true, true, true, true, true, true, false, false, false, false, false, false, false] rfl rfl (take_ofW HT_.out HW_.out (by kernel_rfl)) (fun _ _ _ h => h) (Or.inl ⟨by rfl, ?_⟩) hHeld ?_ ?_
            rotate_left
            ·rintro w' ⟨s0, s1, s2, s3, s4, s5, s6, s7⟩
             go_simp
             with_reducible rfl
            rotate_left
            ·simp only [Act.put, List.setIfInBounds_toArray, List.set_cons_zero, List.set_cons_succ, i64_w, i32_w]
             rfl
            refine take_ (i := 12) (N := some 149) (v := ?_) (a' := ?_) #[true, true, true, true, true, true, true, true, true, true, true, true, true, false, false, false, false, false, false] rfl rfl (take_ofW HT_.out HW_.out (by kernel_rfl)) (fun _ _ _ h => h) (Or.inl ⟨by rfl, ?_⟩) hHeld ?_ ?_
            rotate_left
            ·rintro w' ⟨s0, s1, s2, s3, s4, s5, s6, s7⟩
             go_simp
             with_reducible rfl
            rotate_left
            ·simp only [Act.put, List.setIfInBounds_toArray, List.set_cons_zero, List.set_cons_succ, i64_w, i32_w]
             rfl
            refine one_ (i := 13) (N := some 150) #[true, true, true, true, true, true, true, true, true, true, true, true, true, true, false, false, false, false, false] rfl rfl (one_of HT_.out (by kernel_rfl)) (by decide) (fun K hK => ?_)
            refine goes_ Tryd.func15 (by kernel_rfl) rfl #[.int .i64 t376, .int .i64 t377, .string t378, .int .i64 ((rd_T39 t379 x23_2).f0), .int .i64 ((rd_T39 t379 x23_2).f1)] (by rfl) rfl rfl (by (try simp only [List.map_toArray, List.map_cons, List.map_nil]); first | done | rfl | (simp only [List.length_drop, List.length_take]; rfl)) ?_
            with_reducible refine (impl_LeafOf.calls k2 t376 t377 t378 ((rd_T39 t379 x23_2).f0) ((rd_T39 t379 x23_2).f1) t405 t406 _ A37.out).mono ?_
            rintro e w42 ⟨rfl, hb⟩
            have HS0_ := (hb.cell (World.block_lt_of_cell? _ _ (hHeld.1))).trans (hHeld.1)
            have HS1_ := (hb.cell (World.block_lt_of_cell? _ _ (hHeld.2.1))).trans (hHeld.2.1)
            have HS2_ := (hb.cell (World.block_lt_of_cell? _ _ (hHeld.2.2.1))).trans (hHeld.2.2.1)
            have HS3_ := (hb.cell (World.block_lt_of_cell? _ _ (hHeld.2.2.2.1))).trans (hHeld.2.2.2.1)
            have HS4_ := (hb.cell (World.block_lt_of_cell? _ _ (hHeld.2.2.2.2.1))).trans (hHeld.2.2.2.2.1)
            have HS5_ := (hb.cell (World.block_lt_of_cell? _ _ (hHeld.2.2.2.2.2.1))).trans (hHeld.2.2.2.2.2.1)
            have HS6_ := (hb.cell (World.block_lt_of_cell? _ _ (hHeld.2.2.2.2.2.2.1))).trans (hHeld.2.2.2.2.2.2.1)
            have HS7_ := (hb.cell (World.block_lt_of_cell? _ _ (hHeld.2.2.2.2.2.2.2))).trans (hHeld.2.2.2.2.2.2.2)
            refine ⟨_, rfl, ?_⟩
            have n0_ := Aside0.mk (Kd.R_below (by (with_reducible repeat (first | apply Kd.R_alloc | apply Kd.R_drewN | apply Kd.R_drew)); exact HO_6.out) hb)
            have n1_ := Aside0.mk (below_step (by repeat (first | (with_reducible first | exact HB.out | apply below_alloc | apply pw_below_drewN | apply below_drew1) | exact HB.out)) hb)
            clear HO_6
            clear HB
            have HO_6 := n0_
            have HB := n1_
            clear n0_ n1_
            (try clear hb)
            (try clear hb2)
            (try clear hk)
            (try clear hi)
            refine hK.out _ _ ⟨HS0_, HS1_, HS2_, HS3_, HS4_, HS5_, HS6_, HS7_⟩ (fun hHeld => ?_)
            clear hK K
            refine norm_ (a' := ?_) ?_ ?_
            rotate_left
            ·show Act.put _ (some 150) _ = _
             simp only [Act.put, List.setIfInBounds_toArray, List.set_cons_zero, List.set_cons_succ, i64_w, i32_w]
             rfl
            refine pure_ (i := 14) (N := some 136) (v := ?_) (a' := ?_) #[true, true, true, true, true, true, true, true, true, true, true, true, true, true, true, false, false, false, false] rfl rfl (any_of HT_.out (by kernel_rfl)) (fun _ _ _ h => h) (Or.inl ⟨by rfl, ?_⟩) ?_ ?_
            rotate_left
            ·intro w'
             go_simp
             with_reducible rfl
            rotate_left
            ·simp only [Act.put, List.setIfInBounds_toArray, List.set_cons_zero, List.set_cons_succ, i64_w, i32_w]
             rfl
            refine pure_ (i := 15) (N := some 151) (v := ?_) (a' := ?_) #[true, true, true, true, true, true, true, true, true, true, true, true, true, true, true, true, false, false, false] rfl rfl (any_of HT_.out (by kernel_rfl)) (fun _ _ _ h => h) (Or.inl ⟨by rfl, ?_⟩) ?_ ?_
            rotate_left
            ·intro w'
             go_simp
             with_reducible rfl
            rotate_left
            ·simp only [Act.put, List.setIfInBounds_toArray, List.set_cons_zero, List.set_cons_succ, i64_w, i32_w]
             rfl
            refine pure_ (i := 16) (N := some 152) (v := ?_) (a' := ?_) #[true, true, true, true, true, true, true, true, true, true, true, true, true, true, true, true, true, false, false] rfl rfl (any_of HT_.out (by kernel_rfl)) (fun _ _ _ h => h) (Or.inl ⟨by rfl, ?_⟩) ?_ ?_
            rotate_left
            ·intro w'
             go_simp
             with_reducible rfl
            rotate_left
            ·simp only [Act.put, List.setIfInBounds_toArray, List.set_cons_zero, List.set_cons_succ, i64_w, i32_w]
             rfl
            refine pure_ (i := 17) (N := some 24) (v := ?_) (a' := ?_) #[true, true, true, true, true, true, true, true, true, true, true, true, true, true, true, true, true, true, false] rfl rfl (any_of HT_.out (by kernel_rfl)) (fun _ _ _ h => h) (Or.inl ⟨by rfl, ?_⟩) ?_ ?_
            rotate_left
            ·intro w'
             go_simp
             with_reducible rfl
            rotate_left
            ·simp only [Act.put, List.setIfInBounds_toArray, List.set_cons_zero, List.set_cons_succ, i64_w, i32_w]
             rfl
            refine pure_ (i := 18) (N := some 25) (v := ?_) (a' := ?_) #[true, true, true, true, true, true, true, true, true, true, true, true, true, true, true, true, true, true, true] rfl rfl (any_of HT_.out (by kernel_rfl)) (fun _ _ _ h => h) (Or.inl ⟨by rfl, ?_⟩) ?_ ?_
            rotate_left
            ·intro w'
             go_simp
             with_reducible rfl
            rotate_left
            ·simp only [Act.put, List.setIfInBounds_toArray, List.set_cons_zero, List.set_cons_succ, i64_w, i32_w]
             rfl
            refine done_ (done_of HT_.out (by kernel_rfl)) ?_
            try go_wp2
            go_roundg k2
            case measure => have := HJ11.out; have := HK2.out; omega
            case rel => exact ⟨(wrap64 (x23_2 + 1)), (by first | rfl | (simp; done) | (simp [*]; done)), H', ⟨by have := HJ11.out; have := HK2.out; omega⟩, ⟨by (with_reducible repeat (first | apply Kd.R_alloc | apply Kd.R_drewN | apply Kd.R_drew)); exact HO_6.out⟩, ⟨by repeat (first | (with_reducible first | exact HB.out | apply below_alloc | apply pw_below_drewN | apply below_drew1) | exact HB.out)⟩⟩
           ·rw [if_neg c39] at H
            exact absurd H (by simp)
          ·rw [if_neg c38] at H
           exact absurd H (by simp)
         ·rw [if_neg c36] at H
          exact absurd H (by simp)
        ·rw [if_neg c35] at H
         have c35b0 : decide (x23_2 < (t379.length : Int)) = false := decide_eq_false c35
         clear c35
         by_cases c43 : (t379.length : Int) = (wrap64 (t376 * t377))
         ·rw [if_pos c43] at H
          have c43b0 : ((t379.length : Int) == (wrap64 (t376 * t377))) = true := beq_iff_eq.mpr c43
          have c43b1 : ((t379.length : Int) != (wrap64 (t376 * t377))) = false := bne_eq_false_iff_eq.mpr c43
          clear c43
          by_cases c44 : t378.toList = ([] : List UInt8)
          ·rw [if_pos c44] at H
           have c44b0 : (t378.toList == ([] : List UInt8)) = true := beq_iff_eq.mpr c44
           have c44b1 : (t378.toList != ([] : List UInt8)) = false := bne_eq_false_iff_eq.mpr c44
           clear c44
           obtain rfl := Option.some.inj H
           obtain ⟨Ao45, co45, eo45⟩ := Kd.R_slice HO_6.out
           subst eo45
           go_wp2
           go_ret
           exact ⟨by first | rfl | (simp only [Go.IntWalk.i64_left]; first | done | rfl) | (simp [errW_none, errW_some] <;> rfl) | (simp [*, errW_none, errW_some] <;> rfl), by repeat (first | (with_reducible first | exact HB.out | apply below_alloc | apply pw_below_drewN | apply below_drew1) | exact HB.out)⟩
          ·rw [if_neg c44] at H
           have c44b0 : (t378.toList == ([] : List UInt8)) = false := beq_eq_false_iff_ne.mpr c44
           have c44b1 : (t378.toList != ([] : List UInt8)) = true := bne_iff_ne.mpr c44
           obtain rfl := Option.some.inj H
           obtain ⟨Ao46, co46, eo46⟩ := Kd.R_slice HO_6.out
           subst eo46
           go_wp2
           go_ret
           exact ⟨by first | rfl | (simp only [Go.IntWalk.i64_left]; first | done | rfl) | (simp [errW_none, errW_some] <;> rfl) | (simp [*, errW_none, errW_some] <;> rfl), by repeat (first | (with_reducible first | exact HB.out | apply below_alloc | apply pw_below_drewN | apply below_drew1) | exact HB.out)⟩
         ·rw [if_neg c43] at H
          exact absurd H (by simp)
     ·rw [if_neg c34] at H
      have c34b0 : (t380 == 0) = false := beq_eq_false_iff_ne.mpr c34
      have c34b1 : (t380 != 0) = true := bne_iff_ne.mpr c34
      obtain rfl := Option.some.inj H
      go_wp2
      go_ret
      exact ⟨by first | rfl | (simp only [Go.IntWalk.i64_left]; first | done | rfl) | (simp [errW_none, errW_some] <;> rfl) | (simp [*, errW_none, errW_some] <;> rfl), by repeat (first | (with_reducible first | exact HB.out | apply below_alloc | apply pw_below_drewN | apply below_drew1) | exact HB.out)⟩

/-- THE ONE PURE STATEMENT of laws_FnFolded: yours. -/
def laws_FnFolded.Pure : Prop := ∀ (l0 : List Int), l0.length ≤ maxLen → l0.length * 1 ≤ 140737488351232 → (∀ x ∈ l0, (Lit.int .u8 x).wf = true) → ∃ k, laws_FnFolded.f k l0 = some true
theorem laws_FnFolded.walk (P : laws_FnFolded.Pure) (a0 : Option Addr) (len0 cap0 : Nat) (z0 : List Int) (w : World) (w0 : (a0 = none ∧ len0 = 0 ∧ cap0 = 0 ∧ z0 = []) ∨ ∃ x, a0 = some x ∧ len0 ≤ cap0 ∧ cap0 ≤ maxLen ∧ z0.length = cap0 ∧ (∀ i, i < z0.length → w.cell? (x.add i) = some (.int .u8 (z0.getD i 0))) ∧ ∀ n ∈ z0, (Lit.int .u8 n).wf = true) (y0 : len0 * 1 ≤ 140737488351232) :
  Calls Tryd.prog 7 #[.slice a0 len0 cap0] w fun e w' => e = .returned (.bool true) ∧ Below w.heap.size w w' := by
 obtain ⟨l0, rfl, hr0, hm0, hw0, hc0⟩ := ReadsInt.ofRowC w0
 obtain ⟨k, h⟩ := P l0 hm0 y0 hw0
 refine (laws_FnFolded.calls k _ _ l0 true w (Kd.C_of_reads (d := (0 : Int)) (h1 := fun _ => rfl) hr0) hc0 h).mono ?_
 rintro e w' ⟨rfl, hd⟩
 exact ⟨rfl, hd⟩

end Go.Proofs.YtijbccmcfagnfaaDoor.QFnFolded
-- halved
