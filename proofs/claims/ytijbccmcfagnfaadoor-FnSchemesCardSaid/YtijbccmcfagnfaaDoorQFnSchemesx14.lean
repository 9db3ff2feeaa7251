-- Written by own_print.py of this session's repo over the kit's print (its output, turned at some places).
import Derived.Test.YtijbccmcfagnfaaDoorQFnSchemesx0
import Derived.Test.YtijbccmcfagnfaaDoorQFnSchemesx2
import Derived.Test.YtijbccmcfagnfaaDoorQFnSchemesx4
import Derived.Test.YtijbccmcfagnfaaDoorQFnSchemesx5
import Derived.Test.YtijbccmcfagnfaaDoorQFnSchemesx6
import Derived.Test.YtijbccmcfagnfaaDoorQFnSchemesx7
import Derived.Test.YtijbccmcfagnfaaDoorQFnSchemesx11
import Derived.Test.YtijbccmcfagnfaaDoorQFnSchemesx12
import Derived.Test.YtijbccmcfagnfaaDoorQFnSchemesx13
namespace Go.Proofs.YtijbccmcfagnfaaDoor.QFnSchemes
open Go.RowKit Go.Proofs.YtijbccmcfagnfaaDoorW.PrintWords Go.Proofs.YtijbccmcfagnfaaDoorW.PrintLast Go.Proofs.YtijbccmcfagnfaaDoorW.PrintMore
attribute [local go_sem] max2_int min2_int max_two min_two max_three min_three max_four min_four   -- for this text's walks alone
attribute [local go_sem] binOp_leq_swap
set_option linter.unusedVariables false
set_option linter.unusedSimpArgs false

/-! ### laws_FnSchemes: function 8 -/
mutual
def laws_FnSchemes.j0 : Nat → Int → Int → List ByteArray → Int → Int → Int → List (S39) → ByteArray → Int → Bool → Option (Bool)
  | 0, _, _, _, _, _, _, _, _, _, _ => none
  | k + 1, x3, x4, x5, x6, x15, x16, x17, x18, x19, x111 => if x111 = true then (none) else (if x19 = 0 then ((impl_FoldSheet.f k x15 x16 x18).bind fun bt459 => (if bt459.2 = 0 then ((laws_likeLeaves9.f k bt459.1 x17).bind fun t463 => (if t463 = true then (laws_FnSchemes.j1 k x3 x4 x5 x6) else (none))) else (none))) else (laws_FnSchemes.j1 k x3 x4 x5 x6))
def laws_FnSchemes.j1 : Nat → Int → Int → List ByteArray → Int → Option (Bool)
  | 0, _, _, _, _ => none
  | k + 1, x3, x4, x5, x6 => if x6 = 0 then (laws_FnSchemes.l0 k x3 x4 x5 0) else (some true)
def laws_FnSchemes.l0 : Nat → Int → Int → List ByteArray → Int → Option (Bool)
  | 0, _, _, _, _ => none
  | k + 1, x3, x4, x5, x24 => if x24 < (x5.length : Int) then (if 0 ≤ x24 then ((impl_IsScheme.f k x3 x4 (rdOf ByteArray.empty x5 x24)).bind fun t465 => (if t465 = true then (if x24 > 0 then (if 0 ≤ (wrap64 (x24 - 1)) then (if (wrap64 (x24 - 1)) < (x5.length : Int) then (if ((Op.bytesLess ((rdOf ByteArray.empty x5 (wrap64 (x24 - 1))).toList) ((rdOf ByteArray.empty x5 x24).toList)) = true) then (laws_FnSchemes.l0 k x3 x4 x5 (wrap64 (x24 + 1))) else (none)) else (none)) else (none)) else (laws_FnSchemes.l0 k x3 x4 x5 (wrap64 (x24 + 1)))) else (none))) else (none)) else ((impl_CountSchemes.f k x3 x4).bind fun bt468 => (if bt468.2 = 0 then (some ((x5.length : Int) == bt468.1)) else (none)))
end
def laws_FnSchemes.f (k : Nat) (l0 : List Int) : Option (Bool) := (laws_big.f l0).bind fun t432 => (if t432 = true then (some true) else ((spec_DrawSchemesOf.f k l0).bind fun bt433 => ((impl_SchemesOf.f k bt433.1 bt433.2).bind fun bt435 => ((spec_SchemesOf.f k bt433.1 bt433.2).bind fun bt439 => ((spec_DrawCountSchemes.f k l0).bind fun bt443 => ((impl_CountSchemes.f k bt443.1 bt443.2).bind fun bt445 => ((spec_CountSchemes.f k bt443.1 bt443.2).bind fun bt447 => ((spec_DrawFindScheme.f k l0).bind fun bt449 => ((impl_FindScheme.f k bt449.1 bt449.2.1 bt449.2.2).bind fun bt454 => ((spec_FindScheme.f k bt449.1 bt449.2.1 bt449.2.2).bind fun bt456 => (if bt435.2 = bt439.2 then ((laws_likeTexts9.f k bt435.1 bt439.1).bind fun t458 => (if t458 = true then (if bt445.2 = bt447.2 then (if bt445.1 = bt447.1 then (if bt454.2 = bt456.2 then (laws_FnSchemes.j0 k bt433.1 bt433.2 bt435.1 bt435.2 bt449.1 bt449.2.1 bt449.2.2 bt454.1 bt454.2 (bt454.1.toList != bt456.1.toList)) else (none)) else (none)) else (none)) else (none))) else (none))))))))))))
theorem laws_FnSchemes.mono_l : ∀ k, (∀ y0 y1 y2 y3 y4 y5 y6 y7 y8 y9, LeO (laws_FnSchemes.j0 k y0 y1 y2 y3 y4 y5 y6 y7 y8 y9) (laws_FnSchemes.j0 (k + 1) y0 y1 y2 y3 y4 y5 y6 y7 y8 y9)) ∧ (∀ y0 y1 y2 y3, LeO (laws_FnSchemes.j1 k y0 y1 y2 y3) (laws_FnSchemes.j1 (k + 1) y0 y1 y2 y3)) ∧ (∀ y0 y1 y2 y3, LeO (laws_FnSchemes.l0 k y0 y1 y2 y3) (laws_FnSchemes.l0 (k + 1) y0 y1 y2 y3))
  | 0 => ⟨fun _ _ _ _ _ _ _ _ _ _ r h => by simp [laws_FnSchemes.j0] at h, fun _ _ _ _ r h => by simp [laws_FnSchemes.j1] at h, fun _ _ _ _ r h => by simp [laws_FnSchemes.l0] at h⟩
  | k + 1 => by
    obtain ⟨ih0, ih1, ih2⟩ := laws_FnSchemes.mono_l k
    refine ⟨?_, ?_, ?_⟩
    · intro y0 y1 y2 y3 y4 y5 y6 y7 y8 y9
      unfold laws_FnSchemes.j0
      repeat' first
      | (with_reducible exact ih0 _ _ _ _ _ _ _ _ _ _)
      | (with_reducible exact ih1 _ _ _ _)
      | (with_reducible exact ih2 _ _ _ _)
      | (with_reducible exact impl_CountSchemes.mono _ _ _)
      | (with_reducible exact impl_FindScheme.mono _ _ _ _)
      | (with_reducible exact impl_FoldSheet.mono _ _ _ _)
      | (with_reducible exact impl_IsScheme.mono _ _ _ _)
      | (with_reducible exact impl_SchemesOf.mono _ _ _)
      | (with_reducible exact laws_likeLeaves9.mono _ _ _)
      | (with_reducible exact laws_likeTexts9.mono _ _ _)
      | (with_reducible exact spec_CountSchemes.mono _ _ _)
      | (with_reducible exact spec_DrawCountSchemes.mono _ _)
      | (with_reducible exact spec_DrawFindScheme.mono _ _)
      | (with_reducible exact spec_DrawSchemesOf.mono _ _)
      | (with_reducible exact spec_FindScheme.mono _ _ _ _)
      | (with_reducible exact spec_SchemesOf.mono _ _ _)
      | (with_reducible exact LeO.refl _)
      | (with_reducible exact LeO.none _)
      | (with_reducible refine LeO.ite ?_ ?_)
      | (with_reducible refine LeO.bind ?_ (fun _ => ?_))
      | exact ih0 _ _ _ _ _ _ _ _ _ _
      | exact ih1 _ _ _ _
      | exact ih2 _ _ _ _
      | exact impl_CountSchemes.mono _ _ _
      | exact impl_FindScheme.mono _ _ _ _
      | exact impl_FoldSheet.mono _ _ _ _
      | exact impl_IsScheme.mono _ _ _ _
      | exact impl_SchemesOf.mono _ _ _
      | exact laws_likeLeaves9.mono _ _ _
      | exact laws_likeTexts9.mono _ _ _
      | exact spec_CountSchemes.mono _ _ _
      | exact spec_DrawCountSchemes.mono _ _
      | exact spec_DrawFindScheme.mono _ _
      | exact spec_DrawSchemesOf.mono _ _
      | exact spec_FindScheme.mono _ _ _ _
      | exact spec_SchemesOf.mono _ _ _
      | exact LeO.none _
      | refine LeO.ite ?_ ?_
      | refine LeO.bind ?_ (fun _ => ?_)
    · intro y0 y1 y2 y3
      unfold laws_FnSchemes.j1
      repeat' first
      | (with_reducible exact ih0 _ _ _ _ _ _ _ _ _ _)
      | (with_reducible exact ih1 _ _ _ _)
      | (with_reducible exact ih2 _ _ _ _)
      | (with_reducible exact impl_CountSchemes.mono _ _ _)
      | (with_reducible exact impl_FindScheme.mono _ _ _ _)
      | (with_reducible exact impl_FoldSheet.mono _ _ _ _)
      | (with_reducible exact impl_IsScheme.mono _ _ _ _)
      | (with_reducible exact impl_SchemesOf.mono _ _ _)
      | (with_reducible exact laws_likeLeaves9.mono _ _ _)
      | (with_reducible exact laws_likeTexts9.mono _ _ _)
      | (with_reducible exact spec_CountSchemes.mono _ _ _)
      | (with_reducible exact spec_DrawCountSchemes.mono _ _)
      | (with_reducible exact spec_DrawFindScheme.mono _ _)
      | (with_reducible exact spec_DrawSchemesOf.mono _ _)
      | (with_reducible exact spec_FindScheme.mono _ _ _ _)
      | (with_reducible exact spec_SchemesOf.mono _ _ _)
      | (with_reducible exact LeO.refl _)
      | (with_reducible exact LeO.none _)
      | (with_reducible refine LeO.ite ?_ ?_)
      | (with_reducible refine LeO.bind ?_ (fun _ => ?_))
      | exact ih0 _ _ _ _ _ _ _ _ _ _
      | exact ih1 _ _ _ _
      | exact ih2 _ _ _ _
      | exact impl_CountSchemes.mono _ _ _
      | exact impl_FindScheme.mono _ _ _ _
      | exact impl_FoldSheet.mono _ _ _ _
      | exact impl_IsScheme.mono _ _ _ _
      | exact impl_SchemesOf.mono _ _ _
      | exact laws_likeLeaves9.mono _ _ _
      | exact laws_likeTexts9.mono _ _ _
      | exact spec_CountSchemes.mono _ _ _
      | exact spec_DrawCountSchemes.mono _ _
      | exact spec_DrawFindScheme.mono _ _
      | exact spec_DrawSchemesOf.mono _ _
      | exact spec_FindScheme.mono _ _ _ _
      | exact spec_SchemesOf.mono _ _ _
      | exact LeO.none _
      | refine LeO.ite ?_ ?_
      | refine LeO.bind ?_ (fun _ => ?_)
    · intro y0 y1 y2 y3
      unfold laws_FnSchemes.l0
      repeat' first
      | (with_reducible exact ih0 _ _ _ _ _ _ _ _ _ _)
      | (with_reducible exact ih1 _ _ _ _)
      | (with_reducible exact ih2 _ _ _ _)
      | (with_reducible exact impl_CountSchemes.mono _ _ _)
      | (with_reducible exact impl_FindScheme.mono _ _ _ _)
      | (with_reducible exact impl_FoldSheet.mono _ _ _ _)
      | (with_reducible exact impl_IsScheme.mono _ _ _ _)
      | (with_reducible exact impl_SchemesOf.mono _ _ _)
      | (with_reducible exact laws_likeLeaves9.mono _ _ _)
      | (with_reducible exact laws_likeTexts9.mono _ _ _)
      | (with_reducible exact spec_CountSchemes.mono _ _ _)
      | (with_reducible exact spec_DrawCountSchemes.mono _ _)
      | (with_reducible exact spec_DrawFindScheme.mono _ _)
      | (with_reducible exact spec_DrawSchemesOf.mono _ _)
      | (with_reducible exact spec_FindScheme.mono _ _ _ _)
      | (with_reducible exact spec_SchemesOf.mono _ _ _)
      | (with_reducible exact LeO.refl _)
      | (with_reducible exact LeO.none _)
      | (with_reducible refine LeO.ite ?_ ?_)
      | (with_reducible refine LeO.bind ?_ (fun _ => ?_))
      | exact ih0 _ _ _ _ _ _ _ _ _ _
      | exact ih1 _ _ _ _
      | exact ih2 _ _ _ _
      | exact impl_CountSchemes.mono _ _ _
      | exact impl_FindScheme.mono _ _ _ _
      | exact impl_FoldSheet.mono _ _ _ _
      | exact impl_IsScheme.mono _ _ _ _
      | exact impl_SchemesOf.mono _ _ _
      | exact laws_likeLeaves9.mono _ _ _
      | exact laws_likeTexts9.mono _ _ _
      | exact spec_CountSchemes.mono _ _ _
      | exact spec_DrawCountSchemes.mono _ _
      | exact spec_DrawFindScheme.mono _ _
      | exact spec_DrawSchemesOf.mono _ _
      | exact spec_FindScheme.mono _ _ _ _
      | exact spec_SchemesOf.mono _ _ _
      | exact LeO.none _
      | refine LeO.ite ?_ ?_
      | refine LeO.bind ?_ (fun _ => ?_)
theorem laws_FnSchemes.mono : ∀ a0 k, LeO (laws_FnSchemes.f k a0) (laws_FnSchemes.f (k + 1) a0) := by
  intro a0 k
  obtain ⟨ih0, ih1, ih2⟩ := laws_FnSchemes.mono_l k
  unfold laws_FnSchemes.f
  repeat' first
      | (with_reducible exact ih0 _ _ _ _ _ _ _ _ _ _)
      | (with_reducible exact ih1 _ _ _ _)
      | (with_reducible exact ih2 _ _ _ _)
      | (with_reducible exact impl_CountSchemes.mono _ _ _)
      | (with_reducible exact impl_FindScheme.mono _ _ _ _)
      | (with_reducible exact impl_FoldSheet.mono _ _ _ _)
      | (with_reducible exact impl_IsScheme.mono _ _ _ _)
      | (with_reducible exact impl_SchemesOf.mono _ _ _)
      | (with_reducible exact laws_likeLeaves9.mono _ _ _)
      | (with_reducible exact laws_likeTexts9.mono _ _ _)
      | (with_reducible exact spec_CountSchemes.mono _ _ _)
      | (with_reducible exact spec_DrawCountSchemes.mono _ _)
      | (with_reducible exact spec_DrawFindScheme.mono _ _)
      | (with_reducible exact spec_DrawSchemesOf.mono _ _)
      | (with_reducible exact spec_FindScheme.mono _ _ _ _)
      | (with_reducible exact spec_SchemesOf.mono _ _ _)
      | (with_reducible exact LeO.refl _)
      | (with_reducible exact LeO.none _)
      | (with_reducible refine LeO.ite ?_ ?_)
      | (with_reducible refine LeO.bind ?_ (fun _ => ?_))
      | exact ih0 _ _ _ _ _ _ _ _ _ _
      | exact ih1 _ _ _ _
      | exact ih2 _ _ _ _
      | exact impl_CountSchemes.mono _ _ _
      | exact impl_FindScheme.mono _ _ _ _
      | exact impl_FoldSheet.mono _ _ _ _
      | exact impl_IsScheme.mono _ _ _ _
      | exact impl_SchemesOf.mono _ _ _
      | exact laws_likeLeaves9.mono _ _ _
      | exact laws_likeTexts9.mono _ _ _
      | exact spec_CountSchemes.mono _ _ _
      | exact spec_DrawCountSchemes.mono _ _
      | exact spec_DrawFindScheme.mono _ _
      | exact spec_DrawSchemesOf.mono _ _
      | exact spec_FindScheme.mono _ _ _ _
      | exact spec_SchemesOf.mono _ _ _
      | exact LeO.none _
      | refine LeO.ite ?_ ?_
      | refine LeO.bind ?_ (fun _ => ?_)
def laws_FnSchemes.T23 : Bool × List (List Nat × List Nat) := (true, [([], []), ([], []), ([], []), ([], []), ([2, 3], [2, 3]), ([4], [4]), ([0, 1, 5], [0, 1, 5]), ([6], [6]), ([7, 6], [7]), ([8], [8]), ([9, 8], [8, 9]), ([10, 8, 8], [8, 10]), ([11], [11]), ([11], [11]), ([12, 13, 11], [11, 12, 13]), ([14, 11], [11, 14]), ([11], [11]), ([11], [11]), ([17, 11], [11, 17]), ([16, 18, 11], [11, 16, 18]), ([19, 11], [11, 19]), ([15, 20, 11], [11, 15, 20]), ([11, 21, 8], [8, 11, 21]), ([8, 22], [8, 22])])
def laws_FnSchemes.B23 : List Nat := [0, 0, 0, 0, 12, 28, 63, 127, 255, 511, 1023, 2047, 4095, 4095, 16383, 32767, 4095, 4095, 135167, 462847, 987135, 2097151, 4194303, 8388607]
theorem laws_FnSchemes.tab23 : rtab .any (opsOf Tryd.f8 23) = laws_FnSchemes.T23 := by kernel_rfl
theorem laws_FnSchemes.bits23 : waitsOk laws_FnSchemes.T23.2 laws_FnSchemes.B23 = true := by kernel_rfl
set_option maxHeartbeats 8000000 in
set_option maxRecDepth 100000 in
theorem laws_FnSchemes.calls (k : Nat) (A0 : Option Addr) (c0 : Nat) (l0 : List Int) (r : Bool) (w : World) (hr0 : Kd.C (Kd.int .u8) w A0 l0.length l0) (hc0 : l0.length ≤ c0) (h : laws_FnSchemes.f k l0 = some r) :
    Calls Tryd.prog 8 #[.slice A0 l0.length c0] w fun e w' => e = .returned (.bool r) ∧ Below w.heap.size w w' := by
  have HR0 := Aside0.mk hr0
  have HC0 := Aside0.mk hc0
  clear hr0 hc0
  have HB := Aside0.mk (Below.refl w.heap.size w)
  have H : ((laws_big.f l0).bind fun t432 => (if t432 = true then (some true) else ((spec_DrawSchemesOf.f k l0).bind fun bt433 => ((impl_SchemesOf.f k bt433.1 bt433.2).bind fun bt435 => ((spec_SchemesOf.f k bt433.1 bt433.2).bind fun bt439 => ((spec_DrawCountSchemes.f k l0).bind fun bt443 => ((impl_CountSchemes.f k bt443.1 bt443.2).bind fun bt445 => ((spec_CountSchemes.f k bt443.1 bt443.2).bind fun bt447 => ((spec_DrawFindScheme.f k l0).bind fun bt449 => ((impl_FindScheme.f k bt449.1 bt449.2.1 bt449.2.2).bind fun bt454 => ((spec_FindScheme.f k bt449.1 bt449.2.1 bt449.2.2).bind fun bt456 => (if bt435.2 = bt439.2 then ((laws_likeTexts9.f k bt435.1 bt439.1).bind fun t458 => (if t458 = true then (if bt445.2 = bt447.2 then (if bt445.1 = bt447.1 then (if bt454.2 = bt456.2 then (laws_FnSchemes.j0 k bt433.1 bt433.2 bt435.1 bt435.2 bt449.1 bt449.2.1 bt449.2.2 bt454.1 bt454.2 (bt454.1.toList != bt456.1.toList)) else (none)) else (none)) else (none)) else (none))) else (none))))))))))))) = some r := h
  clear h
  replace H := Option.bind_eq_some_iff.mp H
  obtain ⟨t432, A20, H⟩ := H
  replace H : (if t432 = true then (some true) else ((spec_DrawSchemesOf.f k l0).bind fun bt433 => ((impl_SchemesOf.f k bt433.1 bt433.2).bind fun bt435 => ((spec_SchemesOf.f k bt433.1 bt433.2).bind fun bt439 => ((spec_DrawCountSchemes.f k l0).bind fun bt443 => ((impl_CountSchemes.f k bt443.1 bt443.2).bind fun bt445 => ((spec_CountSchemes.f k bt443.1 bt443.2).bind fun bt447 => ((spec_DrawFindScheme.f k l0).bind fun bt449 => ((impl_FindScheme.f k bt449.1 bt449.2.1 bt449.2.2).bind fun bt454 => ((spec_FindScheme.f k bt449.1 bt449.2.1 bt449.2.2).bind fun bt456 => (if bt435.2 = bt439.2 then ((laws_likeTexts9.f k bt435.1 bt439.1).bind fun t458 => (if t458 = true then (if bt445.2 = bt447.2 then (if bt445.1 = bt447.1 then (if bt454.2 = bt456.2 then (laws_FnSchemes.j0 k bt433.1 bt433.2 bt435.1 bt435.2 bt449.1 bt449.2.1 bt449.2.2 bt454.1 bt454.2 (bt454.1.toList != bt456.1.toList)) else (none)) else (none)) else (none)) else (none))) else (none)))))))))))) = some r := H
  have A2 := Aside0.mk A20
  clear A20
  by_cases c3 : t432 = true
  · subst c3
    have H1 : (some true) = some r := by rw [if_pos rfl] at H; exact H
    clear H
    have H := H1
    clear H1
    obtain rfl := Option.some.inj H
    go_enter Tryd.func8, Tryd.ntmps8
    go_wp2_with (first | ((with_reducible refine gate_callee (f := 21) rfl ?_); refine goesL_ (some 28) rfl rfl Tryd.func21 (by kernel_rfl) rfl #[.slice A0 l0.length c0] rfl (by (try simp only [List.map_toArray, List.map_cons, List.map_nil]); first | done | rfl | (simp only [List.length_drop, List.length_take]; rfl)) ?_; (with_reducible refine (laws_big.calls _ _ l0 true _ ?side1 ?side2 A2.out).mono ?_); (case side1 => repeat (first | exact HR0.out | (with_reducible refine Kd.C_alloc ?_ _) | (with_reducible refine Kd.C_drewN ?_ _) | (with_reducible refine Kd.C_drew ?_))); (case side2 => exact HC0.out); rintro e w' ⟨rfl, ⟨nd, rfl⟩⟩; refine ⟨_, rfl, ?_⟩))
    go_ret
    exact ⟨by first | rfl | (simp only [Go.IntWalk.i64_left]; first | done | rfl) | (simp [errW_none, errW_some] <;> rfl) | (simp [*, errW_none, errW_some] <;> rfl), by repeat (first | (with_reducible first | exact HB.out | apply below_alloc | apply pw_below_drewN | apply below_drew1) | exact HB.out)⟩
  · replace c3 := Bool.eq_false_iff.mpr c3
    subst c3
    have H1 : ((spec_DrawSchemesOf.f k l0).bind fun bt433 => ((impl_SchemesOf.f k bt433.1 bt433.2).bind fun bt435 => ((spec_SchemesOf.f k bt433.1 bt433.2).bind fun bt439 => ((spec_DrawCountSchemes.f k l0).bind fun bt443 => ((impl_CountSchemes.f k bt443.1 bt443.2).bind fun bt445 => ((spec_CountSchemes.f k bt443.1 bt443.2).bind fun bt447 => ((spec_DrawFindScheme.f k l0).bind fun bt449 => ((impl_FindScheme.f k bt449.1 bt449.2.1 bt449.2.2).bind fun bt454 => ((spec_FindScheme.f k bt449.1 bt449.2.1 bt449.2.2).bind fun bt456 => (if bt435.2 = bt439.2 then ((laws_likeTexts9.f k bt435.1 bt439.1).bind fun t458 => (if t458 = true then (if bt445.2 = bt447.2 then (if bt445.1 = bt447.1 then (if bt454.2 = bt456.2 then (laws_FnSchemes.j0 k bt433.1 bt433.2 bt435.1 bt435.2 bt449.1 bt449.2.1 bt449.2.2 bt454.1 bt454.2 (bt454.1.toList != bt456.1.toList)) else (none)) else (none)) else (none)) else (none))) else (none))))))))))) = some r := by rw [if_neg (show ¬ (false = true) by decide)] at H; exact H
    clear H
    have H := H1
    clear H1
    replace H := Option.bind_eq_some_iff.mp H
    obtain ⟨⟨t433, t434⟩, A40, H⟩ := H
    replace H : ((impl_SchemesOf.f k t433 t434).bind fun bt435 => ((spec_SchemesOf.f k t433 t434).bind fun bt439 => ((spec_DrawCountSchemes.f k l0).bind fun bt443 => ((impl_CountSchemes.f k bt443.1 bt443.2).bind fun bt445 => ((spec_CountSchemes.f k bt443.1 bt443.2).bind fun bt447 => ((spec_DrawFindScheme.f k l0).bind fun bt449 => ((impl_FindScheme.f k bt449.1 bt449.2.1 bt449.2.2).bind fun bt454 => ((spec_FindScheme.f k bt449.1 bt449.2.1 bt449.2.2).bind fun bt456 => (if bt435.2 = bt439.2 then ((laws_likeTexts9.f k bt435.1 bt439.1).bind fun t458 => (if t458 = true then (if bt445.2 = bt447.2 then (if bt445.1 = bt447.1 then (if bt454.2 = bt456.2 then (laws_FnSchemes.j0 k t433 t434 bt435.1 bt435.2 bt449.1 bt449.2.1 bt449.2.2 bt454.1 bt454.2 (bt454.1.toList != bt456.1.toList)) else (none)) else (none)) else (none)) else (none))) else (none)))))))))) = some r := H
    have A4 := Aside0.mk A40
    clear A40
    replace H := Option.bind_eq_some_iff.mp H
    obtain ⟨⟨t435, t436⟩, A50, H⟩ := H
    replace H : ((spec_SchemesOf.f k t433 t434).bind fun bt439 => ((spec_DrawCountSchemes.f k l0).bind fun bt443 => ((impl_CountSchemes.f k bt443.1 bt443.2).bind fun bt445 => ((spec_CountSchemes.f k bt443.1 bt443.2).bind fun bt447 => ((spec_DrawFindScheme.f k l0).bind fun bt449 => ((impl_FindScheme.f k bt449.1 bt449.2.1 bt449.2.2).bind fun bt454 => ((spec_FindScheme.f k bt449.1 bt449.2.1 bt449.2.2).bind fun bt456 => (if t436 = bt439.2 then ((laws_likeTexts9.f k t435 bt439.1).bind fun t458 => (if t458 = true then (if bt445.2 = bt447.2 then (if bt445.1 = bt447.1 then (if bt454.2 = bt456.2 then (laws_FnSchemes.j0 k t433 t434 t435 t436 bt449.1 bt449.2.1 bt449.2.2 bt454.1 bt454.2 (bt454.1.toList != bt456.1.toList)) else (none)) else (none)) else (none)) else (none))) else (none))))))))) = some r := H
    have A5 := Aside0.mk A50
    clear A50
    replace H := Option.bind_eq_some_iff.mp H
    obtain ⟨⟨t439, t440⟩, A60, H⟩ := H
    replace H : ((spec_DrawCountSchemes.f k l0).bind fun bt443 => ((impl_CountSchemes.f k bt443.1 bt443.2).bind fun bt445 => ((spec_CountSchemes.f k bt443.1 bt443.2).bind fun bt447 => ((spec_DrawFindScheme.f k l0).bind fun bt449 => ((impl_FindScheme.f k bt449.1 bt449.2.1 bt449.2.2).bind fun bt454 => ((spec_FindScheme.f k bt449.1 bt449.2.1 bt449.2.2).bind fun bt456 => (if t436 = t440 then ((laws_likeTexts9.f k t435 t439).bind fun t458 => (if t458 = true then (if bt445.2 = bt447.2 then (if bt445.1 = bt447.1 then (if bt454.2 = bt456.2 then (laws_FnSchemes.j0 k t433 t434 t435 t436 bt449.1 bt449.2.1 bt449.2.2 bt454.1 bt454.2 (bt454.1.toList != bt456.1.toList)) else (none)) else (none)) else (none)) else (none))) else (none)))))))) = some r := H
    have A6 := Aside0.mk A60
    clear A60
    replace H := Option.bind_eq_some_iff.mp H
    obtain ⟨⟨t443, t444⟩, A70, H⟩ := H
    replace H : ((impl_CountSchemes.f k t443 t444).bind fun bt445 => ((spec_CountSchemes.f k t443 t444).bind fun bt447 => ((spec_DrawFindScheme.f k l0).bind fun bt449 => ((impl_FindScheme.f k bt449.1 bt449.2.1 bt449.2.2).bind fun bt454 => ((spec_FindScheme.f k bt449.1 bt449.2.1 bt449.2.2).bind fun bt456 => (if t436 = t440 then ((laws_likeTexts9.f k t435 t439).bind fun t458 => (if t458 = true then (if bt445.2 = bt447.2 then (if bt445.1 = bt447.1 then (if bt454.2 = bt456.2 then (laws_FnSchemes.j0 k t433 t434 t435 t436 bt449.1 bt449.2.1 bt449.2.2 bt454.1 bt454.2 (bt454.1.toList != bt456.1.toList)) else (none)) else (none)) else (none)) else (none))) else (none))))))) = some r := H
    have A7 := Aside0.mk A70
    clear A70
    replace H := Option.bind_eq_some_iff.mp H
    obtain ⟨⟨t445, t446⟩, A80, H⟩ := H
    replace H : ((spec_CountSchemes.f k t443 t444).bind fun bt447 => ((spec_DrawFindScheme.f k l0).bind fun bt449 => ((impl_FindScheme.f k bt449.1 bt449.2.1 bt449.2.2).bind fun bt454 => ((spec_FindScheme.f k bt449.1 bt449.2.1 bt449.2.2).bind fun bt456 => (if t436 = t440 then ((laws_likeTexts9.f k t435 t439).bind fun t458 => (if t458 = true then (if t446 = bt447.2 then (if t445 = bt447.1 then (if bt454.2 = bt456.2 then (laws_FnSchemes.j0 k t433 t434 t435 t436 bt449.1 bt449.2.1 bt449.2.2 bt454.1 bt454.2 (bt454.1.toList != bt456.1.toList)) else (none)) else (none)) else (none)) else (none))) else (none)))))) = some r := H
    have A8 := Aside0.mk A80
    clear A80
    replace H := Option.bind_eq_some_iff.mp H
    obtain ⟨⟨t447, t448⟩, A90, H⟩ := H
    replace H : ((spec_DrawFindScheme.f k l0).bind fun bt449 => ((impl_FindScheme.f k bt449.1 bt449.2.1 bt449.2.2).bind fun bt454 => ((spec_FindScheme.f k bt449.1 bt449.2.1 bt449.2.2).bind fun bt456 => (if t436 = t440 then ((laws_likeTexts9.f k t435 t439).bind fun t458 => (if t458 = true then (if t446 = t448 then (if t445 = t447 then (if bt454.2 = bt456.2 then (laws_FnSchemes.j0 k t433 t434 t435 t436 bt449.1 bt449.2.1 bt449.2.2 bt454.1 bt454.2 (bt454.1.toList != bt456.1.toList)) else (none)) else (none)) else (none)) else (none))) else (none))))) = some r := H
    have A9 := Aside0.mk A90
    clear A90
    replace H := Option.bind_eq_some_iff.mp H
    obtain ⟨⟨t449, t450, t451⟩, A100, H⟩ := H
    replace H : ((impl_FindScheme.f k t449 t450 t451).bind fun bt454 => ((spec_FindScheme.f k t449 t450 t451).bind fun bt456 => (if t436 = t440 then ((laws_likeTexts9.f k t435 t439).bind fun t458 => (if t458 = true then (if t446 = t448 then (if t445 = t447 then (if bt454.2 = bt456.2 then (laws_FnSchemes.j0 k t433 t434 t435 t436 t449 t450 t451 bt454.1 bt454.2 (bt454.1.toList != bt456.1.toList)) else (none)) else (none)) else (none)) else (none))) else (none)))) = some r := H
    have A10 := Aside0.mk A100
    clear A100
    replace H := Option.bind_eq_some_iff.mp H
    obtain ⟨⟨t454, t455⟩, A110, H⟩ := H
    replace H : ((spec_FindScheme.f k t449 t450 t451).bind fun bt456 => (if t436 = t440 then ((laws_likeTexts9.f k t435 t439).bind fun t458 => (if t458 = true then (if t446 = t448 then (if t445 = t447 then (if t455 = bt456.2 then (laws_FnSchemes.j0 k t433 t434 t435 t436 t449 t450 t451 t454 t455 (t454.toList != bt456.1.toList)) else (none)) else (none)) else (none)) else (none))) else (none))) = some r := H
    have A11 := Aside0.mk A110
    clear A110
    replace H := Option.bind_eq_some_iff.mp H
    obtain ⟨⟨t456, t457⟩, A120, H⟩ := H
    replace H : (if t436 = t440 then ((laws_likeTexts9.f k t435 t439).bind fun t458 => (if t458 = true then (if t446 = t448 then (if t445 = t447 then (if t455 = t457 then (laws_FnSchemes.j0 k t433 t434 t435 t436 t449 t450 t451 t454 t455 (t454.toList != t456.toList)) else (none)) else (none)) else (none)) else (none))) else (none)) = some r := H
    have A12 := Aside0.mk A120
    clear A120
    have HC13 := Aside0.mk H
    clear H
    go_enter Tryd.func8, Tryd.ntmps8
    go_upto_region 12 with (first | ((with_reducible refine gate_callee (f := 21) rfl ?_); refine goesL_ (some 28) rfl rfl Tryd.func21 (by kernel_rfl) rfl #[.slice A0 l0.length c0] rfl (by (try simp only [List.map_toArray, List.map_cons, List.map_nil]); first | done | rfl | (simp only [List.length_drop, List.length_take]; rfl)) ?_; (with_reducible refine (laws_big.calls _ _ l0 false _ ?side1 ?side2 A2.out).mono ?_); (case side1 => repeat (first | exact HR0.out | (with_reducible refine Kd.C_alloc ?_ _) | (with_reducible refine Kd.C_drewN ?_ _) | (with_reducible refine Kd.C_drew ?_))); (case side2 => exact HC0.out); rintro e w' ⟨rfl, ⟨nd, rfl⟩⟩; refine ⟨_, rfl, ?_⟩) | ((with_reducible refine gate_callee (f := 25) rfl ?_); refine goesL_ (some 31) rfl rfl Tryd.func25 (by kernel_rfl) rfl #[.slice A0 l0.length c0] rfl (by (try simp only [List.map_toArray, List.map_cons, List.map_nil]); first | done | rfl | (simp only [List.length_drop, List.length_take]; rfl)) ?_; (with_reducible refine (spec_DrawSchemesOf.calls k _ _ l0 t433 t434 _ ?side1 ?side2 A4.out).mono ?_); (case side1 => repeat (first | exact HR0.out | (with_reducible refine Kd.C_alloc ?_ _) | (with_reducible refine Kd.C_drewN ?_ _) | (with_reducible refine Kd.C_drew ?_))); (case side2 => exact HC0.out); rintro e w14 ⟨rfl, hb⟩; refine ⟨_, rfl, ?_⟩; have n0_ := Aside0.mk (below_step (by repeat (first | (with_reducible first | exact HB.out | apply below_alloc | apply pw_below_drewN | apply below_drew1) | exact HB.out)) hb); clear HB; have HB := n0_; clear n0_; (try clear hb); (try clear hb2); (try clear hk); (try clear hi)) | ((with_reducible refine gate_callee (f := 26) rfl ?_); refine goesL_ (some 37) rfl rfl Tryd.func26 (by kernel_rfl) rfl #[.int .i64 t433, .int .i64 t434] rfl (by (try simp only [List.map_toArray, List.map_cons, List.map_nil]); first | done | rfl | (simp only [List.length_drop, List.length_take]; rfl)) ?_; (with_reducible refine (impl_SchemesOf.calls k t433 t434 t435 t436 _ A5.out).mono ?_); rintro e w15 ⟨v437, rfl, ho0, hb⟩; refine ⟨_, rfl, ?_⟩; have n0_ := Aside0.mk (Kd.R_lower ho0 (below_size (by repeat (first | (with_reducible first | exact HB.out | apply below_alloc | apply pw_below_drewN | apply below_drew1) | exact HB.out)))); have n1_ := Aside0.mk (below_step (by repeat (first | (with_reducible first | exact HB.out | apply below_alloc | apply pw_below_drewN | apply below_drew1) | exact HB.out)) hb); clear HB; have HO438 := n0_; have HB := n1_; clear n0_ n1_; (try clear hb); (try clear hb2); (try clear hk); (try clear hi); (try clear ho0)) | ((with_reducible refine gate_callee (f := 27) rfl ?_); refine goesL_ (some 43) rfl rfl Tryd.func27 (by kernel_rfl) rfl #[.int .i64 t433, .int .i64 t434] rfl (by (try simp only [List.map_toArray, List.map_cons, List.map_nil]); first | done | rfl | (simp only [List.length_drop, List.length_take]; rfl)) ?_; (with_reducible refine (spec_SchemesOf.calls k t433 t434 t439 t440 _ A6.out).mono ?_); rintro e w16 ⟨v441, rfl, ho0, hb⟩; refine ⟨_, rfl, ?_⟩; have n0_ := Aside0.mk (Kd.R_elder' (by (with_reducible repeat (first | apply Kd.R_alloc | apply Kd.R_drewN | apply Kd.R_drew)); exact HO438.out) (Kd.R_base ho0) hb); have n1_ := Aside0.mk (Kd.R_lower (Kd.R_new' ho0 (Kd.R_lt (by (with_reducible repeat (first | apply Kd.R_alloc | apply Kd.R_drewN | apply Kd.R_drew)); exact HO438.out))) (below_size (by repeat (first | (with_reducible first | exact HB.out | apply below_alloc | apply pw_below_drewN | apply below_drew1) | exact HB.out)))); have n2_ := Aside0.mk (below_step (by repeat (first | (with_reducible first | exact HB.out | apply below_alloc | apply pw_below_drewN | apply below_drew1) | exact HB.out)) hb); clear HO438; clear HB; have HO438 := n0_; have HO442 := n1_; have HB := n2_; clear n0_ n1_ n2_; (try clear hb); (try clear hb2); (try clear hk); (try clear hi); (try clear ho0)) | ((with_reducible refine gate_callee (f := 28) rfl ?_); refine goesL_ (some 48) rfl rfl Tryd.func28 (by kernel_rfl) rfl #[.slice A0 l0.length c0] rfl (by (try simp only [List.map_toArray, List.map_cons, List.map_nil]); first | done | rfl | (simp only [List.length_drop, List.length_take]; rfl)) ?_; (with_reducible refine (spec_DrawCountSchemes.calls k _ _ l0 t443 t444 _ ?side1 ?side2 A7.out).mono ?_); (case side1 => repeat (first | exact (Kd.C_below HR0.out HB.out) | (with_reducible refine Kd.C_alloc ?_ _) | (with_reducible refine Kd.C_drewN ?_ _) | (with_reducible refine Kd.C_drew ?_))); (case side2 => exact HC0.out); rintro e w17 ⟨rfl, hb⟩; refine ⟨_, rfl, ?_⟩; have n0_ := Aside0.mk (Kd.R_below (by (with_reducible repeat (first | apply Kd.R_alloc | apply Kd.R_drewN | apply Kd.R_drew)); exact HO438.out) hb); have n1_ := Aside0.mk (Kd.R_below (by (with_reducible repeat (first | apply Kd.R_alloc | apply Kd.R_drewN | apply Kd.R_drew)); exact HO442.out) hb); have n2_ := Aside0.mk (below_step (by repeat (first | (with_reducible first | exact HB.out | apply below_alloc | apply pw_below_drewN | apply below_drew1) | exact HB.out)) hb); clear HO438; clear HO442; clear HB; have HO438 := n0_; have HO442 := n1_; have HB := n2_; clear n0_ n1_ n2_; (try clear hb); (try clear hb2); (try clear hk); (try clear hi)) | ((with_reducible refine gate_callee (f := 29) rfl ?_); refine goesL_ (some 54) rfl rfl Tryd.func29 (by kernel_rfl) rfl #[.int .i64 t443, .int .i64 t444] rfl (by (try simp only [List.map_toArray, List.map_cons, List.map_nil]); first | done | rfl | (simp only [List.length_drop, List.length_take]; rfl)) ?_; (with_reducible refine (impl_CountSchemes.calls k t443 t444 t445 t446 _ A8.out).mono ?_); rintro e w18 ⟨rfl, hb⟩; refine ⟨_, rfl, ?_⟩; have n0_ := Aside0.mk (Kd.R_below (by (with_reducible repeat (first | apply Kd.R_alloc | apply Kd.R_drewN | apply Kd.R_drew)); exact HO438.out) hb); have n1_ := Aside0.mk (Kd.R_below (by (with_reducible repeat (first | apply Kd.R_alloc | apply Kd.R_drewN | apply Kd.R_drew)); exact HO442.out) hb); have n2_ := Aside0.mk (below_step (by repeat (first | (with_reducible first | exact HB.out | apply below_alloc | apply pw_below_drewN | apply below_drew1) | exact HB.out)) hb); clear HO438; clear HO442; clear HB; have HO438 := n0_; have HO442 := n1_; have HB := n2_; clear n0_ n1_ n2_; (try clear hb); (try clear hb2); (try clear hk); (try clear hi)) | ((with_reducible refine gate_callee (f := 30) rfl ?_); refine goesL_ (some 60) rfl rfl Tryd.func30 (by kernel_rfl) rfl #[.int .i64 t443, .int .i64 t444] rfl (by (try simp only [List.map_toArray, List.map_cons, List.map_nil]); first | done | rfl | (simp only [List.length_drop, List.length_take]; rfl)) ?_; (with_reducible refine (spec_CountSchemes.calls k t443 t444 t447 t448 _ A9.out).mono ?_); rintro e w19 ⟨rfl, hb⟩; refine ⟨_, rfl, ?_⟩; have n0_ := Aside0.mk (Kd.R_below (by (with_reducible repeat (first | apply Kd.R_alloc | apply Kd.R_drewN | apply Kd.R_drew)); exact HO438.out) hb); have n1_ := Aside0.mk (Kd.R_below (by (with_reducible repeat (first | apply Kd.R_alloc | apply Kd.R_drewN | apply Kd.R_drew)); exact HO442.out) hb); have n2_ := Aside0.mk (below_step (by repeat (first | (with_reducible first | exact HB.out | apply below_alloc | apply pw_below_drewN | apply below_drew1) | exact HB.out)) hb); clear HO438; clear HO442; clear HB; have HO438 := n0_; have HO442 := n1_; have HB := n2_; clear n0_ n1_ n2_; (try clear hb); (try clear hb2); (try clear hk); (try clear hi)) | ((with_reducible refine gate_callee (f := 31) rfl ?_); refine goesL_ (some 65) rfl rfl Tryd.func31 (by kernel_rfl) rfl #[.slice A0 l0.length c0] rfl (by (try simp only [List.map_toArray, List.map_cons, List.map_nil]); first | done | rfl | (simp only [List.length_drop, List.length_take]; rfl)) ?_; (with_reducible refine (spec_DrawFindScheme.calls k _ _ l0 t449 t450 t451 _ ?side1 ?side2 A10.out).mono ?_); (case side1 => repeat (first | exact (Kd.C_below HR0.out HB.out) | (with_reducible refine Kd.C_alloc ?_ _) | (with_reducible refine Kd.C_drewN ?_ _) | (with_reducible refine Kd.C_drew ?_))); (case side2 => exact HC0.out); rintro e w20 ⟨v452, rfl, ho0, hb⟩; refine ⟨_, rfl, ?_⟩; have n0_ := Aside0.mk (Kd.R_below (by (with_reducible repeat (first | apply Kd.R_alloc | apply Kd.R_drewN | apply Kd.R_drew)); exact HO438.out) hb); have n1_ := Aside0.mk (Kd.R_below (by (with_reducible repeat (first | apply Kd.R_alloc | apply Kd.R_drewN | apply Kd.R_drew)); exact HO442.out) hb); have n2_ := Aside0.mk (Kd.R_lower ho0 (below_size (by repeat (first | (with_reducible first | exact HB.out | apply below_alloc | apply pw_below_drewN | apply below_drew1) | exact HB.out)))); have n3_ := Aside0.mk (below_step (by repeat (first | (with_reducible first | exact HB.out | apply below_alloc | apply pw_below_drewN | apply below_drew1) | exact HB.out)) hb); clear HO438; clear HO442; clear HB; have HO438 := n0_; have HO442 := n1_; have HO453 := n2_; have HB := n3_; clear n0_ n1_ n2_ n3_; (try clear hb); (try clear hb2); (try clear hk); (try clear hi); (try clear ho0); obtain ⟨Ao21, co21, eo21⟩ := Kd.R_slice HO453.out; subst eo21) | ((with_reducible refine gate_callee (f := 32) rfl ?_); refine goesL_ (some 73) rfl rfl Tryd.func32 (by kernel_rfl) rfl #[.int .i64 t449, .int .i64 t450, .slice Ao21 t451.length co21] rfl (by (try simp only [List.map_toArray, List.map_cons, List.map_nil]); first | done | rfl | (simp only [List.length_drop, List.length_take]; rfl)) ?_; (with_reducible refine (impl_FindScheme.calls k t449 t450 _ _ t451 t454 t455 _ ?side1 ?side2 A11.out).mono ?_); (case side1 => repeat (first | exact (Kd.R_reads' HO453.out).2.2 | (with_reducible refine Kd.C_alloc ?_ _) | (with_reducible refine Kd.C_drewN ?_ _) | (with_reducible refine Kd.C_drew ?_))); (case side2 => exact (Kd.R_reads' HO453.out).2.1); rintro e w22 ⟨rfl, hb⟩; refine ⟨_, rfl, ?_⟩; have n0_ := Aside0.mk (Kd.R_below (by (with_reducible repeat (first | apply Kd.R_alloc | apply Kd.R_drewN | apply Kd.R_drew)); exact HO438.out) hb); have n1_ := Aside0.mk (Kd.R_below (by (with_reducible repeat (first | apply Kd.R_alloc | apply Kd.R_drewN | apply Kd.R_drew)); exact HO442.out) hb); have n2_ := Aside0.mk (Kd.R_below (by (with_reducible repeat (first | apply Kd.R_alloc | apply Kd.R_drewN | apply Kd.R_drew)); exact HO453.out) hb); have n3_ := Aside0.mk (below_step (by repeat (first | (with_reducible first | exact HB.out | apply below_alloc | apply pw_below_drewN | apply below_drew1) | exact HB.out)) hb); clear HO438; clear HO442; clear HO453; clear HB; have HO438 := n0_; have HO442 := n1_; have HO453 := n2_; have HB := n3_; clear n0_ n1_ n2_ n3_; (try clear hb); (try clear hb2); (try clear hk); (try clear hi)) | ((with_reducible refine gate_callee (f := 33) rfl ?_); refine goesL_ (some 80) rfl rfl Tryd.func33 (by kernel_rfl) rfl #[.int .i64 t449, .int .i64 t450, .slice Ao21 t451.length co21] rfl (by (try simp only [List.map_toArray, List.map_cons, List.map_nil]); first | done | rfl | (simp only [List.length_drop, List.length_take]; rfl)) ?_; (with_reducible refine (spec_FindScheme.calls k t449 t450 _ _ t451 t456 t457 _ ?side1 ?side2 A12.out).mono ?_); (case side1 => repeat (first | exact (Kd.R_reads' HO453.out).2.2 | (with_reducible refine Kd.C_alloc ?_ _) | (with_reducible refine Kd.C_drewN ?_ _) | (with_reducible refine Kd.C_drew ?_))); (case side2 => exact (Kd.R_reads' HO453.out).2.1); rintro e w23 ⟨rfl, hb⟩; refine ⟨_, rfl, ?_⟩; have n0_ := Aside0.mk (Kd.R_below (by (with_reducible repeat (first | apply Kd.R_alloc | apply Kd.R_drewN | apply Kd.R_drew)); exact HO438.out) hb); have n1_ := Aside0.mk (Kd.R_below (by (with_reducible repeat (first | apply Kd.R_alloc | apply Kd.R_drewN | apply Kd.R_drew)); exact HO442.out) hb); have n2_ := Aside0.mk (Kd.R_below (by (with_reducible repeat (first | apply Kd.R_alloc | apply Kd.R_drewN | apply Kd.R_drew)); exact HO453.out) hb); have n3_ := Aside0.mk (below_step (by repeat (first | (with_reducible first | exact HB.out | apply below_alloc | apply pw_below_drewN | apply below_drew1) | exact HB.out)) hb); clear HO438; clear HO442; clear HO453; clear HB; have HO438 := n0_; have HO442 := n1_; have HO453 := n2_; have HB := n3_; clear n0_ n1_ n2_ n3_; (try clear hb); (try clear hb2); (try clear hk); (try clear hi)))
    (try simp only [Act.put, List.setIfInBounds_toArray, List.set_cons_zero, List.set_cons_succ])
    go_cut [111] (fun v111 wc => ∃ (kq : Nat) (x111_12 : Bool), v111 = .bool x111_12 ∧ Aside0 (laws_FnSchemes.j0 kq t433 t434 t435 t436 t449 t450 t451 t454 t455 x111_12 = some r) ∧ Aside0 (kq ≤ k) ∧ Aside0 (Kd.R Kd.string 9 wc w.heap.size (fun _ => True) v437 t435) ∧ Aside0 (Kd.R k39 39 wc w.heap.size (fun _ => True) (.slice Ao21 t451.length co21) t451) ∧ Aside0 (Below w.heap.size w wc))
    case first =>
      have H := HC13.out
      clear HC13
      by_cases c24 : t436 = t440
      · rw [if_pos c24] at H
        have c24b0 : (t436 == t440) = true := beq_iff_eq.mpr c24
        have c24b1 : (t436 != t440) = false := bne_eq_false_iff_eq.mpr c24
        clear c24
        (first | rw [c24b0] | (simp only [i64_w, i32_w]; rw [c24b0]) | skip)
        replace H := Option.bind_eq_some_iff.mp H
        obtain ⟨t458, A250, H⟩ := H
        replace H : (if t458 = true then (if t446 = t448 then (if t445 = t447 then (if t455 = t457 then (laws_FnSchemes.j0 k t433 t434 t435 t436 t449 t450 t451 t454 t455 (t454.toList != t456.toList)) else (none)) else (none)) else (none)) else (none)) = some r := H
        have A25 := Aside0.mk A250
        clear A250
        by_cases c26 : t458 = true
        · subst c26
          have H1 : (if t446 = t448 then (if t445 = t447 then (if t455 = t457 then (laws_FnSchemes.j0 k t433 t434 t435 t436 t449 t450 t451 t454 t455 (t454.toList != t456.toList)) else (none)) else (none)) else (none)) = some r := by rw [if_pos rfl] at H; exact H
          clear H
          have H := H1
          clear H1
          by_cases c27 : t446 = t448
          · rw [if_pos c27] at H
            have c27b0 : (t446 == t448) = true := beq_iff_eq.mpr c27
            have c27b1 : (t446 != t448) = false := bne_eq_false_iff_eq.mpr c27
            clear c27
            by_cases c28 : t445 = t447
            · rw [if_pos c28] at H
              have c28b0 : (t445 == t447) = true := beq_iff_eq.mpr c28
              have c28b1 : (t445 != t447) = false := bne_eq_false_iff_eq.mpr c28
              clear c28
              by_cases c29 : t455 = t457
              · rw [if_pos c29] at H
                have c29b0 : (t455 == t457) = true := beq_iff_eq.mpr c29
                have c29b1 : (t455 != t457) = false := bne_eq_false_iff_eq.mpr c29
                clear c29
                have H' := Aside0.mk H
                clear H
                obtain ⟨Ao30, co30, eo30⟩ := Kd.R_slice HO438.out
                subst eo30
                obtain ⟨Ao31, co31, eo31⟩ := Kd.R_slice HO442.out
                subst eo31
                go_wp2_with (first | (go_at_call 34; (with_reducible refine (laws_likeTexts9.calls k _ _ t435 _ _ t439 true _ ?side1 ?side2 ?side3 ?side4 A25.out).mono ?_); (case side1 => repeat (first | exact (Kd.R_reads' HO438.out).2.2 | (with_reducible refine Kd.C_alloc ?_ _) | (with_reducible refine Kd.C_drewN ?_ _) | (with_reducible refine Kd.C_drew ?_))); (case side2 => exact (Kd.R_reads' HO438.out).2.1); (case side3 => repeat (first | exact (Kd.R_reads' HO442.out).2.2 | (with_reducible refine Kd.C_alloc ?_ _) | (with_reducible refine Kd.C_drewN ?_ _) | (with_reducible refine Kd.C_drew ?_))); (case side4 => exact (Kd.R_reads' HO442.out).2.1); rintro e w' ⟨rfl, ⟨nd, rfl⟩⟩))
                go_meet
                case rel => exact ⟨_, ((t454.toList != t456.toList)), (by first | rfl | (simp; done) | (simp [*]; done)), H', ⟨by first | omega | exact Nat.le_refl _⟩, ⟨by (with_reducible repeat (first | apply Kd.R_alloc | apply Kd.R_drewN | apply Kd.R_drew)); exact Kd.R_mono HO438.out (fun _ hk => trivial)⟩, ⟨by (with_reducible repeat (first | apply Kd.R_alloc | apply Kd.R_drewN | apply Kd.R_drew)); exact HO453.out⟩, ⟨by repeat (first | (with_reducible first | exact HB.out | apply below_alloc | apply pw_below_drewN | apply below_drew1) | exact HB.out)⟩⟩
              · rw [if_neg c29] at H
                exact absurd H (by simp)
            · rw [if_neg c28] at H
              exact absurd H (by simp)
          · rw [if_neg c27] at H
            exact absurd H (by simp)
        · replace c26 := Bool.eq_false_iff.mpr c26
          subst c26
          have H1 : (none) = some r := by rw [if_neg (show ¬ (false = true) by decide)] at H; exact H
          clear H
          have H := H1
          clear H1
          exact absurd H (by simp)
      · rw [if_neg c24] at H
        exact absurd H (by simp)
    case rest =>
      clear HC13
      try clear c2
      try clear p2
      try clear c3
      try clear c8
      try clear c21
      try clear c24
      try clear c24b0
      try clear c24b1
      try clear c25
      try clear c26
      try clear c27
      try clear c27b0
      try clear c27b1
      try clear c28
      try clear c28b0
      try clear c28b1
      try clear c29
      try clear c29b0
      try clear c29b1
      try clear c30
      try clear c31
      obtain ⟨kq, x111_12, rfl, HA, HJ12, HO_5, HO_17, HB⟩ := hcut
      cases kq with
      | zero => exact absurd HA.out (by simp [laws_FnSchemes.j0])
      | succ kj12 =>
        have H := HA.out
        clear HA
        simp only [laws_FnSchemes.j0] at H
        by_cases c32 : x111_12 = true
        · subst c32
          have H1 : (none) = some r := by rw [if_pos rfl] at H; exact H
          clear H
          have H := H1
          clear H1
          exact absurd H (by simp)
        · replace c32 := Bool.eq_false_iff.mpr c32
          subst c32
          have H1 : (if t455 = 0 then ((impl_FoldSheet.f kj12 t449 t450 t454).bind fun bt459 => (if bt459.2 = 0 then ((laws_likeLeaves9.f kj12 bt459.1 t451).bind fun t463 => (if t463 = true then (laws_FnSchemes.j1 kj12 t433 t434 t435 t436) else (none))) else (none))) else (laws_FnSchemes.j1 kj12 t433 t434 t435 t436)) = some r := by rw [if_neg (show ¬ (false = true) by decide)] at H; exact H
          clear H
          have H := H1
          clear H1
          have HC33 := Aside0.mk H
          clear H
          go_upto_if 113 with (fail)
          go_cut [] (fun wc => ∃ (kq : Nat), Aside0 (laws_FnSchemes.j1 kq t433 t434 t435 t436 = some r) ∧ Aside0 (kq ≤ kj12) ∧ Aside0 (Kd.R Kd.string 9 wc w.heap.size (fun _ => True) v437 t435) ∧ Aside0 (Below w.heap.size w wc))
          case first =>
            have H := HC33.out
            clear HC33
            by_cases c34 : t455 = 0
            · rw [if_pos c34] at H
              have c34b0 : (t455 == 0) = true := beq_iff_eq.mpr c34
              have c34b1 : (t455 != 0) = false := bne_eq_false_iff_eq.mpr c34
              clear c34
              (first | rw [c34b0] | (simp only [i64_w, i32_w]; rw [c34b0]) | skip)
              replace H := Option.bind_eq_some_iff.mp H
              obtain ⟨⟨t459, t460⟩, A350, H⟩ := H
              replace H : (if t460 = 0 then ((laws_likeLeaves9.f kj12 t459 t451).bind fun t463 => (if t463 = true then (laws_FnSchemes.j1 kj12 t433 t434 t435 t436) else (none))) else (none)) = some r := H
              have A35 := Aside0.mk A350
              clear A350
              by_cases c36 : t460 = 0
              · rw [if_pos c36] at H
                have c36b0 : (t460 == 0) = true := beq_iff_eq.mpr c36
                have c36b1 : (t460 != 0) = false := bne_eq_false_iff_eq.mpr c36
                clear c36
                replace H := Option.bind_eq_some_iff.mp H
                obtain ⟨t463, A370, H⟩ := H
                replace H : (if t463 = true then (laws_FnSchemes.j1 kj12 t433 t434 t435 t436) else (none)) = some r := H
                have A37 := Aside0.mk A370
                clear A370
                by_cases c38 : t463 = true
                · subst c38
                  have H1 : (laws_FnSchemes.j1 kj12 t433 t434 t435 t436) = some r := by rw [if_pos rfl] at H; exact H
                  clear H
                  have H := H1
                  clear H1
                  have H' := Aside0.mk H
                  clear H
                  go_wp2_with (first | ((with_reducible refine gate_callee (f := 17) rfl ?_); refine goesL_ (some 118) rfl rfl Tryd.func17 (by kernel_rfl) rfl #[.int .i64 t449, .int .i64 t450, .string t454] rfl (by (try simp only [List.map_toArray, List.map_cons, List.map_nil]); first | done | rfl | (simp only [List.length_drop, List.length_take]; rfl)) ?_; (with_reducible refine (impl_FoldSheet.calls kj12 t449 t450 t454 t459 t460 _ A35.out).mono ?_); rintro e w39 ⟨v461, rfl, ho0, hb⟩; refine ⟨_, rfl, ?_⟩; have n0_ := Aside0.mk (Kd.R_below (by (with_reducible repeat (first | apply Kd.R_alloc | apply Kd.R_drewN | apply Kd.R_drew)); exact HO_5.out) hb); have n1_ := Aside0.mk (Kd.R_elder' (by (with_reducible repeat (first | apply Kd.R_alloc | apply Kd.R_drewN | apply Kd.R_drew)); exact HO_17.out) (Kd.R_base ho0) hb); have n2_ := Aside0.mk (Kd.R_lower (Kd.R_new' ho0 (Kd.R_lt (by (with_reducible repeat (first | apply Kd.R_alloc | apply Kd.R_drewN | apply Kd.R_drew)); exact HO_17.out))) (below_size (by repeat (first | (with_reducible first | exact HB.out | apply below_alloc | apply pw_below_drewN | apply below_drew1) | exact HB.out)))); have n3_ := Aside0.mk (below_step (by repeat (first | (with_reducible first | exact HB.out | apply below_alloc | apply pw_below_drewN | apply below_drew1) | exact HB.out)) hb); clear HO_5; clear HO_17; clear HB; have HO_5 := n0_; have HO_17 := n1_; have HO462 := n2_; have HB := n3_; clear n0_ n1_ n2_ n3_; (try clear hb); (try clear hb2); (try clear hk); (try clear hi); (try clear ho0); obtain ⟨Ao40, co40, eo40⟩ := Kd.R_slice HO462.out; subst eo40) | (go_at_call 24; (with_reducible refine (laws_likeLeaves9.calls kj12 _ _ t459 _ _ t451 true _ ?side1 ?side2 ?side3 ?side4 A37.out).mono ?_); (case side1 => repeat (first | exact (Kd.R_reads' HO462.out).2.2 | (with_reducible refine Kd.C_alloc ?_ _) | (with_reducible refine Kd.C_drewN ?_ _) | (with_reducible refine Kd.C_drew ?_))); (case side2 => exact (Kd.R_reads' HO462.out).2.1); (case side3 => repeat (first | exact (Kd.R_reads' HO_17.out).2.2 | (with_reducible refine Kd.C_alloc ?_ _) | (with_reducible refine Kd.C_drewN ?_ _) | (with_reducible refine Kd.C_drew ?_))); (case side4 => exact (Kd.R_reads' HO_17.out).2.1); rintro e w' ⟨rfl, ⟨nd, rfl⟩⟩))
                  go_meet
                  case rel => exact ⟨_, H', ⟨by have := HJ12.out; first | omega | exact Nat.le_refl _⟩, ⟨by (with_reducible repeat (first | apply Kd.R_alloc | apply Kd.R_drewN | apply Kd.R_drew)); exact HO_5.out⟩, ⟨by repeat (first | (with_reducible first | exact HB.out | apply below_alloc | apply pw_below_drewN | apply below_drew1) | exact HB.out)⟩⟩
                · replace c38 := Bool.eq_false_iff.mpr c38
                  subst c38
                  have H1 : (none) = some r := by rw [if_neg (show ¬ (false = true) by decide)] at H; exact H
                  clear H
                  have H := H1
                  clear H1
                  exact absurd H (by simp)
              · rw [if_neg c36] at H
                exact absurd H (by simp)
            · rw [if_neg c34] at H
              have c34b0 : (t455 == 0) = false := beq_eq_false_iff_ne.mpr c34
              have c34b1 : (t455 != 0) = true := bne_iff_ne.mpr c34
              (first | rw [c34b0] | (simp only [i64_w, i32_w]; rw [c34b0]) | skip)
              have H' := Aside0.mk H
              clear H
              go_wp2
              go_meet
              case rel => exact ⟨_, H', ⟨by have := HJ12.out; first | omega | exact Nat.le_refl _⟩, ⟨by (with_reducible repeat (first | apply Kd.R_alloc | apply Kd.R_drewN | apply Kd.R_drew)); exact HO_5.out⟩, ⟨by repeat (first | (with_reducible first | exact HB.out | apply below_alloc | apply pw_below_drewN | apply below_drew1) | exact HB.out)⟩⟩
          case rest =>
            clear HC33
            try clear c1
            try clear c2
            try clear p2
            try clear c3
            try clear c8
            try clear c17
            try clear c21
            try clear c24
            try clear c24b0
            try clear c24b1
            try clear c25
            try clear c26
            try clear c27
            try clear c27b0
            try clear c27b1
            try clear c28
            try clear c28b0
            try clear c28b1
            try clear c29
            try clear c29b0
            try clear c29b1
            try clear c30
            try clear c31
            try clear c32
            try clear c33
            try clear c34
            try clear c34b0
            try clear c34b1
            try clear c36
            try clear c36b0
            try clear c36b1
            try clear c38
            try clear p2
            obtain ⟨kq, HA, HJ32, HO_5, HB⟩ := hcut
            cases kq with
            | zero => exact absurd HA.out (by simp [laws_FnSchemes.j1])
            | succ kj32 =>
              have H := HA.out
              clear HA
              simp only [laws_FnSchemes.j1] at H
              by_cases c41 : t436 = 0
              · rw [if_pos c41] at H
                have c41b0 : (t436 == 0) = true := beq_iff_eq.mpr c41
                have c41b1 : (t436 != 0) = false := bne_eq_false_iff_eq.mpr c41
                clear c41
                have H' := Aside0.mk H
                clear H
                go_wp2
                go_loopg [24] kj32 (fun kq v24 w' => ∃ (x24_3 : Int), v24 = .int .i64 x24_3 ∧ Aside0 (laws_FnSchemes.l0 kq t433 t434 t435 x24_3 = some r) ∧ Aside0 (kq ≤ kj32) ∧ Aside0 (Kd.R Kd.string 9 w' w.heap.size (fun _ => True) v437 t435) ∧ Aside0 (Below w.heap.size w w'))
                case atStart => exact ⟨(0), (by first | rfl | (simp; done) | (simp [*]; done)), H', ⟨Nat.le_refl _⟩, ⟨by (with_reducible repeat (first | apply Kd.R_alloc | apply Kd.R_drewN | apply Kd.R_drew)); exact HO_5.out⟩, ⟨by repeat (first | (with_reducible first | exact HB.out | apply below_alloc | apply pw_below_drewN | apply below_drew1) | exact HB.out)⟩⟩
                case round =>
                  clear H'
                  try clear c1
                  try clear c2
                  try clear p2
                  try clear c3
                  try clear c4
                  try clear c8
                  try clear c17
                  try clear c21
                  try clear c24
                  try clear c24b0
                  try clear c24b1
                  try clear c25
                  try clear c26
                  try clear c27
                  try clear c27b0
                  try clear c27b1
                  try clear c28
                  try clear c28b0
                  try clear c28b1
                  try clear c29
                  try clear c29b0
                  try clear c29b1
                  try clear c30
                  try clear c31
                  try clear c32
                  try clear c33
                  try clear c34
                  try clear c34b0
                  try clear c34b1
                  try clear c36
                  try clear c36b0
                  try clear c36b1
                  try clear c38
                  try clear c41
                  try clear c41b0
                  try clear c41b1
                  try clear p2
                  obtain ⟨x24_3, rfl, HA, HK3, HO_5, HB⟩ := hrel
                  cases gk with
                  | zero => exact absurd HA.out (by simp [laws_FnSchemes.l0])
                  | succ k3 =>
                    have H := HA.out
                    clear HA
                    simp only [laws_FnSchemes.l0] at H
                    by_cases c42 : x24_3 < (t435.length : Int)
                    · rw [if_pos c42] at H
                      have c42b0 : decide (x24_3 < (t435.length : Int)) = true := decide_eq_true c42
                      clear c42
                      by_cases c43 : 0 ≤ x24_3
                      · rw [if_pos c43] at H
                        have c43b0 : decide (0 ≤ x24_3) = true := decide_eq_true c43
                        clear c43
                        replace H := Option.bind_eq_some_iff.mp H
                        obtain ⟨t465, A440, H⟩ := H
                        replace H : (if t465 = true then (if x24_3 > 0 then (if 0 ≤ (wrap64 (x24_3 - 1)) then (if (wrap64 (x24_3 - 1)) < (t435.length : Int) then (if ((Op.bytesLess ((rdOf ByteArray.empty t435 (wrap64 (x24_3 - 1))).toList) ((rdOf ByteArray.empty t435 x24_3).toList)) = true) then (laws_FnSchemes.l0 k3 t433 t434 t435 (wrap64 (x24_3 + 1))) else (none)) else (none)) else (none)) else (laws_FnSchemes.l0 k3 t433 t434 t435 (wrap64 (x24_3 + 1)))) else (none)) = some r := H
                        have A44 := Aside0.mk A440
                        clear A440
                        by_cases c45 : t465 = true
                        · subst c45
                          have H1 : (if x24_3 > 0 then (if 0 ≤ (wrap64 (x24_3 - 1)) then (if (wrap64 (x24_3 - 1)) < (t435.length : Int) then (if ((Op.bytesLess ((rdOf ByteArray.empty t435 (wrap64 (x24_3 - 1))).toList) ((rdOf ByteArray.empty t435 x24_3).toList)) = true) then (laws_FnSchemes.l0 k3 t433 t434 t435 (wrap64 (x24_3 + 1))) else (none)) else (none)) else (none)) else (laws_FnSchemes.l0 k3 t433 t434 t435 (wrap64 (x24_3 + 1)))) = some r := by rw [if_pos rfl] at H; exact H
                          clear H
                          have H := H1
                          clear H1
                          by_cases c46 : x24_3 > 0
                          · rw [if_pos c46] at H
                            have c46b0 : decide (0 < x24_3) = true := decide_eq_true c46
                            clear c46
                            obtain ⟨ji47, hji47⟩ : ∃ j_ : Int, (wrap64 (x24_3 - 1)) = j_ := ⟨_, rfl⟩
                            replace H : (if 0 ≤ (ji47) then (if (ji47) < (t435.length : Int) then (if ((Op.bytesLess ((rdOf ByteArray.empty t435 (ji47)).toList) ((rdOf ByteArray.empty t435 x24_3).toList)) = true) then (laws_FnSchemes.l0 k3 t433 t434 t435 (wrap64 (x24_3 + 1))) else (none)) else (none)) else (none)) = some r := by first | (rw [hji47] at H; exact H) | (simp only [hji47] at H ⊢; exact H)
                            (try rw [hji47] at A44)
                            have hji47w : (IntKind.i64.wrap (x24_3 - 1)) = ji47 := (i64_w _).trans hji47
                            by_cases c48 : 0 ≤ (ji47)
                            · rw [if_pos c48] at H
                              have c48b0 : decide (0 ≤ (ji47)) = true := decide_eq_true c48
                              clear c48
                              by_cases c49 : (ji47) < (t435.length : Int)
                              · rw [if_pos c49] at H
                                have c49b0 : decide ((ji47) < (t435.length : Int)) = true := decide_eq_true c49
                                clear c49
                                by_cases c50 : ((Op.bytesLess ((rdOf ByteArray.empty t435 (ji47)).toList) ((rdOf ByteArray.empty t435 x24_3).toList)) = true)
                                · rw [if_pos c50] at H
                                  have c50b0 : (Op.bytesLess ((rdOf ByteArray.empty t435 (ji47)).toList) ((rdOf ByteArray.empty t435 x24_3).toList)) = true := c50
                                  clear c50
                                  have H' := Aside0.mk H
                                  clear H
                                  obtain ⟨Ao51, co51, eo51⟩ := Kd.R_slice HO_5.out
                                  subst eo51
                                  try go_wp2
                                  have n0_ := Aside0.mk (Kd.R_drew HO_5.out)
                                  have n1_ := Aside0.mk (below_drew1 HB.out)
                                  clear HO_5
                                  clear HB
                                  have HO_5 := n0_
                                  have HB := n1_
                                  clear n0_ n1_
                                  have p464 : 0 ≤ (x24_3 : Int) := of_decide_eq_true (by first | (with_reducible assumption) | assumption)
                                  have q464 : x24_3 < (t435.length : Int) := of_decide_eq_true (by first | (with_reducible assumption) | assumption)
                                  obtain ⟨ad464, e464, hx464_0⟩ := Kd.at_string (Kd.R_reads' HO_5.out).2.2 x24_3 p464 q464
                                  cases e464
                                  replace p464 := eq_true p464
                                  replace q464 := eq_true q464
                                  have p466 : 0 ≤ (x24_3 : Int) := of_decide_eq_true (by first | (with_reducible assumption) | assumption)
                                  have q466 : x24_3 < (t435.length : Int) := of_decide_eq_true (by first | (with_reducible assumption) | assumption)
                                  obtain ⟨ad466, e466, hx466_0⟩ := Kd.at_string (Kd.R_reads' HO_5.out).2.2 x24_3 p466 q466
                                  obtain rfl : ad464 = ad466 := (by injection e466)
                                  replace p466 := eq_true p466
                                  replace q466 := eq_true q466
                                  have p467 : 0 ≤ ((ji47) : Int) := of_decide_eq_true (by first | (with_reducible assumption) | assumption)
                                  have q467 : (ji47) < (t435.length : Int) := of_decide_eq_true (by first | (with_reducible assumption) | assumption)
                                  obtain ⟨ad467, e467, hx467_0⟩ := Kd.at_string (Kd.R_reads' HO_5.out).2.2 (ji47) p467 q467
                                  obtain rfl : ad464 = ad467 := (by injection e467)
                                  replace p467 := eq_true p467
                                  replace q467 := eq_true q467
                                  refine start_ (n := 24) (S := fun w' => w'.cell? (ad464.add (x24_3).toNat) = some (.string (rdOf ByteArray.empty t435 x24_3)) ∧ w'.cell? (ad464.add (x24_3).toNat) = some (.string (rdOf ByteArray.empty t435 x24_3)) ∧ w'.cell? (ad464.add ((ji47)).toNat) = some (.string (rdOf ByteArray.empty t435 (ji47)))) (ds := []) #[false, false, false, false, false, false, false, false, false, false, false, false, false, false, false, false, false, false, false, false, false, false, false, false] (by kernel_rfl) rfl rfl ⟨hx464_0, hx466_0, hx467_0⟩ (fun hHeld => ?_); refine with_tabW laws_FnSchemes.tab23 laws_FnSchemes.bits23 (fun HT_ HW_ => ?_)
                                  generalize wr.drew = w52 at HO_5 HB hx464_0 hx466_0 hx467_0 hHeld ⊢
                                  refine pure_ (i := 0) (N := some 137) (v := ?_) (a' := ?_) #[true, false, false, false, false, false, false, false, false, false, false, false, false, false, false, false, false, false, false, false, false, false, false, false] rfl rfl (any_of HT_.out (by kernel_rfl)) (fun _ _ _ h => h) (Or.inl ⟨by rfl, ?_⟩) ?_ ?_
                                  rotate_left
                                  · intro w'
                                    go_simp
                                    with_reducible rfl
                                  rotate_left
                                  · simp only [Act.put, List.setIfInBounds_toArray, List.set_cons_zero, List.set_cons_succ, i64_w, i32_w]
                                    rfl
                                  refine pure_ (i := 1) (N := some 138) (v := ?_) (a' := ?_) #[true, true, false, false, false, false, false, false, false, false, false, false, false, false, false, false, false, false, false, false, false, false, false, false] rfl rfl (any_of HT_.out (by kernel_rfl)) (fun _ _ _ h => h) (Or.inl ⟨by rfl, ?_⟩) ?_ ?_
                                  rotate_left
                                  · intro w'
                                    go_simp
                                    with_reducible rfl
                                  rotate_left
                                  · simp only [Act.put, List.setIfInBounds_toArray, List.set_cons_zero, List.set_cons_succ, i64_w, i32_w]
                                    rfl
                                  refine pure_ (i := 2) (N := some 139) (v := ?_) (a' := ?_) #[true, true, true, false, false, false, false, false, false, false, false, false, false, false, false, false, false, false, false, false, false, false, false, false] rfl rfl (any_of HT_.out (by kernel_rfl)) (fun _ _ _ h => h) (Or.inl ⟨by rfl, ?_⟩) ?_ ?_
                                  rotate_left
                                  · intro w'
                                    go_simp
                                    with_reducible rfl
                                  rotate_left
                                  · simp only [Act.put, List.setIfInBounds_toArray, List.set_cons_zero, List.set_cons_succ, i64_w, i32_w]
                                    rfl
                                  refine pure_ (i := 3) (N := some 140) (v := ?_) (a' := ?_) #[true, true, true, true, false, false, false, false, false, false, false, false, false, false, false, false, false, false, false, false, false, false, false, false] rfl rfl (any_of HT_.out (by kernel_rfl)) (fun _ _ _ h => h) (Or.inl ⟨by rfl, ?_⟩) ?_ ?_
                                  rotate_left
                                  · intro w'
                                    go_simp
                                    with_reducible rfl
                                  rotate_left
                                  · simp only [Act.put, List.setIfInBounds_toArray, List.set_cons_zero, List.set_cons_succ, i64_w, i32_w]
                                    rfl
                                  refine pure_ (i := 4) (N := some 141) (v := ?_) (a' := ?_) #[true, true, true, true, true, false, false, false, false, false, false, false, false, false, false, false, false, false, false, false, false, false, false, false] rfl rfl (any_of HT_.out (by kernel_rfl)) (fun _ _ _ h => h) (Or.inl ⟨by rfl, ?_⟩) ?_ ?_
                                  rotate_left
                                  · intro w'
                                    go_simp
                                    with_reducible rfl
                                  rotate_left
                                  · simp only [Act.put, List.setIfInBounds_toArray, List.set_cons_zero, List.set_cons_succ, i64_w, i32_w]
                                    rfl
                                  refine take_ (i := 5) (N := some 142) (v := ?_) (a' := ?_) #[true, true, true, true, true, true, false, false, false, false, false, false, false, false, false, false, false, false, false, false, false, false, false, false] rfl rfl (take_ofW HT_.out HW_.out (by kernel_rfl)) (fun _ _ _ h => h) (Or.inl ⟨by rfl, ?_⟩) hHeld ?_ ?_
                                  rotate_left
                                  · rintro w' ⟨s0, s1, s2⟩
                                    go_simp
                                    with_reducible rfl
                                  rotate_left
                                  · simp only [Act.put, List.setIfInBounds_toArray, List.set_cons_zero, List.set_cons_succ, i64_w, i32_w]
                                    rfl
                                  refine one_ (i := 6) (N := some 143) #[true, true, true, true, true, true, true, false, false, false, false, false, false, false, false, false, false, false, false, false, false, false, false, false] rfl rfl (one_of HT_.out (by kernel_rfl)) (by decide) (fun K hK => ?_)
                                  refine goes_ Tryd.func11 (by kernel_rfl) rfl #[.int .i64 t433, .int .i64 t434, .string (rdOf ByteArray.empty t435 x24_3)] (by rfl) rfl rfl (by (try simp only [List.map_toArray, List.map_cons, List.map_nil]); first | done | rfl | (simp only [List.length_drop, List.length_take]; rfl)) ?_
                                  with_reducible refine (impl_IsScheme.calls k3 t433 t434 (rdOf ByteArray.empty t435 x24_3) true _ A44.out).mono ?_
                                  rintro e w53 ⟨rfl, hb⟩
                                  have HS0_ := (hb.cell (World.block_lt_of_cell? _ _ (hHeld.1))).trans (hHeld.1)
                                  have HS1_ := (hb.cell (World.block_lt_of_cell? _ _ (hHeld.2.1))).trans (hHeld.2.1)
                                  have HS2_ := (hb.cell (World.block_lt_of_cell? _ _ (hHeld.2.2))).trans (hHeld.2.2)
                                  refine ⟨_, rfl, ?_⟩
                                  have n0_ := Aside0.mk (Kd.R_below (by (with_reducible repeat (first | apply Kd.R_alloc | apply Kd.R_drewN | apply Kd.R_drew)); exact HO_5.out) hb)
                                  have n1_ := Aside0.mk (below_step (by repeat (first | (with_reducible first | exact HB.out | apply below_alloc | apply pw_below_drewN | apply below_drew1) | exact HB.out)) hb)
                                  clear HO_5
                                  clear HB
                                  have HO_5 := n0_
                                  have HB := n1_
                                  clear n0_ n1_
                                  (try clear hb)
                                  (try clear hb2)
                                  (try clear hk)
                                  (try clear hi)
                                  refine hK.out _ _ ⟨HS0_, HS1_, HS2_⟩ (fun hHeld => ?_)
                                  clear hK K
                                  refine norm_ (a' := ?_) ?_ ?_
                                  rotate_left
                                  · show Act.put _ (some 143) _ = _
                                    simp only [Act.put, List.setIfInBounds_toArray, List.set_cons_zero, List.set_cons_succ, i64_w, i32_w]
                                    rfl
                                  refine pure_ (i := 7) (N := some 144) (v := ?_) (a' := ?_) #[true, true, true, true, true, true, true, true, false, false, false, false, false, false, false, false, false, false, false, false, false, false, false, false] rfl rfl (any_of HT_.out (by kernel_rfl)) (fun _ _ _ h => h) (Or.inl ⟨by rfl, ?_⟩) ?_ ?_
                                  rotate_left
                                  · intro w'
                                    go_simp
                                    with_reducible rfl
                                  rotate_left
                                  · simp only [Act.put, List.setIfInBounds_toArray, List.set_cons_zero, List.set_cons_succ, i64_w, i32_w]
                                    rfl
                                  refine pure_ (i := 8) (N := some 145) (v := ?_) (a' := ?_) #[true, true, true, true, true, true, true, true, true, false, false, false, false, false, false, false, false, false, false, false, false, false, false, false] rfl rfl (any_of HT_.out (by kernel_rfl)) (fun _ _ _ h => h) (Or.inl ⟨by rfl, ?_⟩) ?_ ?_
                                  rotate_left
                                  · intro w'
                                    go_simp
                                    with_reducible rfl
                                  rotate_left
                                  · simp only [Act.put, List.setIfInBounds_toArray, List.set_cons_zero, List.set_cons_succ, i64_w, i32_w]
                                    rfl
                                  refine pure_ (i := 9) (N := some 146) (v := ?_) (a' := ?_) #[true, true, true, true, true, true, true, true, true, true, false, false, false, false, false, false, false, false, false, false, false, false, false, false] rfl rfl (any_of HT_.out (by kernel_rfl)) (fun _ _ _ h => h) (Or.inl ⟨by rfl, ?_⟩) ?_ ?_
                                  rotate_left
                                  · intro w'
                                    go_simp
                                    with_reducible rfl
                                  rotate_left
                                  · simp only [Act.put, List.setIfInBounds_toArray, List.set_cons_zero, List.set_cons_succ, i64_w, i32_w]
                                    rfl
                                  refine pure_ (i := 10) (N := some 147) (v := ?_) (a' := ?_) #[true, true, true, true, true, true, true, true, true, true, true, false, false, false, false, false, false, false, false, false, false, false, false, false] rfl rfl (any_of HT_.out (by kernel_rfl)) (fun _ _ _ h => h) (Or.inl ⟨by rfl, ?_⟩) ?_ ?_
                                  rotate_left
                                  · intro w'
                                    go_simp
                                    with_reducible rfl
                                  rotate_left
                                  · simp only [Act.put, List.setIfInBounds_toArray, List.set_cons_zero, List.set_cons_succ, i64_w, i32_w]
                                    rfl
                                  refine pure_ (i := 11) (N := some 148) (v := ?_) (a' := ?_) #[true, true, true, true, true, true, true, true, true, true, true, true, false, false, false, false, false, false, false, false, false, false, false, false] rfl rfl (any_of HT_.out (by kernel_rfl)) (fun _ _ _ h => h) (Or.inl ⟨by rfl, ?_⟩) ?_ ?_
                                  rotate_left
                                  · intro w'
                                    go_simp
                                    with_reducible rfl
                                  rotate_left
                                  · simp only [Act.put, List.setIfInBounds_toArray, List.set_cons_zero, List.set_cons_succ, i64_w, i32_w]
                                    rfl
                                  refine pure_ (i := 12) (N := some 149) (v := ?_) (a' := ?_) #[true, true, true, true, true, true, true, true, true, true, true, true, true, false, false, false, false, false, false, false, false, false, false, false] rfl rfl (any_of HT_.out (by kernel_rfl)) (fun _ _ _ h => h) (Or.inl ⟨by rfl, ?_⟩) ?_ ?_
                                  rotate_left
                                  · intro w'
                                    go_simp
                                    with_reducible rfl
                                  rotate_left
                                  · simp only [Act.put, List.setIfInBounds_toArray, List.set_cons_zero, List.set_cons_succ, i64_w, i32_w]
                                    rfl
                                  refine pure_ (i := 13) (N := some 150) (v := ?_) (a' := ?_) #[true, true, true, true, true, true, true, true, true, true, true, true, true, true, false, false, false, false, false, false, false, false, false, false] rfl rfl (any_of HT_.out (by kernel_rfl)) (fun _ _ _ h => h) (Or.inl ⟨by rfl, ?_⟩) ?_ ?_
                                  rotate_left
                                  · intro w'
                                    go_simp
                                    with_reducible rfl
                                  rotate_left
                                  · simp only [Act.put, List.setIfInBounds_toArray, List.set_cons_zero, List.set_cons_succ, i64_w, i32_w]
                                    rfl
                                  refine pure_ (i := 14) (N := some 151) (v := ?_) (a' := ?_) #[true, true, true, true, true, true, true, true, true, true, true, true, true, true, true, false, false, false, false, false, false, false, false, false] rfl rfl (any_of HT_.out (by kernel_rfl)) (fun _ _ _ h => h) (Or.inl ⟨by rfl, ?_⟩) ?_ ?_
                                  rotate_left
                                  · intro w'
                                    go_simp
                                    with_reducible rfl
                                  rotate_left
                                  · simp only [Act.put, List.setIfInBounds_toArray, List.set_cons_zero, List.set_cons_succ, i64_w, i32_w]
                                    rfl
                                  refine pure_ (i := 16) (N := some 153) (v := ?_) (a' := ?_) #[true, true, true, true, true, true, true, true, true, true, true, true, true, true, true, false, true, false, false, false, false, false, false, false] rfl rfl (any_of HT_.out (by kernel_rfl)) (fun _ _ _ h => h) (Or.inl ⟨by rfl, ?_⟩) ?_ ?_
                                  rotate_left
                                  · intro w'
                                    go_simp
                                    with_reducible rfl
                                  rotate_left
                                  · simp only [Act.put, List.setIfInBounds_toArray, List.set_cons_zero, List.set_cons_succ, i64_w, i32_w]
                                    rfl
                                  refine pure_ (i := 17) (N := some 154) (v := ?_) (a' := ?_) #[true, true, true, true, true, true, true, true, true, true, true, true, true, true, true, false, true, true, false, false, false, false, false, false] rfl rfl (any_of HT_.out (by kernel_rfl)) (fun _ _ _ h => h) (Or.inl ⟨by rfl, ?_⟩) ?_ ?_
                                  rotate_left
                                  · intro w'
                                    go_simp
                                    with_reducible rfl
                                  rotate_left
                                  · simp only [Act.put, List.setIfInBounds_toArray, List.set_cons_zero, List.set_cons_succ, i64_w, i32_w]
                                    rfl
                                  refine pure_ (i := 18) (N := some 155) (v := ?_) (a' := ?_) #[true, true, true, true, true, true, true, true, true, true, true, true, true, true, true, false, true, true, true, false, false, false, false, false] rfl rfl (any_of HT_.out (by kernel_rfl)) (fun _ _ _ h => h) (Or.inl ⟨by rfl, ?_⟩) ?_ ?_
                                  rotate_left
                                  · intro w'
                                    go_simp
                                    with_reducible rfl
                                  rotate_left
                                  · simp only [Act.put, List.setIfInBounds_toArray, List.set_cons_zero, List.set_cons_succ, i64_w, i32_w]
                                    rfl
                                  refine pure_ (i := 19) (N := some 156) (v := ?_) (a' := ?_) #[true, true, true, true, true, true, true, true, true, true, true, true, true, true, true, false, true, true, true, true, false, false, false, false] rfl rfl (any_of HT_.out (by kernel_rfl)) (fun _ _ _ h => h) (Or.inl ⟨by rfl, ?_⟩) ?_ ?_
                                  rotate_left
                                  · intro w'
                                    go_simp
                                    with_reducible rfl
                                  rotate_left
                                  · simp only [Act.put, List.setIfInBounds_toArray, List.set_cons_zero, List.set_cons_succ, i64_w, i32_w]
                                    rfl
                                  refine take_ (i := 15) (N := some 152) (v := ?_) (a' := ?_) #[true, true, true, true, true, true, true, true, true, true, true, true, true, true, true, true, true, true, true, true, false, false, false, false] rfl rfl (take_ofW HT_.out HW_.out (by kernel_rfl)) (fun _ _ _ h => h) (Or.inl ⟨by rfl, ?_⟩) hHeld ?_ ?_
                                  rotate_left
                                  · rintro w' ⟨s0, s1, s2⟩
                                    go_simp
                                    with_reducible rfl
                                  rotate_left
                                  · simp only [Act.put, List.setIfInBounds_toArray, List.set_cons_zero, List.set_cons_succ, i64_w, i32_w]
                                    rfl
                                  refine take_ (i := 20) (N := some 157) (v := ?_) (a' := ?_) #[true, true, true, true, true, true, true, true, true, true, true, true, true, true, true, true, true, true, true, true, true, false, false, false] rfl rfl (take_ofW HT_.out HW_.out (by kernel_rfl)) (fun _ _ _ h => h) (Or.inl ⟨by rfl, ?_⟩) hHeld ?_ ?_
                                  rotate_left
                                  · rintro w' ⟨s0, s1, s2⟩
                                    go_simp
                                    with_reducible rfl
                                  rotate_left
                                  · simp only [Act.put, List.setIfInBounds_toArray, List.set_cons_zero, List.set_cons_succ, i64_w, i32_w]
                                    rfl
                                  refine pure_ (i := 21) (N := some 158) (v := ?_) (a' := ?_) #[true, true, true, true, true, true, true, true, true, true, true, true, true, true, true, true, true, true, true, true, true, true, false, false] rfl rfl (any_of HT_.out (by kernel_rfl)) (fun _ _ _ h => h) (Or.inl ⟨by rfl, ?_⟩) ?_ ?_
                                  rotate_left
                                  · intro w'
                                    go_simp
                                    with_reducible rfl
                                  rotate_left
                                  · simp only [Act.put, List.setIfInBounds_toArray, List.set_cons_zero, List.set_cons_succ, i64_w, i32_w]
                                    rfl
                                  refine pure_ (i := 22) (N := some 159) (v := ?_) (a' := ?_) #[true, true, true, true, true, true, true, true, true, true, true, true, true, true, true, true, true, true, true, true, true, true, true, false] rfl rfl (any_of HT_.out (by kernel_rfl)) (fun _ _ _ h => h) (Or.inl ⟨by rfl, ?_⟩) ?_ ?_
                                  rotate_left
                                  · intro w'
                                    go_simp
                                    with_reducible rfl
                                  rotate_left
                                  · simp only [Act.put, List.setIfInBounds_toArray, List.set_cons_zero, List.set_cons_succ, i64_w, i32_w]
                                    rfl
                                  refine pure_ (i := 23) (N := some 160) (v := ?_) (a' := ?_) #[true, true, true, true, true, true, true, true, true, true, true, true, true, true, true, true, true, true, true, true, true, true, true, true] rfl rfl (any_of HT_.out (by kernel_rfl)) (fun _ _ _ h => h) (Or.inl ⟨by rfl, ?_⟩) ?_ ?_
                                  rotate_left
                                  · intro w'
                                    go_simp
                                    with_reducible rfl
                                  rotate_left
                                  · simp only [Act.put, List.setIfInBounds_toArray, List.set_cons_zero, List.set_cons_succ, i64_w, i32_w]
                                    rfl
                                  refine done_ (done_of HT_.out (by kernel_rfl)) ?_
                                  try go_wp2
                                  go_roundg k3
                                  case measure => have := HJ12.out; have := HJ32.out; have := HK3.out; omega
                                  case rel => exact ⟨(wrap64 (x24_3 + 1)), (by first | rfl | (simp; done) | (simp [*]; done)), H', ⟨by have := HJ12.out; have := HJ32.out; have := HK3.out; omega⟩, ⟨by (with_reducible repeat (first | apply Kd.R_alloc | apply Kd.R_drewN | apply Kd.R_drew)); exact HO_5.out⟩, ⟨by repeat (first | (with_reducible first | exact HB.out | apply below_alloc | apply pw_below_drewN | apply below_drew1) | exact HB.out)⟩⟩
                                · rw [if_neg c50] at H
                                  exact absurd H (by simp)
                              · rw [if_neg c49] at H
                                exact absurd H (by simp)
                            · rw [if_neg c48] at H
                              exact absurd H (by simp)
                          · rw [if_neg c46] at H
                            have c46b0 : decide (0 < x24_3) = false := decide_eq_false c46
                            clear c46
                            have H' := Aside0.mk H
                            clear H
                            obtain ⟨Ao54, co54, eo54⟩ := Kd.R_slice HO_5.out
                            subst eo54
                            try go_wp2
                            have n0_ := Aside0.mk (Kd.R_drew HO_5.out)
                            have n1_ := Aside0.mk (below_drew1 HB.out)
                            clear HO_5
                            clear HB
                            have HO_5 := n0_
                            have HB := n1_
                            clear n0_ n1_
                            have p464 : 0 ≤ (x24_3 : Int) := of_decide_eq_true (by first | (with_reducible assumption) | assumption)
                            have q464 : x24_3 < (t435.length : Int) := of_decide_eq_true (by first | (with_reducible assumption) | assumption)
                            obtain ⟨ad464, e464, hx464_0⟩ := Kd.at_string (Kd.R_reads' HO_5.out).2.2 x24_3 p464 q464
                            cases e464
                            replace p464 := eq_true p464
                            replace q464 := eq_true q464
                            refine start_ (n := 24) (S := fun w' => w'.cell? (ad464.add (x24_3).toNat) = some (.string (rdOf ByteArray.empty t435 x24_3))) (ds := []) #[false, false, false, false, false, false, false, false, false, false, false, false, false, false, false, false, false, false, false, false, false, false, false, false] (by kernel_rfl) rfl rfl (hx464_0) (fun hHeld => ?_); refine with_tabW laws_FnSchemes.tab23 laws_FnSchemes.bits23 (fun HT_ HW_ => ?_)
                            generalize wr.drew = w55 at HO_5 HB hx464_0 hHeld ⊢
                            refine pure_ (i := 0) (N := some 137) (v := ?_) (a' := ?_) #[true, false, false, false, false, false, false, false, false, false, false, false, false, false, false, false, false, false, false, false, false, false, false, false] rfl rfl (any_of HT_.out (by kernel_rfl)) (fun _ _ _ h => h) (Or.inl ⟨by rfl, ?_⟩) ?_ ?_
                            rotate_left
                            · intro w'
                              go_simp
                              with_reducible rfl
                            rotate_left
                            · simp only [Act.put, List.setIfInBounds_toArray, List.set_cons_zero, List.set_cons_succ, i64_w, i32_w]
                              rfl
                            refine pure_ (i := 1) (N := some 138) (v := ?_) (a' := ?_) #[true, true, false, false, false, false, false, false, false, false, false, false, false, false, false, false, false, false, false, false, false, false, false, false] rfl rfl (any_of HT_.out (by kernel_rfl)) (fun _ _ _ h => h) (Or.inl ⟨by rfl, ?_⟩) ?_ ?_
                            rotate_left
                            · intro w'
                              go_simp
                              with_reducible rfl
                            rotate_left
                            · simp only [Act.put, List.setIfInBounds_toArray, List.set_cons_zero, List.set_cons_succ, i64_w, i32_w]
                              rfl
                            refine pure_ (i := 2) (N := some 139) (v := ?_) (a' := ?_) #[true, true, true, false, false, false, false, false, false, false, false, false, false, false, false, false, false, false, false, false, false, false, false, false] rfl rfl (any_of HT_.out (by kernel_rfl)) (fun _ _ _ h => h) (Or.inl ⟨by rfl, ?_⟩) ?_ ?_
                            rotate_left
                            · intro w'
                              go_simp
                              with_reducible rfl
                            rotate_left
                            · simp only [Act.put, List.setIfInBounds_toArray, List.set_cons_zero, List.set_cons_succ, i64_w, i32_w]
                              rfl
                            refine pure_ (i := 3) (N := some 140) (v := ?_) (a' := ?_) #[true, true, true, true, false, false, false, false, false, false, false, false, false, false, false, false, false, false, false, false, false, false, false, false] rfl rfl (any_of HT_.out (by kernel_rfl)) (fun _ _ _ h => h) (Or.inl ⟨by rfl, ?_⟩) ?_ ?_
                            rotate_left
                            · intro w'
                              go_simp
                              with_reducible rfl
                            rotate_left
                            · simp only [Act.put, List.setIfInBounds_toArray, List.set_cons_zero, List.set_cons_succ, i64_w, i32_w]
                              rfl
                            refine pure_ (i := 4) (N := some 141) (v := ?_) (a' := ?_) #[true, true, true, true, true, false, false, false, false, false, false, false, false, false, false, false, false, false, false, false, false, false, false, false] rfl rfl (any_of HT_.out (by kernel_rfl)) (fun _ _ _ h => h) (Or.inl ⟨by rfl, ?_⟩) ?_ ?_
                            rotate_left
                            · intro w'
                              go_simp
                              with_reducible rfl
                            rotate_left
                            · simp only [Act.put, List.setIfInBounds_toArray, List.set_cons_zero, List.set_cons_succ, i64_w, i32_w]
                              rfl
                            refine take_ (i := 5) (N := some 142) (v := ?_) (a' := ?_) #[true, true, true, true, true, true, false, false, false, false, false, false, false, false, false, false, false, false, false, false, false, false, false, false] rfl rfl (take_ofW HT_.out HW_.out (by kernel_rfl)) (fun _ _ _ h => h) (Or.inl ⟨by rfl, ?_⟩) hHeld ?_ ?_
                            rotate_left
                            · intro w' s0
                              go_simp
                              with_reducible rfl
                            rotate_left
                            · simp only [Act.put, List.setIfInBounds_toArray, List.set_cons_zero, List.set_cons_succ, i64_w, i32_w]
                              rfl
                            refine one_ (i := 6) (N := some 143) #[true, true, true, true, true, true, true, false, false, false, false, false, false, false, false, false, false, false, false, false, false, false, false, false] rfl rfl (one_of HT_.out (by kernel_rfl)) (by decide) (fun K hK => ?_)
                            refine goes_ Tryd.func11 (by kernel_rfl) rfl #[.int .i64 t433, .int .i64 t434, .string (rdOf ByteArray.empty t435 x24_3)] (by rfl) rfl rfl (by (try simp only [List.map_toArray, List.map_cons, List.map_nil]); first | done | rfl | (simp only [List.length_drop, List.length_take]; rfl)) ?_
                            with_reducible refine (impl_IsScheme.calls k3 t433 t434 (rdOf ByteArray.empty t435 x24_3) true _ A44.out).mono ?_
                            rintro e w56 ⟨rfl, hb⟩
                            have HS0_ := (hb.cell (World.block_lt_of_cell? _ _ (hHeld))).trans (hHeld)
                            refine ⟨_, rfl, ?_⟩
                            have n0_ := Aside0.mk (Kd.R_below (by (with_reducible repeat (first | apply Kd.R_alloc | apply Kd.R_drewN | apply Kd.R_drew)); exact HO_5.out) hb)
                            have n1_ := Aside0.mk (below_step (by repeat (first | (with_reducible first | exact HB.out | apply below_alloc | apply pw_below_drewN | apply below_drew1) | exact HB.out)) hb)
                            clear HO_5
                            clear HB
                            have HO_5 := n0_
                            have HB := n1_
                            clear n0_ n1_
                            (try clear hb)
                            (try clear hb2)
                            (try clear hk)
                            (try clear hi)
                            refine hK.out _ _ (HS0_) (fun hHeld => ?_)
                            clear hK K
                            refine norm_ (a' := ?_) ?_ ?_
                            rotate_left
                            · show Act.put _ (some 143) _ = _
                              simp only [Act.put, List.setIfInBounds_toArray, List.set_cons_zero, List.set_cons_succ, i64_w, i32_w]
                              rfl
                            refine pure_ (i := 7) (N := some 144) (v := ?_) (a' := ?_) #[true, true, true, true, true, true, true, true, false, false, false, false, false, false, false, false, false, false, false, false, false, false, false, false] rfl rfl (any_of HT_.out (by kernel_rfl)) (fun _ _ _ h => h) (Or.inl ⟨by rfl, ?_⟩) ?_ ?_
                            rotate_left
                            · intro w'
                              go_simp
                              with_reducible rfl
                            rotate_left
                            · simp only [Act.put, List.setIfInBounds_toArray, List.set_cons_zero, List.set_cons_succ, i64_w, i32_w]
                              rfl
                            refine pure_ (i := 8) (N := some 145) (v := ?_) (a' := ?_) #[true, true, true, true, true, true, true, true, true, false, false, false, false, false, false, false, false, false, false, false, false, false, false, false] rfl rfl (any_of HT_.out (by kernel_rfl)) (fun _ _ _ h => h) (Or.inl ⟨by rfl, ?_⟩) ?_ ?_
                            rotate_left
                            · intro w'
                              go_simp
                              with_reducible rfl
                            rotate_left
                            · simp only [Act.put, List.setIfInBounds_toArray, List.set_cons_zero, List.set_cons_succ, i64_w, i32_w]
                              rfl
                            refine pure_ (i := 9) (N := some 146) (v := ?_) (a' := ?_) #[true, true, true, true, true, true, true, true, true, true, false, false, false, false, false, false, false, false, false, false, false, false, false, false] rfl rfl (any_of HT_.out (by kernel_rfl)) (fun _ _ _ h => h) (Or.inl ⟨by rfl, ?_⟩) ?_ ?_
                            rotate_left
                            · intro w'
                              go_simp
                              with_reducible rfl
                            rotate_left
                            · simp only [Act.put, List.setIfInBounds_toArray, List.set_cons_zero, List.set_cons_succ, i64_w, i32_w]
                              rfl
                            refine pure_ (i := 10) (N := some 147) (v := ?_) (a' := ?_) #[true, true, true, true, true, true, true, true, true, true, true, false, false, false, false, false, false, false, false, false, false, false, false, false] rfl rfl (any_of HT_.out (by kernel_rfl)) (fun _ _ _ h => h) (Or.inl ⟨by rfl, ?_⟩) ?_ ?_
                            rotate_left
                            · intro w'
                              go_simp
                              with_reducible rfl
                            rotate_left
                            · simp only [Act.put, List.setIfInBounds_toArray, List.set_cons_zero, List.set_cons_succ, i64_w, i32_w]
                              rfl
                            refine pure_ (i := 11) (N := some 148) (v := ?_) (a' := ?_) #[true, true, true, true, true, true, true, true, true, true, true, true, false, false, false, false, false, false, false, false, false, false, false, false] rfl rfl (any_of HT_.out (by kernel_rfl)) (fun _ _ _ h => h) (Or.inl ⟨by rfl, ?_⟩) ?_ ?_
                            rotate_left
                            · intro w'
                              go_simp
                              with_reducible rfl
                            rotate_left
                            · simp only [Act.put, List.setIfInBounds_toArray, List.set_cons_zero, List.set_cons_succ, i64_w, i32_w]
                              rfl
                            refine pure_ (i := 12) (N := some 149) (v := undef) (a' := ?_) #[true, true, true, true, true, true, true, true, true, true, true, true, true, false, false, false, false, false, false, false, false, false, false, false] rfl rfl (any_of HT_.out (by kernel_rfl)) (fun _ _ _ h => h) (Or.inr ⟨by rfl, rfl⟩) ?_ ?_
                            rotate_left
                            · simp only [Act.put, List.setIfInBounds_toArray, List.set_cons_zero, List.set_cons_succ, i64_w, i32_w]
                              rfl
                            refine pure_ (i := 13) (N := some 150) (v := undef) (a' := ?_) #[true, true, true, true, true, true, true, true, true, true, true, true, true, true, false, false, false, false, false, false, false, false, false, false] rfl rfl (any_of HT_.out (by kernel_rfl)) (fun _ _ _ h => h) (Or.inr ⟨by rfl, rfl⟩) ?_ ?_
                            rotate_left
                            · simp only [Act.put, List.setIfInBounds_toArray, List.set_cons_zero, List.set_cons_succ, i64_w, i32_w]
                              rfl
                            refine pure_ (i := 14) (N := some 151) (v := undef) (a' := ?_) #[true, true, true, true, true, true, true, true, true, true, true, true, true, true, true, false, false, false, false, false, false, false, false, false] rfl rfl (any_of HT_.out (by kernel_rfl)) (fun _ _ _ h => h) (Or.inr ⟨by rfl, rfl⟩) ?_ ?_
                            rotate_left
                            · simp only [Act.put, List.setIfInBounds_toArray, List.set_cons_zero, List.set_cons_succ, i64_w, i32_w]
                              rfl
                            refine pure_ (i := 15) (N := some 152) (v := undef) (a' := ?_) #[true, true, true, true, true, true, true, true, true, true, true, true, true, true, true, true, false, false, false, false, false, false, false, false] rfl rfl (any_of HT_.out (by kernel_rfl)) (fun _ _ _ h => h) (Or.inr ⟨by rfl, rfl⟩) ?_ ?_
                            rotate_left
                            · simp only [Act.put, List.setIfInBounds_toArray, List.set_cons_zero, List.set_cons_succ, i64_w, i32_w]
                              rfl
                            refine pure_ (i := 16) (N := some 153) (v := undef) (a' := ?_) #[true, true, true, true, true, true, true, true, true, true, true, true, true, true, true, true, true, false, false, false, false, false, false, false] rfl rfl (any_of HT_.out (by kernel_rfl)) (fun _ _ _ h => h) (Or.inr ⟨by rfl, rfl⟩) ?_ ?_
                            rotate_left
                            · simp only [Act.put, List.setIfInBounds_toArray, List.set_cons_zero, List.set_cons_succ, i64_w, i32_w]
                              rfl
                            refine pure_ (i := 17) (N := some 154) (v := undef) (a' := ?_) #[true, true, true, true, true, true, true, true, true, true, true, true, true, true, true, true, true, true, false, false, false, false, false, false] rfl rfl (any_of HT_.out (by kernel_rfl)) (fun _ _ _ h => h) (Or.inr ⟨by rfl, rfl⟩) ?_ ?_
                            rotate_left
                            · simp only [Act.put, List.setIfInBounds_toArray, List.set_cons_zero, List.set_cons_succ, i64_w, i32_w]
                              rfl
                            refine pure_ (i := 18) (N := some 155) (v := undef) (a' := ?_) #[true, true, true, true, true, true, true, true, true, true, true, true, true, true, true, true, true, true, true, false, false, false, false, false] rfl rfl (any_of HT_.out (by kernel_rfl)) (fun _ _ _ h => h) (Or.inr ⟨by rfl, rfl⟩) ?_ ?_
                            rotate_left
                            · simp only [Act.put, List.setIfInBounds_toArray, List.set_cons_zero, List.set_cons_succ, i64_w, i32_w]
                              rfl
                            refine pure_ (i := 19) (N := some 156) (v := undef) (a' := ?_) #[true, true, true, true, true, true, true, true, true, true, true, true, true, true, true, true, true, true, true, true, false, false, false, false] rfl rfl (any_of HT_.out (by kernel_rfl)) (fun _ _ _ h => h) (Or.inr ⟨by rfl, rfl⟩) ?_ ?_
                            rotate_left
                            · simp only [Act.put, List.setIfInBounds_toArray, List.set_cons_zero, List.set_cons_succ, i64_w, i32_w]
                              rfl
                            refine pure_ (i := 20) (N := some 157) (v := undef) (a' := ?_) #[true, true, true, true, true, true, true, true, true, true, true, true, true, true, true, true, true, true, true, true, true, false, false, false] rfl rfl (any_of HT_.out (by kernel_rfl)) (fun _ _ _ h => h) (Or.inr ⟨by rfl, rfl⟩) ?_ ?_
                            rotate_left
                            · simp only [Act.put, List.setIfInBounds_toArray, List.set_cons_zero, List.set_cons_succ, i64_w, i32_w]
                              rfl
                            refine pure_ (i := 21) (N := some 158) (v := undef) (a' := ?_) #[true, true, true, true, true, true, true, true, true, true, true, true, true, true, true, true, true, true, true, true, true, true, false, false] rfl rfl (any_of HT_.out (by kernel_rfl)) (fun _ _ _ h => h) (Or.inr ⟨by rfl, rfl⟩) ?_ ?_
                            rotate_left
                            · simp only [Act.put, List.setIfInBounds_toArray, List.set_cons_zero, List.set_cons_succ, i64_w, i32_w]
                              rfl
                            refine pure_ (i := 22) (N := some 159) (v := ?_) (a' := ?_) #[true, true, true, true, true, true, true, true, true, true, true, true, true, true, true, true, true, true, true, true, true, true, true, false] rfl rfl (any_of HT_.out (by kernel_rfl)) (fun _ _ _ h => h) (Or.inl ⟨by rfl, ?_⟩) ?_ ?_
                            rotate_left
                            · intro w'
                              go_simp
                              with_reducible rfl
                            rotate_left
                            · simp only [Act.put, List.setIfInBounds_toArray, List.set_cons_zero, List.set_cons_succ, i64_w, i32_w]
                              rfl
                            refine pure_ (i := 23) (N := some 160) (v := ?_) (a' := ?_) #[true, true, true, true, true, true, true, true, true, true, true, true, true, true, true, true, true, true, true, true, true, true, true, true] rfl rfl (any_of HT_.out (by kernel_rfl)) (fun _ _ _ h => h) (Or.inl ⟨by rfl, ?_⟩) ?_ ?_
                            rotate_left
                            · intro w'
                              go_simp
                              with_reducible rfl
                            rotate_left
                            · simp only [Act.put, List.setIfInBounds_toArray, List.set_cons_zero, List.set_cons_succ, i64_w, i32_w]
                              rfl
                            refine done_ (done_of HT_.out (by kernel_rfl)) ?_
                            try go_wp2
                            go_roundg k3
                            case measure => have := HJ12.out; have := HJ32.out; have := HK3.out; omega
                            case rel => exact ⟨(wrap64 (x24_3 + 1)), (by first | rfl | (simp; done) | (simp [*]; done)), H', ⟨by have := HJ12.out; have := HJ32.out; have := HK3.out; omega⟩, ⟨by (with_reducible repeat (first | apply Kd.R_alloc | apply Kd.R_drewN | apply Kd.R_drew)); exact HO_5.out⟩, ⟨by repeat (first | (with_reducible first | exact HB.out | apply below_alloc | apply pw_below_drewN | apply below_drew1) | exact HB.out)⟩⟩
                        · replace c45 := Bool.eq_false_iff.mpr c45
                          subst c45
                          have H1 : (none) = some r := by rw [if_neg (show ¬ (false = true) by decide)] at H; exact H
                          clear H
                          have H := H1
                          clear H1
                          exact absurd H (by simp)
                      · rw [if_neg c43] at H
                        exact absurd H (by simp)
                    · rw [if_neg c42] at H
                      have c42b0 : decide (x24_3 < (t435.length : Int)) = false := decide_eq_false c42
                      clear c42
                      replace H := Option.bind_eq_some_iff.mp H
                      obtain ⟨⟨t468, t469⟩, A570, H⟩ := H
                      replace H : (if t469 = 0 then (some ((t435.length : Int) == t468)) else (none)) = some r := H
                      have A57 := Aside0.mk A570
                      clear A570
                      by_cases c58 : t469 = 0
                      · rw [if_pos c58] at H
                        have c58b0 : (t469 == 0) = true := beq_iff_eq.mpr c58
                        have c58b1 : (t469 != 0) = false := bne_eq_false_iff_eq.mpr c58
                        clear c58
                        obtain rfl := Option.some.inj H
                        obtain ⟨Ao59, co59, eo59⟩ := Kd.R_slice HO_5.out
                        subst eo59
                        go_wp2_with (first | ((with_reducible refine gate_callee (f := 29) rfl ?_); refine goesL_ (some 164) rfl rfl Tryd.func29 (by kernel_rfl) rfl #[.int .i64 t433, .int .i64 t434] rfl (by (try simp only [List.map_toArray, List.map_cons, List.map_nil]); first | done | rfl | (simp only [List.length_drop, List.length_take]; rfl)) ?_; (with_reducible refine (impl_CountSchemes.calls k3 t433 t434 t468 t469 _ A57.out).mono ?_); rintro e w60 ⟨rfl, hb⟩; refine ⟨_, rfl, ?_⟩; have n0_ := Aside0.mk (Kd.R_below (by (with_reducible repeat (first | apply Kd.R_alloc | apply Kd.R_drewN | apply Kd.R_drew)); exact HO_5.out) hb); have n1_ := Aside0.mk (below_step (by repeat (first | (with_reducible first | exact HB.out | apply below_alloc | apply pw_below_drewN | apply below_drew1) | exact HB.out)) hb); clear HO_5; clear HB; have HO_5 := n0_; have HB := n1_; clear n0_ n1_; (try clear hb); (try clear hb2); (try clear hk); (try clear hi)))
                        go_ret
                        exact ⟨by first | rfl | (simp only [Go.IntWalk.i64_left]; first | done | rfl) | (simp [errW_none, errW_some] <;> rfl) | (simp [*, errW_none, errW_some] <;> rfl), by repeat (first | (with_reducible first | exact HB.out | apply below_alloc | apply pw_below_drewN | apply below_drew1) | exact HB.out)⟩
                      · rw [if_neg c58] at H
                        exact absurd H (by simp)
              · rw [if_neg c41] at H
                have c41b0 : (t436 == 0) = false := beq_eq_false_iff_ne.mpr c41
                have c41b1 : (t436 != 0) = true := bne_iff_ne.mpr c41
                obtain rfl := Option.some.inj H
                go_wp2
                go_ret
                exact ⟨by first | rfl | (simp only [Go.IntWalk.i64_left]; first | done | rfl) | (simp [errW_none, errW_some] <;> rfl) | (simp [*, errW_none, errW_some] <;> rfl), by repeat (first | (with_reducible first | exact HB.out | apply below_alloc | apply pw_below_drewN | apply below_drew1) | exact HB.out)⟩

/-- THE ONE PURE STATEMENT of laws_FnSchemes: yours. -/
def laws_FnSchemes.Pure : Prop := ∀ (l0 : List Int), l0.length ≤ maxLen → l0.length * 1 ≤ 140737488351232 → (∀ x ∈ l0, (Lit.int .u8 x).wf = true) → ∃ k, laws_FnSchemes.f k l0 = some true
theorem laws_FnSchemes.walk (P : laws_FnSchemes.Pure) (a0 : Option Addr) (len0 cap0 : Nat) (z0 : List Int) (w : World) (w0 : (a0 = none ∧ len0 = 0 ∧ cap0 = 0 ∧ z0 = []) ∨ ∃ x, a0 = some x ∧ len0 ≤ cap0 ∧ cap0 ≤ maxLen ∧ z0.length = cap0 ∧ (∀ i, i < z0.length → w.cell? (x.add i) = some (.int .u8 (z0.getD i 0))) ∧ ∀ n ∈ z0, (Lit.int .u8 n).wf = true) (y0 : len0 * 1 ≤ 140737488351232) :
    Calls Tryd.prog 8 #[.slice a0 len0 cap0] w fun e w' => e = .returned (.bool true) ∧ Below w.heap.size w w' := by
  obtain ⟨l0, rfl, hr0, hm0, hw0, hc0⟩ := ReadsInt.ofRowC w0
  obtain ⟨k, h⟩ := P l0 hm0 y0 hw0
  refine (laws_FnSchemes.calls k _ _ l0 true w (Kd.C_of_reads (d := (0 : Int)) (h1 := fun _ => rfl) hr0) hc0 h).mono ?_
  rintro e w' ⟨rfl, hd⟩
  exact ⟨rfl, hd⟩

end Go.Proofs.YtijbccmcfagnfaaDoor.QFnSchemes
