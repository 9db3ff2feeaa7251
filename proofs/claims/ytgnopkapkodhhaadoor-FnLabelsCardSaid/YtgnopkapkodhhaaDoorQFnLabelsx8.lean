-- Written by own_print.py of this session's repo over the kit's print (its output, turned at some places).
import Derived.Test.YtgnopkapkodhhaaDoorQFnLabelsx0
import Derived.Test.YtgnopkapkodhhaaDoorQFnLabelsx2
import Derived.Test.YtgnopkapkodhhaaDoorQFnLabelsx3
import Derived.Test.YtgnopkapkodhhaaDoorQFnLabelsx4
import Derived.Test.YtgnopkapkodhhaaDoorQFnLabelsx6
import Derived.Test.YtgnopkapkodhhaaDoorQFnLabelsx7
namespace Go.Proofs.YtgnopkapkodhhaaDoor.QFnLabels
open Go.RowKit Go.Proofs.YtgnopkapkodhhaaDoorW.PrintWords Go.Proofs.YtgnopkapkodhhaaDoorW.PrintLast Go.Proofs.YtgnopkapkodhhaaDoorW.PrintMore
attribute [local go_sem] max2_int min2_int max_two min_two max_three min_three max_four min_four   -- for this text's walks alone
set_option linter.unusedVariables false
set_option linter.unusedSimpArgs false

/-! ### laws_FnLabels: function 5 -/
mutual
def laws_FnLabels.j0 : Nat → Int → ByteArray → Int → ByteArray → Int → Int → Bool → Int → List Int → Bool → Int → List Int → Bool → Option (Bool)
  | 0, _, _, _, _, _, _, _, _, _, _, _, _, _ => none
  | k + 1, x4, x5, x6, x10, x11, x12, x72, x354000, x354001, x354002, x365000, x365001, x365002 => if x72 = true then (none) else (if x12 = 0 then ((impl_LabelOf.f k x365000 x365001 x365002 x11).bind fun bt369 => (if bt369.2 = 0 then (laws_FnLabels.j1 k x4 x5 x6 (bt369.1.toList != x10.toList) x354000 x354001 x354002) else (none))) else (if x6 = 0 then ((impl_PageOfLabel.f k x354000 x354001 x354002 x5).bind fun bt373 => (if bt373.2 = 0 then (some (bt373.1 == x4)) else (none))) else (some true)))
def laws_FnLabels.j1 : Nat → Int → ByteArray → Int → Bool → Int → List Int → Bool → Option (Bool)
  | 0, _, _, _, _, _, _, _ => none
  | k + 1, x4, x5, x6, x87, x354000, x354001, x354002 => if x87 = true then (none) else (if x6 = 0 then ((impl_PageOfLabel.f k x354000 x354001 x354002 x5).bind fun bt371 => (if bt371.2 = 0 then (some (bt371.1 == x4)) else (none))) else (some true))
end
def laws_FnLabels.f (k : Nat) (l0 : List Int) : Option (Bool) := (laws_big.f l0).bind fun t346 => (if t346 = true then (some true) else ((spec_DrawLabelOf.f k l0).bind fun bt347 => ((impl_LabelOf.f k bt347.1 bt347.2.1 bt347.2.2.1 bt347.2.2.2).bind fun bt354 => ((spec_LabelOf.f k bt347.1 bt347.2.1 bt347.2.2.1 bt347.2.2.2).bind fun bt356 => ((spec_DrawPageOfLabel.f k l0).bind fun bt358 => ((impl_PageOfLabel.f k bt358.1 bt358.2.1 bt358.2.2.1 bt358.2.2.2).bind fun bt365 => ((spec_PageOfLabel.f k bt358.1 bt358.2.1 bt358.2.2.1 bt358.2.2.2).bind fun bt367 => (if bt354.2 = bt356.2 then (if bt354.1.toList = bt356.1.toList then (if bt365.2 = bt367.2 then (laws_FnLabels.j0 k bt347.2.2.2 bt354.1 bt354.2 bt358.2.2.2 bt365.1 bt365.2 (bt365.1 != bt367.1) bt347.1 bt347.2.1 bt347.2.2.1 bt358.1 bt358.2.1 bt358.2.2.1) else (none)) else (none)) else (none)))))))))
theorem laws_FnLabels.mono_l : ∀ k, (∀ y0 y1 y2 y3 y4 y5 y6 y7 y8 y9 y10 y11 y12, LeO (laws_FnLabels.j0 k y0 y1 y2 y3 y4 y5 y6 y7 y8 y9 y10 y11 y12) (laws_FnLabels.j0 (k + 1) y0 y1 y2 y3 y4 y5 y6 y7 y8 y9 y10 y11 y12)) ∧ (∀ y0 y1 y2 y3 y4 y5 y6, LeO (laws_FnLabels.j1 k y0 y1 y2 y3 y4 y5 y6) (laws_FnLabels.j1 (k + 1) y0 y1 y2 y3 y4 y5 y6))
  | 0 => ⟨fun _ _ _ _ _ _ _ _ _ _ _ _ _ r h => by simp [laws_FnLabels.j0] at h, fun _ _ _ _ _ _ _ r h => by simp [laws_FnLabels.j1] at h⟩
  | k + 1 => by
    obtain ⟨ih0, ih1⟩ := laws_FnLabels.mono_l k
    refine ⟨?_, ?_⟩
    · intro y0 y1 y2 y3 y4 y5 y6 y7 y8 y9 y10 y11 y12
      unfold laws_FnLabels.j0
      repeat' first
      | (with_reducible exact ih0 _ _ _ _ _ _ _ _ _ _ _ _ _)
      | (with_reducible exact ih1 _ _ _ _ _ _ _)
      | (with_reducible exact impl_LabelOf.mono _ _ _ _ _)
      | (with_reducible exact impl_PageOfLabel.mono _ _ _ _ _)
      | (with_reducible exact spec_DrawLabelOf.mono _ _)
      | (with_reducible exact spec_DrawPageOfLabel.mono _ _)
      | (with_reducible exact spec_LabelOf.mono _ _ _ _ _)
      | (with_reducible exact spec_PageOfLabel.mono _ _ _ _ _)
      | (with_reducible exact LeO.refl _)
      | (with_reducible exact LeO.none _)
      | (with_reducible refine LeO.ite ?_ ?_)
      | (with_reducible refine LeO.bind ?_ (fun _ => ?_))
      | exact ih0 _ _ _ _ _ _ _ _ _ _ _ _ _
      | exact ih1 _ _ _ _ _ _ _
      | exact impl_LabelOf.mono _ _ _ _ _
      | exact impl_PageOfLabel.mono _ _ _ _ _
      | exact spec_DrawLabelOf.mono _ _
      | exact spec_DrawPageOfLabel.mono _ _
      | exact spec_LabelOf.mono _ _ _ _ _
      | exact spec_PageOfLabel.mono _ _ _ _ _
      | exact LeO.none _
      | refine LeO.ite ?_ ?_
      | refine LeO.bind ?_ (fun _ => ?_)
    · intro y0 y1 y2 y3 y4 y5 y6
      unfold laws_FnLabels.j1
      repeat' first
      | (with_reducible exact ih0 _ _ _ _ _ _ _ _ _ _ _ _ _)
      | (with_reducible exact ih1 _ _ _ _ _ _ _)
      | (with_reducible exact impl_LabelOf.mono _ _ _ _ _)
      | (with_reducible exact impl_PageOfLabel.mono _ _ _ _ _)
      | (with_reducible exact spec_DrawLabelOf.mono _ _)
      | (with_reducible exact spec_DrawPageOfLabel.mono _ _)
      | (with_reducible exact spec_LabelOf.mono _ _ _ _ _)
      | (with_reducible exact spec_PageOfLabel.mono _ _ _ _ _)
      | (with_reducible exact LeO.refl _)
      | (with_reducible exact LeO.none _)
      | (with_reducible refine LeO.ite ?_ ?_)
      | (with_reducible refine LeO.bind ?_ (fun _ => ?_))
      | exact ih0 _ _ _ _ _ _ _ _ _ _ _ _ _
      | exact ih1 _ _ _ _ _ _ _
      | exact impl_LabelOf.mono _ _ _ _ _
      | exact impl_PageOfLabel.mono _ _ _ _ _
      | exact spec_DrawLabelOf.mono _ _
      | exact spec_DrawPageOfLabel.mono _ _
      | exact spec_LabelOf.mono _ _ _ _ _
      | exact spec_PageOfLabel.mono _ _ _ _ _
      | exact LeO.none _
      | refine LeO.ite ?_ ?_
      | refine LeO.bind ?_ (fun _ => ?_)
theorem laws_FnLabels.mono : ∀ a0 k, LeO (laws_FnLabels.f k a0) (laws_FnLabels.f (k + 1) a0) := by
  intro a0 k
  obtain ⟨ih0, ih1⟩ := laws_FnLabels.mono_l k
  unfold laws_FnLabels.f
  repeat' first
      | (with_reducible exact ih0 _ _ _ _ _ _ _ _ _ _ _ _ _)
      | (with_reducible exact ih1 _ _ _ _ _ _ _)
      | (with_reducible exact impl_LabelOf.mono _ _ _ _ _)
      | (with_reducible exact impl_PageOfLabel.mono _ _ _ _ _)
      | (with_reducible exact spec_DrawLabelOf.mono _ _)
      | (with_reducible exact spec_DrawPageOfLabel.mono _ _)
      | (with_reducible exact spec_LabelOf.mono _ _ _ _ _)
      | (with_reducible exact spec_PageOfLabel.mono _ _ _ _ _)
      | (with_reducible exact LeO.refl _)
      | (with_reducible exact LeO.none _)
      | (with_reducible refine LeO.ite ?_ ?_)
      | (with_reducible refine LeO.bind ?_ (fun _ => ?_))
      | exact ih0 _ _ _ _ _ _ _ _ _ _ _ _ _
      | exact ih1 _ _ _ _ _ _ _
      | exact impl_LabelOf.mono _ _ _ _ _
      | exact impl_PageOfLabel.mono _ _ _ _ _
      | exact spec_DrawLabelOf.mono _ _
      | exact spec_DrawPageOfLabel.mono _ _
      | exact spec_LabelOf.mono _ _ _ _ _
      | exact spec_PageOfLabel.mono _ _ _ _ _
      | exact LeO.none _
      | refine LeO.ite ?_ ?_
      | refine LeO.bind ?_ (fun _ => ?_)
set_option maxHeartbeats 8000000 in
set_option maxRecDepth 100000 in
theorem laws_FnLabels.calls (k : Nat) (A0 : Option Addr) (c0 : Nat) (l0 : List Int) (r : Bool) (w : World) (HT_ : Aside0 (Tabs w)) (hr0 : Kd.C (Kd.int .u8) w A0 l0.length l0) (hc0 : l0.length ≤ c0) (h : laws_FnLabels.f k l0 = some r) :
    Calls Tryd.prog 5 #[.slice A0 l0.length c0] w fun e w' => e = .returned (.bool r) ∧ Below w.heap.size w w' := by
  have hu28 := Tryd.underlying28
  have HR0 := Aside0.mk hr0
  have HC0 := Aside0.mk hc0
  clear hr0 hc0
  have HB := Aside0.mk (Below.refl w.heap.size w)
  have H : ((laws_big.f l0).bind fun t346 => (if t346 = true then (some true) else ((spec_DrawLabelOf.f k l0).bind fun bt347 => ((impl_LabelOf.f k bt347.1 bt347.2.1 bt347.2.2.1 bt347.2.2.2).bind fun bt354 => ((spec_LabelOf.f k bt347.1 bt347.2.1 bt347.2.2.1 bt347.2.2.2).bind fun bt356 => ((spec_DrawPageOfLabel.f k l0).bind fun bt358 => ((impl_PageOfLabel.f k bt358.1 bt358.2.1 bt358.2.2.1 bt358.2.2.2).bind fun bt365 => ((spec_PageOfLabel.f k bt358.1 bt358.2.1 bt358.2.2.1 bt358.2.2.2).bind fun bt367 => (if bt354.2 = bt356.2 then (if bt354.1.toList = bt356.1.toList then (if bt365.2 = bt367.2 then (laws_FnLabels.j0 k bt347.2.2.2 bt354.1 bt354.2 bt358.2.2.2 bt365.1 bt365.2 (bt365.1 != bt367.1) bt347.1 bt347.2.1 bt347.2.2.1 bt358.1 bt358.2.1 bt358.2.2.1) else (none)) else (none)) else (none)))))))))) = some r := h
  clear h
  replace H := Option.bind_eq_some_iff.mp H
  obtain ⟨t346, A20, H⟩ := H
  replace H : (if t346 = true then (some true) else ((spec_DrawLabelOf.f k l0).bind fun bt347 => ((impl_LabelOf.f k bt347.1 bt347.2.1 bt347.2.2.1 bt347.2.2.2).bind fun bt354 => ((spec_LabelOf.f k bt347.1 bt347.2.1 bt347.2.2.1 bt347.2.2.2).bind fun bt356 => ((spec_DrawPageOfLabel.f k l0).bind fun bt358 => ((impl_PageOfLabel.f k bt358.1 bt358.2.1 bt358.2.2.1 bt358.2.2.2).bind fun bt365 => ((spec_PageOfLabel.f k bt358.1 bt358.2.1 bt358.2.2.1 bt358.2.2.2).bind fun bt367 => (if bt354.2 = bt356.2 then (if bt354.1.toList = bt356.1.toList then (if bt365.2 = bt367.2 then (laws_FnLabels.j0 k bt347.2.2.2 bt354.1 bt354.2 bt358.2.2.2 bt365.1 bt365.2 (bt365.1 != bt367.1) bt347.1 bt347.2.1 bt347.2.2.1 bt358.1 bt358.2.1 bt358.2.2.1) else (none)) else (none)) else (none))))))))) = some r := H
  have A2 := Aside0.mk A20
  clear A20
  by_cases c3 : t346 = true
  · subst c3
    have H1 : (some true) = some r := by rw [if_pos rfl] at H; exact H
    clear H
    have H := H1
    clear H1
    obtain rfl := Option.some.inj H
    go_enter Tryd.func5, Tryd.ntmps5
    go_wp2_with (first | ((with_reducible refine gate_callee (f := 13) rfl ?_); refine goesL_ (some 20) rfl rfl Tryd.func13 (by kernel_rfl) rfl #[.slice A0 l0.length c0] rfl (by (try simp only [List.map_toArray, List.map_cons, List.map_nil]); first | done | rfl | (simp only [List.length_drop, List.length_take]; rfl)) ?_; (with_reducible refine (laws_big.calls _ _ l0 true _ ?side1 ?side2 A2.out).mono ?_); (case side1 => repeat (first | exact HR0.out | (with_reducible refine Kd.C_alloc ?_ _) | (with_reducible refine Kd.C_drewN ?_ _) | (with_reducible refine Kd.C_drew ?_))); (case side2 => exact HC0.out); rintro e w' ⟨rfl, ⟨nd, rfl⟩⟩; refine ⟨_, rfl, ?_⟩))
    go_ret
    exact ⟨by first | rfl | (simp only [Go.IntWalk.i64_left]; first | done | rfl) | (simp [errW_none, errW_some] <;> rfl) | (simp [*, errW_none, errW_some] <;> rfl), by repeat (first | (with_reducible first | exact HB.out | apply below_alloc | apply pw_below_drewN | apply below_drew1) | exact HB.out)⟩
  · replace c3 := Bool.eq_false_iff.mpr c3
    subst c3
    have H1 : ((spec_DrawLabelOf.f k l0).bind fun bt347 => ((impl_LabelOf.f k bt347.1 bt347.2.1 bt347.2.2.1 bt347.2.2.2).bind fun bt354 => ((spec_LabelOf.f k bt347.1 bt347.2.1 bt347.2.2.1 bt347.2.2.2).bind fun bt356 => ((spec_DrawPageOfLabel.f k l0).bind fun bt358 => ((impl_PageOfLabel.f k bt358.1 bt358.2.1 bt358.2.2.1 bt358.2.2.2).bind fun bt365 => ((spec_PageOfLabel.f k bt358.1 bt358.2.1 bt358.2.2.1 bt358.2.2.2).bind fun bt367 => (if bt354.2 = bt356.2 then (if bt354.1.toList = bt356.1.toList then (if bt365.2 = bt367.2 then (laws_FnLabels.j0 k bt347.2.2.2 bt354.1 bt354.2 bt358.2.2.2 bt365.1 bt365.2 (bt365.1 != bt367.1) bt347.1 bt347.2.1 bt347.2.2.1 bt358.1 bt358.2.1 bt358.2.2.1) else (none)) else (none)) else (none)))))))) = some r := by rw [if_neg (show ¬ (false = true) by decide)] at H; exact H
    clear H
    have H := H1
    clear H1
    replace H := Option.bind_eq_some_iff.mp H
    obtain ⟨⟨t347, t348, t351, t352⟩, A40, H⟩ := H
    replace H : ((impl_LabelOf.f k t347 t348 t351 t352).bind fun bt354 => ((spec_LabelOf.f k t347 t348 t351 t352).bind fun bt356 => ((spec_DrawPageOfLabel.f k l0).bind fun bt358 => ((impl_PageOfLabel.f k bt358.1 bt358.2.1 bt358.2.2.1 bt358.2.2.2).bind fun bt365 => ((spec_PageOfLabel.f k bt358.1 bt358.2.1 bt358.2.2.1 bt358.2.2.2).bind fun bt367 => (if bt354.2 = bt356.2 then (if bt354.1.toList = bt356.1.toList then (if bt365.2 = bt367.2 then (laws_FnLabels.j0 k t352 bt354.1 bt354.2 bt358.2.2.2 bt365.1 bt365.2 (bt365.1 != bt367.1) t347 t348 t351 bt358.1 bt358.2.1 bt358.2.2.1) else (none)) else (none)) else (none))))))) = some r := H
    have A4 := Aside0.mk A40
    clear A40
    replace H := Option.bind_eq_some_iff.mp H
    obtain ⟨⟨t354, t355⟩, A50, H⟩ := H
    replace H : ((spec_LabelOf.f k t347 t348 t351 t352).bind fun bt356 => ((spec_DrawPageOfLabel.f k l0).bind fun bt358 => ((impl_PageOfLabel.f k bt358.1 bt358.2.1 bt358.2.2.1 bt358.2.2.2).bind fun bt365 => ((spec_PageOfLabel.f k bt358.1 bt358.2.1 bt358.2.2.1 bt358.2.2.2).bind fun bt367 => (if t355 = bt356.2 then (if t354.toList = bt356.1.toList then (if bt365.2 = bt367.2 then (laws_FnLabels.j0 k t352 t354 t355 bt358.2.2.2 bt365.1 bt365.2 (bt365.1 != bt367.1) t347 t348 t351 bt358.1 bt358.2.1 bt358.2.2.1) else (none)) else (none)) else (none)))))) = some r := H
    have A5 := Aside0.mk A50
    clear A50
    replace H := Option.bind_eq_some_iff.mp H
    obtain ⟨⟨t356, t357⟩, A60, H⟩ := H
    replace H : ((spec_DrawPageOfLabel.f k l0).bind fun bt358 => ((impl_PageOfLabel.f k bt358.1 bt358.2.1 bt358.2.2.1 bt358.2.2.2).bind fun bt365 => ((spec_PageOfLabel.f k bt358.1 bt358.2.1 bt358.2.2.1 bt358.2.2.2).bind fun bt367 => (if t355 = t357 then (if t354.toList = t356.toList then (if bt365.2 = bt367.2 then (laws_FnLabels.j0 k t352 t354 t355 bt358.2.2.2 bt365.1 bt365.2 (bt365.1 != bt367.1) t347 t348 t351 bt358.1 bt358.2.1 bt358.2.2.1) else (none)) else (none)) else (none))))) = some r := H
    have A6 := Aside0.mk A60
    clear A60
    replace H := Option.bind_eq_some_iff.mp H
    obtain ⟨⟨t358, t359, t362, t363⟩, A70, H⟩ := H
    replace H : ((impl_PageOfLabel.f k t358 t359 t362 t363).bind fun bt365 => ((spec_PageOfLabel.f k t358 t359 t362 t363).bind fun bt367 => (if t355 = t357 then (if t354.toList = t356.toList then (if bt365.2 = bt367.2 then (laws_FnLabels.j0 k t352 t354 t355 t363 bt365.1 bt365.2 (bt365.1 != bt367.1) t347 t348 t351 t358 t359 t362) else (none)) else (none)) else (none)))) = some r := H
    have A7 := Aside0.mk A70
    clear A70
    replace H := Option.bind_eq_some_iff.mp H
    obtain ⟨⟨t365, t366⟩, A80, H⟩ := H
    replace H : ((spec_PageOfLabel.f k t358 t359 t362 t363).bind fun bt367 => (if t355 = t357 then (if t354.toList = t356.toList then (if t366 = bt367.2 then (laws_FnLabels.j0 k t352 t354 t355 t363 t365 t366 (t365 != bt367.1) t347 t348 t351 t358 t359 t362) else (none)) else (none)) else (none))) = some r := H
    have A8 := Aside0.mk A80
    clear A80
    replace H := Option.bind_eq_some_iff.mp H
    obtain ⟨⟨t367, t368⟩, A90, H⟩ := H
    replace H : (if t355 = t357 then (if t354.toList = t356.toList then (if t366 = t368 then (laws_FnLabels.j0 k t352 t354 t355 t363 t365 t366 (t365 != t367) t347 t348 t351 t358 t359 t362) else (none)) else (none)) else (none)) = some r := H
    have A9 := Aside0.mk A90
    clear A90
    have HC10 := Aside0.mk H
    clear H
    go_enter Tryd.func5, Tryd.ntmps5
    go_upto_region 9 with (first | ((with_reducible refine gate_callee (f := 13) rfl ?_); refine goesL_ (some 20) rfl rfl Tryd.func13 (by kernel_rfl) rfl #[.slice A0 l0.length c0] rfl (by (try simp only [List.map_toArray, List.map_cons, List.map_nil]); first | done | rfl | (simp only [List.length_drop, List.length_take]; rfl)) ?_; (with_reducible refine (laws_big.calls _ _ l0 false _ ?side1 ?side2 A2.out).mono ?_); (case side1 => repeat (first | exact HR0.out | (with_reducible refine Kd.C_alloc ?_ _) | (with_reducible refine Kd.C_drewN ?_ _) | (with_reducible refine Kd.C_drew ?_))); (case side2 => exact HC0.out); rintro e w' ⟨rfl, ⟨nd, rfl⟩⟩; refine ⟨_, rfl, ?_⟩) | ((with_reducible refine gate_callee (f := 14) rfl ?_); refine goesL_ (some 23) rfl rfl Tryd.func14 (by kernel_rfl) rfl #[.slice A0 l0.length c0] rfl (by (try simp only [List.map_toArray, List.map_cons, List.map_nil]); first | done | rfl | (simp only [List.length_drop, List.length_take]; rfl)) ?_; (with_reducible refine (spec_DrawLabelOf.calls k _ _ l0 t347 t348 t351 t352 _ ?side1 ?side2 A4.out).mono ?_); (case side1 => repeat (first | exact HR0.out | (with_reducible refine Kd.C_alloc ?_ _) | (with_reducible refine Kd.C_drewN ?_ _) | (with_reducible refine Kd.C_drew ?_))); (case side2 => exact HC0.out); rintro e w11 ⟨v349, rfl, ho0, hb⟩; refine ⟨_, rfl, ?_⟩; have n0_ := Aside0.mk (Kd.R_lower ho0 (below_size (by repeat (first | (with_reducible first | exact HB.out | apply below_alloc | apply pw_below_drewN | apply below_drew1) | exact HB.out)))); have n1_ := Aside0.mk (below_step (by repeat (first | (with_reducible first | exact HB.out | apply below_alloc | apply pw_below_drewN | apply below_drew1) | exact HB.out)) hb); clear HB; have HO350 := n0_; have HB := n1_; clear n0_ n1_; (try clear hb); (try clear hb2); (try clear hk); (try clear hi); (try clear ho0)) | ((with_reducible refine gate_dst (N := 3) rfl ?_); refine box_event ?hg (N := 3) ?hd (cs := #[.int .i64 0, .slice none 0 0, .bool false]) (t := 28) ?hr ?_; (case hd => rfl); (case hg => rfl); (case hr => first | (go_simp; done) | (go_simp; rfl)); intro gb353 hg w12 hbox hb; have n0_ := Aside0.mk (Kd.R_below (by (with_reducible repeat (first | apply Kd.R_alloc | apply Kd.R_drewN | apply Kd.R_drew)); exact HO350.out) hb); have n1_ := Aside0.mk (below_step (by repeat (first | (with_reducible first | exact HB.out | apply below_alloc | apply pw_below_drewN | apply below_drew1) | exact HB.out)) hb); have n2_ := Aside0.mk (hbox); have n3_ := Aside0.mk ((by rw [hg]; exact (below_size (by repeat (first | (with_reducible first | exact HB.out | apply below_alloc | apply pw_below_drewN | apply below_drew1) | exact HB.out))) : w.heap.size ≤ gb353)); have n4_ := Aside0.mk ((by rw [hg]; exact (below_size (by repeat (first | (with_reducible first | exact HB.out | apply below_alloc | apply pw_below_drewN | apply below_drew1) | exact HB.out))) : w.heap.size ≤ gb353)); clear HO350; clear HB; have HO350 := n0_; have HB := n1_; have BK353 := n2_; have GW353 := n3_; have GE353 := n4_; clear n0_ n1_ n2_ n3_ n4_; clear hb hbox hg; have hcz13_0 : w12.cell? ⟨gb353, 0, none⟩ = some (.int .i64 0) := (blk_cell BK353.out 0).trans rfl; have hcz13_1 : w12.cell? ⟨gb353, 1, none⟩ = some (.slice none 0 0) := (blk_cell BK353.out 1).trans rfl; have hcz13_2 : w12.cell? ⟨gb353, 2, none⟩ = some (.bool false) := (blk_cell BK353.out 2).trans rfl; have hfz13_0 := blk_frozen BK353.out 0; have hfz13_1 := blk_frozen BK353.out 1; have hfz13_2 := blk_frozen BK353.out 2; obtain ⟨Ao14, co14, eo14⟩ := Kd.R_slice HO350.out; subst eo14) | ((with_reducible refine gate_callee (f := 9) rfl ?_); refine goesL_ (some 29) rfl rfl Tryd.func9 (by kernel_rfl) rfl #[.agg #[.int .i64 t347, .slice Ao14 t348.length co14, .bool t351], .int .i64 t352] rfl (by (try simp only [List.map_toArray, List.map_cons, List.map_nil]); first | done | rfl | (simp only [List.length_drop, List.length_take]; rfl)) ?_; (with_reducible refine (impl_LabelOf.calls (HT_ := (by first | exact HT_ | exact tabs_drewN HT_ _ | exact tabs_drew HT_ | exact tabs_stays HT_ (by repeat (first | (with_reducible first | exact HB.out | apply below_alloc | apply pw_below_drewN | apply below_drew1 | refine below_set ?_ GE353.out | refine below_set ?_ GE364.out | refine below_set ?_ GW353.out | refine below_set ?_ GW364.out) | exact HB.out)))) k t347 _ _ t348 t351 t352 t354 t355 _ ?side1 ?side2 A5.out).mono ?_); (case side1 => refine (Kd.R_reads' (e := 2) (base := w.heap.size) (ok := fun k_ => True) (n := t348.length) (c := co14) ?_).2.2; exact (by (with_reducible repeat (first | apply Kd.R_alloc | apply Kd.R_drewN | apply Kd.R_drew)); exact (Kd.R_mono (Kd.R_far (p := ⟨gb353, 2, none⟩) (Kd.R_far (p := ⟨gb353, 1, none⟩) (Kd.R_far (p := ⟨gb353, 0, none⟩) (Kd.R_types HO350.out BK353.out (by decide)) (fun _ hk => hk.2) (.int .i64 t347)) (fun _ hk => hk.2) (.slice Ao14 t348.length co14)) (fun _ hk => hk.2) (.bool t351)) (fun _ h_ => h_.1)))); (case side2 => exact (Kd.R_reads' HO350.out).2.1); rintro e w15 ⟨rfl, hb⟩; refine ⟨_, rfl, ?_⟩; have n0_ := Aside0.mk (Kd.R_below (by (with_reducible repeat (first | apply Kd.R_alloc | apply Kd.R_drewN | apply Kd.R_drew)); exact (Kd.R_mono (Kd.R_far (p := ⟨gb353, 2, none⟩) (Kd.R_far (p := ⟨gb353, 1, none⟩) (Kd.R_far (p := ⟨gb353, 0, none⟩) (Kd.R_types HO350.out BK353.out (by decide)) (fun _ hk => hk.2) (.int .i64 t347)) (fun _ hk => hk.2) (.slice Ao14 t348.length co14)) (fun _ hk => hk.2) (.bool t351)) (fun _ h_ => h_.1))) hb); have n1_ := Aside0.mk (blk_below (g := gb353) (o := .cells #[.int .i64 t347, .slice Ao14 t348.length co14, .bool t351] 28 (0, 0)) (by (with_reducible repeat (first | refine blk_drewN ?_ _ | refine blk_drew ?_ | refine blk_alloc ?_ _)); refine blk_put (cs := #[.int .i64 t347, .slice Ao14 t348.length co14, .bool false]) ?_ 2 _ rfl; (with_reducible repeat (first | refine blk_drewN ?_ _ | refine blk_drew ?_ | refine blk_alloc ?_ _)); refine blk_put (cs := #[.int .i64 t347, .slice none 0 0, .bool false]) ?_ 1 _ rfl; (with_reducible repeat (first | refine blk_drewN ?_ _ | refine blk_drew ?_ | refine blk_alloc ?_ _)); refine blk_put (cs := #[.int .i64 0, .slice none 0 0, .bool false]) ?_ 0 _ rfl; (with_reducible repeat (first | refine blk_drewN ?_ _ | refine blk_drew ?_ | refine blk_alloc ?_ _)); exact BK353.out) hb); have n2_ := Aside0.mk (below_step (by repeat (first | (with_reducible first | exact HB.out | apply below_alloc | apply pw_below_drewN | apply below_drew1 | refine below_set ?_ GE353.out) | exact HB.out)) hb); clear HO350; clear BK353; clear HB; have HO350 := n0_; have BK353 := n1_; have HB := n2_; clear n0_ n1_ n2_; (try clear hb); (try clear hb2); (try clear hk); (try clear hi); have hcz16_0 : w15.cell? ⟨gb353, 0, none⟩ = some (.int .i64 t347) := (blk_cell BK353.out 0).trans rfl; have hcz16_1 : w15.cell? ⟨gb353, 1, none⟩ = some (.slice Ao14 t348.length co14) := (blk_cell BK353.out 1).trans rfl; have hcz16_2 : w15.cell? ⟨gb353, 2, none⟩ = some (.bool t351) := (blk_cell BK353.out 2).trans rfl; have hfz16_0 := blk_frozen BK353.out 0; have hfz16_1 := blk_frozen BK353.out 1; have hfz16_2 := blk_frozen BK353.out 2) | ((with_reducible refine gate_callee (f := 7) rfl ?_); refine goesL_ (some 35) rfl rfl Tryd.func7 (by kernel_rfl) rfl #[.agg #[.int .i64 t347, .slice Ao14 t348.length co14, .bool t351], .int .i64 t352] rfl (by (try simp only [List.map_toArray, List.map_cons, List.map_nil]); first | done | rfl | (simp only [List.length_drop, List.length_take]; rfl)) ?_; (with_reducible refine (spec_LabelOf.calls k t347 _ _ t348 t351 t352 t356 t357 _ ?side1 ?side2 A6.out).mono ?_); (case side1 => repeat (first | exact (Kd.R_reads' HO350.out).2.2 | (with_reducible refine Kd.C_alloc ?_ _) | (with_reducible refine Kd.C_drewN ?_ _) | (with_reducible refine Kd.C_drew ?_))); (case side2 => exact (Kd.R_reads' HO350.out).2.1); rintro e w17 ⟨rfl, hb⟩; refine ⟨_, rfl, ?_⟩; have n0_ := Aside0.mk (Kd.R_below (by (with_reducible repeat (first | apply Kd.R_alloc | apply Kd.R_drewN | apply Kd.R_drew)); exact HO350.out) hb); have n1_ := Aside0.mk (blk_below (g := gb353) (o := .cells #[.int .i64 t347, .slice Ao14 t348.length co14, .bool t351] 28 (0, 0)) (by (with_reducible repeat (first | refine blk_drewN ?_ _ | refine blk_drew ?_ | refine blk_alloc ?_ _)); exact BK353.out) hb); have n2_ := Aside0.mk (below_step (by repeat (first | (with_reducible first | exact HB.out | apply below_alloc | apply pw_below_drewN | apply below_drew1 | refine below_set ?_ GE353.out) | exact HB.out)) hb); clear HO350; clear BK353; clear HB; have HO350 := n0_; have BK353 := n1_; have HB := n2_; clear n0_ n1_ n2_; (try clear hb); (try clear hb2); (try clear hk); (try clear hi)) | ((with_reducible refine gate_callee (f := 15) rfl ?_); refine goesL_ (some 40) rfl rfl Tryd.func15 (by kernel_rfl) rfl #[.slice A0 l0.length c0] rfl (by (try simp only [List.map_toArray, List.map_cons, List.map_nil]); first | done | rfl | (simp only [List.length_drop, List.length_take]; rfl)) ?_; (with_reducible refine (spec_DrawPageOfLabel.calls k _ _ l0 t358 t359 t362 t363 _ ?side1 ?side2 A7.out).mono ?_); (case side1 => repeat (first | exact (Kd.C_below HR0.out HB.out) | (with_reducible refine Kd.C_alloc ?_ _) | (with_reducible refine Kd.C_drewN ?_ _) | (with_reducible refine Kd.C_drew ?_))); (case side2 => exact HC0.out); rintro e w18 ⟨v360, rfl, ho0, hb⟩; refine ⟨_, rfl, ?_⟩; have n0_ := Aside0.mk (Kd.R_elder' (by (with_reducible repeat (first | apply Kd.R_alloc | apply Kd.R_drewN | apply Kd.R_drew)); exact HO350.out) (Kd.R_base ho0) hb); have n1_ := Aside0.mk (Kd.R_lower (Kd.R_new' ho0 (Kd.R_lt (by (with_reducible repeat (first | apply Kd.R_alloc | apply Kd.R_drewN | apply Kd.R_drew)); exact HO350.out))) (below_size (by repeat (first | (with_reducible first | exact HB.out | apply below_alloc | apply pw_below_drewN | apply below_drew1 | refine below_set ?_ GE353.out) | exact HB.out)))); have n2_ := Aside0.mk (blk_below (g := gb353) (o := .cells #[.int .i64 t347, .slice Ao14 t348.length co14, .bool t351] 28 (0, 0)) (by (with_reducible repeat (first | refine blk_drewN ?_ _ | refine blk_drew ?_ | refine blk_alloc ?_ _)); exact BK353.out) hb); have n3_ := Aside0.mk (below_step (by repeat (first | (with_reducible first | exact HB.out | apply below_alloc | apply pw_below_drewN | apply below_drew1 | refine below_set ?_ GE353.out) | exact HB.out)) hb); clear HO350; clear BK353; clear HB; have HO350 := n0_; have HO361 := n1_; have BK353 := n2_; have HB := n3_; clear n0_ n1_ n2_ n3_; (try clear hb); (try clear hb2); (try clear hk); (try clear hi); (try clear ho0)) | ((with_reducible refine gate_dst (N := 9) rfl ?_); refine box_event ?hg (N := 9) ?hd (cs := #[.int .i64 0, .slice none 0 0, .bool false]) (t := 28) ?hr ?_; (case hd => rfl); (case hg => rfl); (case hr => first | (go_simp; done) | (go_simp; rfl)); intro gb364 hg w19 hbox hb; have n0_ := Aside0.mk (Kd.R_below (by (with_reducible repeat (first | apply Kd.R_alloc | apply Kd.R_drewN | apply Kd.R_drew)); exact HO350.out) hb); have n1_ := Aside0.mk (Kd.R_below (by (with_reducible repeat (first | apply Kd.R_alloc | apply Kd.R_drewN | apply Kd.R_drew)); exact HO361.out) hb); have n2_ := Aside0.mk (blk_below (g := gb353) (o := .cells #[.int .i64 t347, .slice Ao14 t348.length co14, .bool t351] 28 (0, 0)) (by (with_reducible repeat (first | refine blk_drewN ?_ _ | refine blk_drew ?_ | refine blk_alloc ?_ _)); exact BK353.out) hb); have n3_ := Aside0.mk (below_step (by repeat (first | (with_reducible first | exact HB.out | apply below_alloc | apply pw_below_drewN | apply below_drew1 | refine below_set ?_ GE353.out) | exact HB.out)) hb); have n4_ := Aside0.mk (hbox); have n5_ := Aside0.mk ((by rw [hg]; exact (below_size (by repeat (first | (with_reducible first | exact HB.out | apply below_alloc | apply pw_below_drewN | apply below_drew1 | refine below_set ?_ GE353.out) | exact HB.out))) : w.heap.size ≤ gb364)); have n6_ := Aside0.mk ((by rw [hg]; exact (below_size (by repeat (first | (with_reducible first | exact HB.out | apply below_alloc | apply pw_below_drewN | apply below_drew1 | refine below_set ?_ GE353.out) | exact HB.out))) : w.heap.size ≤ gb364)); have n7_ := Aside0.mk ((by rw [hg]; exact Nat.ne_of_lt (blk_lt (g := gb353) (o := .cells #[.int .i64 t347, .slice Ao14 t348.length co14, .bool t351] 28 (0, 0)) (by (with_reducible repeat (first | refine blk_drewN ?_ _ | refine blk_drew ?_ | refine blk_alloc ?_ _)); exact BK353.out)) : gb353 ≠ gb364)); have n8_ := Aside0.mk ((by rw [hg]; exact Nat.ne_of_gt (blk_lt (g := gb353) (o := .cells #[.int .i64 t347, .slice Ao14 t348.length co14, .bool t351] 28 (0, 0)) (by (with_reducible repeat (first | refine blk_drewN ?_ _ | refine blk_drew ?_ | refine blk_alloc ?_ _)); exact BK353.out)) : gb364 ≠ gb353)); clear HO350; clear HO361; clear BK353; clear HB; have HO350 := n0_; have HO361 := n1_; have BK353 := n2_; have HB := n3_; have BK364 := n4_; have GW364 := n5_; have GE364 := n6_; have NB353_364 := n7_; have NB364_353 := n8_; clear n0_ n1_ n2_ n3_ n4_ n5_ n6_ n7_ n8_; clear hb hbox hg; have hnb20 := NB364_353.out; have hnc20 := NB353_364.out; have hcz21_0 : w19.cell? ⟨gb364, 0, none⟩ = some (.int .i64 0) := (blk_cell BK364.out 0).trans rfl; have hcz21_1 : w19.cell? ⟨gb364, 1, none⟩ = some (.slice none 0 0) := (blk_cell BK364.out 1).trans rfl; have hcz21_2 : w19.cell? ⟨gb364, 2, none⟩ = some (.bool false) := (blk_cell BK364.out 2).trans rfl; have hfz21_0 := blk_frozen BK364.out 0; have hfz21_1 := blk_frozen BK364.out 1; have hfz21_2 := blk_frozen BK364.out 2; obtain ⟨Ao22, co22, eo22⟩ := Kd.R_slice HO361.out; subst eo22) | ((with_reducible refine gate_callee (f := 12) rfl ?_); refine goesL_ (some 46) rfl rfl Tryd.func12 (by kernel_rfl) rfl #[.agg #[.int .i64 t358, .slice Ao22 t359.length co22, .bool t362], .string t363] rfl (by (try simp only [List.map_toArray, List.map_cons, List.map_nil]); first | done | rfl | (simp only [List.length_drop, List.length_take]; rfl)) ?_; (with_reducible refine (impl_PageOfLabel.calls (HT_ := (by first | exact HT_ | exact tabs_drewN HT_ _ | exact tabs_drew HT_ | exact tabs_stays HT_ (by repeat (first | (with_reducible first | exact HB.out | apply below_alloc | apply pw_below_drewN | apply below_drew1 | refine below_set ?_ GE353.out | refine below_set ?_ GE364.out | refine below_set ?_ GW353.out | refine below_set ?_ GW364.out) | exact HB.out)))) k t358 _ _ t359 t362 t363 t365 t366 _ ?side1 ?side2 A8.out).mono ?_); (case side1 => refine (Kd.R_reads' (e := 2) (base := w.heap.size) (ok := fun k_ => (True ∧ some k_ ≠ (.slice Ao14 t348.length co14 : Value).ownBlock)) (n := t359.length) (c := co22) ?_).2.2; exact (by (with_reducible repeat (first | apply Kd.R_alloc | apply Kd.R_drewN | apply Kd.R_drew)); exact (Kd.R_mono (Kd.R_far (p := ⟨gb364, 2, none⟩) (Kd.R_far (p := ⟨gb364, 1, none⟩) (Kd.R_far (p := ⟨gb364, 0, none⟩) (Kd.R_types HO361.out BK364.out (by decide)) (fun _ hk => hk.2) (.int .i64 t358)) (fun _ hk => hk.2) (.slice Ao22 t359.length co22)) (fun _ hk => hk.2) (.bool t362)) (fun _ h_ => h_.1)))); (case side2 => exact (Kd.R_reads' HO361.out).2.1); rintro e w23 ⟨rfl, hb⟩; refine ⟨_, rfl, ?_⟩; have n0_ := Aside0.mk (Kd.R_below (by (with_reducible repeat (first | apply Kd.R_alloc | apply Kd.R_drewN | apply Kd.R_drew)); exact (Kd.R_mono (Kd.R_far (p := ⟨gb364, 2, none⟩) (Kd.R_far (p := ⟨gb364, 1, none⟩) (Kd.R_far (p := ⟨gb364, 0, none⟩) (Kd.R_types HO350.out BK364.out (by decide)) (fun _ hk => hk.2) (.int .i64 t358)) (fun _ hk => hk.2) (.slice Ao22 t359.length co22)) (fun _ hk => hk.2) (.bool t362)) (fun _ h_ => h_.1))) hb); have n1_ := Aside0.mk (Kd.R_below (by (with_reducible repeat (first | apply Kd.R_alloc | apply Kd.R_drewN | apply Kd.R_drew)); exact (Kd.R_mono (Kd.R_far (p := ⟨gb364, 2, none⟩) (Kd.R_far (p := ⟨gb364, 1, none⟩) (Kd.R_far (p := ⟨gb364, 0, none⟩) (Kd.R_types HO361.out BK364.out (by decide)) (fun _ hk => hk.2) (.int .i64 t358)) (fun _ hk => hk.2) (.slice Ao22 t359.length co22)) (fun _ hk => hk.2) (.bool t362)) (fun _ h_ => h_.1))) hb); have n2_ := Aside0.mk (blk_below (g := gb353) (o := .cells #[.int .i64 t347, .slice Ao14 t348.length co14, .bool t351] 28 (0, 0)) (by (with_reducible repeat (first | refine blk_drewN ?_ _ | refine blk_drew ?_ | refine blk_alloc ?_ _)); refine blk_far ?_ NB353_364.out _; (with_reducible repeat (first | refine blk_drewN ?_ _ | refine blk_drew ?_ | refine blk_alloc ?_ _)); refine blk_far ?_ NB353_364.out _; (with_reducible repeat (first | refine blk_drewN ?_ _ | refine blk_drew ?_ | refine blk_alloc ?_ _)); refine blk_far ?_ NB353_364.out _; (with_reducible repeat (first | refine blk_drewN ?_ _ | refine blk_drew ?_ | refine blk_alloc ?_ _)); exact BK353.out) hb); have n3_ := Aside0.mk (blk_below (g := gb364) (o := .cells #[.int .i64 t358, .slice Ao22 t359.length co22, .bool t362] 28 (0, 0)) (by (with_reducible repeat (first | refine blk_drewN ?_ _ | refine blk_drew ?_ | refine blk_alloc ?_ _)); refine blk_put (cs := #[.int .i64 t358, .slice Ao22 t359.length co22, .bool false]) ?_ 2 _ rfl; (with_reducible repeat (first | refine blk_drewN ?_ _ | refine blk_drew ?_ | refine blk_alloc ?_ _)); refine blk_put (cs := #[.int .i64 t358, .slice none 0 0, .bool false]) ?_ 1 _ rfl; (with_reducible repeat (first | refine blk_drewN ?_ _ | refine blk_drew ?_ | refine blk_alloc ?_ _)); refine blk_put (cs := #[.int .i64 0, .slice none 0 0, .bool false]) ?_ 0 _ rfl; (with_reducible repeat (first | refine blk_drewN ?_ _ | refine blk_drew ?_ | refine blk_alloc ?_ _)); exact BK364.out) hb); have n4_ := Aside0.mk (below_step (by repeat (first | (with_reducible first | exact HB.out | apply below_alloc | apply pw_below_drewN | apply below_drew1 | refine below_set ?_ GE353.out | refine below_set ?_ GE364.out) | exact HB.out)) hb); clear HO350; clear HO361; clear BK353; clear BK364; clear HB; have HO350 := n0_; have HO361 := n1_; have BK353 := n2_; have BK364 := n3_; have HB := n4_; clear n0_ n1_ n2_ n3_ n4_; (try clear hb); (try clear hb2); (try clear hk); (try clear hi); have hcz24_0 : w23.cell? ⟨gb364, 0, none⟩ = some (.int .i64 t358) := (blk_cell BK364.out 0).trans rfl; have hcz24_1 : w23.cell? ⟨gb364, 1, none⟩ = some (.slice Ao22 t359.length co22) := (blk_cell BK364.out 1).trans rfl; have hcz24_2 : w23.cell? ⟨gb364, 2, none⟩ = some (.bool t362) := (blk_cell BK364.out 2).trans rfl; have hfz24_0 := blk_frozen BK364.out 0; have hfz24_1 := blk_frozen BK364.out 1; have hfz24_2 := blk_frozen BK364.out 2) | ((with_reducible refine gate_callee (f := 11) rfl ?_); refine goesL_ (some 52) rfl rfl Tryd.func11 (by kernel_rfl) rfl #[.agg #[.int .i64 t358, .slice Ao22 t359.length co22, .bool t362], .string t363] rfl (by (try simp only [List.map_toArray, List.map_cons, List.map_nil]); first | done | rfl | (simp only [List.length_drop, List.length_take]; rfl)) ?_; (with_reducible refine (spec_PageOfLabel.calls k t358 _ _ t359 t362 t363 t367 t368 _ ?side1 ?side2 A9.out).mono ?_); (case side1 => repeat (first | exact (Kd.R_reads' HO361.out).2.2 | (with_reducible refine Kd.C_alloc ?_ _) | (with_reducible refine Kd.C_drewN ?_ _) | (with_reducible refine Kd.C_drew ?_))); (case side2 => exact (Kd.R_reads' HO361.out).2.1); rintro e w25 ⟨rfl, hb⟩; refine ⟨_, rfl, ?_⟩; have n0_ := Aside0.mk (Kd.R_below (by (with_reducible repeat (first | apply Kd.R_alloc | apply Kd.R_drewN | apply Kd.R_drew)); exact HO350.out) hb); have n1_ := Aside0.mk (Kd.R_below (by (with_reducible repeat (first | apply Kd.R_alloc | apply Kd.R_drewN | apply Kd.R_drew)); exact HO361.out) hb); have n2_ := Aside0.mk (blk_below (g := gb353) (o := .cells #[.int .i64 t347, .slice Ao14 t348.length co14, .bool t351] 28 (0, 0)) (by (with_reducible repeat (first | refine blk_drewN ?_ _ | refine blk_drew ?_ | refine blk_alloc ?_ _)); exact BK353.out) hb); have n3_ := Aside0.mk (blk_below (g := gb364) (o := .cells #[.int .i64 t358, .slice Ao22 t359.length co22, .bool t362] 28 (0, 0)) (by (with_reducible repeat (first | refine blk_drewN ?_ _ | refine blk_drew ?_ | refine blk_alloc ?_ _)); exact BK364.out) hb); have n4_ := Aside0.mk (below_step (by repeat (first | (with_reducible first | exact HB.out | apply below_alloc | apply pw_below_drewN | apply below_drew1 | refine below_set ?_ GE353.out | refine below_set ?_ GE364.out) | exact HB.out)) hb); clear HO350; clear HO361; clear BK353; clear BK364; clear HB; have HO350 := n0_; have HO361 := n1_; have BK353 := n2_; have BK364 := n3_; have HB := n4_; clear n0_ n1_ n2_ n3_ n4_; (try clear hb); (try clear hb2); (try clear hk); (try clear hi)))
    (try simp only [Act.put, List.setIfInBounds_toArray, List.set_cons_zero, List.set_cons_succ])
    go_cut [72] (fun v72 wc => ∃ (kq : Nat) (x72_9 : Bool), v72 = .bool x72_9 ∧ Aside0 (laws_FnLabels.j0 kq t352 t354 t355 t363 t365 t366 x72_9 t347 t348 t351 t358 t359 t362 = some r) ∧ Aside0 (kq ≤ k) ∧ Aside0 (Kd.R (Kd.int .i64) 2 wc w.heap.size (fun k_ => some k_ ≠ ((.slice Ao22 t359.length co22) : Value).ownBlock) (.slice Ao14 t348.length co14) t348) ∧ Aside0 (Kd.R (Kd.int .i64) 2 wc w.heap.size (fun k_ => some k_ ≠ ((.slice Ao14 t348.length co14) : Value).ownBlock) (.slice Ao22 t359.length co22) t359) ∧ Aside0 (wc.heap[gb353]? = some (.cells #[.int .i64 t347, (.slice Ao14 t348.length co14), .bool t351] 28 (0, 0))) ∧ Aside0 (wc.heap[gb364]? = some (.cells #[.int .i64 t358, (.slice Ao22 t359.length co22), .bool t362] 28 (0, 0))) ∧ Aside0 (Below w.heap.size w wc))
    case first =>
      have H := HC10.out
      clear HC10
      by_cases c26 : t355 = t357
      · rw [if_pos c26] at H
        have c26b0 : (t355 == t357) = true := beq_iff_eq.mpr c26
        have c26b1 : (t355 != t357) = false := bne_eq_false_iff_eq.mpr c26
        clear c26
        (first | rw [c26b0] | (simp only [i64_w, i32_w]; rw [c26b0]) | skip)
        by_cases c27 : t354.toList = t356.toList
        · rw [if_pos c27] at H
          have c27b0 : (t354.toList == t356.toList) = true := beq_iff_eq.mpr c27
          have c27b1 : (t354.toList != t356.toList) = false := bne_eq_false_iff_eq.mpr c27
          clear c27
          by_cases c28 : t366 = t368
          · rw [if_pos c28] at H
            have c28b0 : (t366 == t368) = true := beq_iff_eq.mpr c28
            have c28b1 : (t366 != t368) = false := bne_eq_false_iff_eq.mpr c28
            clear c28
            have H' := Aside0.mk H
            clear H
            go_wp2
            go_meet
            case rel => exact ⟨_, ((t365 != t367)), (by first | rfl | (simp; done) | (simp [*]; done)), H', ⟨by first | omega | exact Nat.le_refl _⟩, ⟨by (with_reducible repeat (first | apply Kd.R_alloc | apply Kd.R_drewN | apply Kd.R_drew)); exact Kd.R_mono HO350.out (fun _ hk => hk.2)⟩, ⟨by (with_reducible repeat (first | apply Kd.R_alloc | apply Kd.R_drewN | apply Kd.R_drew)); exact Kd.R_mono HO361.out (fun _ hk => hk.2)⟩, ⟨by (with_reducible repeat (first | refine blk_drewN ?_ _ | refine blk_drew ?_ | refine blk_alloc ?_ _)); exact BK353.out⟩, ⟨by (with_reducible repeat (first | refine blk_drewN ?_ _ | refine blk_drew ?_ | refine blk_alloc ?_ _)); exact BK364.out⟩, ⟨by repeat (first | (with_reducible first | exact HB.out | apply below_alloc | apply pw_below_drewN | apply below_drew1 | refine below_set ?_ GE353.out | refine below_set ?_ GE364.out) | exact HB.out)⟩⟩
          · rw [if_neg c28] at H
            exact absurd H (by simp)
        · rw [if_neg c27] at H
          exact absurd H (by simp)
      · rw [if_neg c26] at H
        exact absurd H (by simp)
    case rest =>
      clear HC10
      try clear c1
      try clear c2
      try clear p2
      try clear c3
      try clear c5
      try clear c7
      try clear c9
      try clear c11
      try clear c12
      try clear c13
      try clear c14
      try clear c15
      try clear c20
      try clear c26
      try clear c26b0
      try clear c26b1
      try clear c27
      try clear c27b0
      try clear c27b1
      try clear c28
      try clear c28b0
      try clear c28b1
      try clear hcz13_0
      try clear hcz13_1
      try clear hcz13_2
      try clear hcz16_0
      try clear hcz16_1
      try clear hcz16_2
      try clear hcz21_0
      try clear hcz21_1
      try clear hcz21_2
      try clear hcz24_0
      try clear hcz24_1
      try clear hcz24_2
      try clear hfz13_0
      try clear hfz13_1
      try clear hfz13_2
      try clear hfz16_0
      try clear hfz16_1
      try clear hfz16_2
      try clear hfz21_0
      try clear hfz21_1
      try clear hfz21_2
      try clear hfz24_0
      try clear hfz24_1
      try clear hfz24_2
      obtain ⟨kq, x72_9, rfl, HA, HJ9, HO_354001, HO_365001, BK353, BK364, HB⟩ := hcut
      cases kq with
      | zero => exact absurd HA.out (by simp [laws_FnLabels.j0])
      | succ kj9 =>
        have H := HA.out
        clear HA
        simp only [laws_FnLabels.j0] at H
        by_cases c29 : x72_9 = true
        · subst c29
          have H1 : (none) = some r := by rw [if_pos rfl] at H; exact H
          clear H
          have H := H1
          clear H1
          exact absurd H (by simp)
        · replace c29 := Bool.eq_false_iff.mpr c29
          subst c29
          have H1 : (if t366 = 0 then ((impl_LabelOf.f kj9 t358 t359 t362 t365).bind fun bt369 => (if bt369.2 = 0 then (laws_FnLabels.j1 kj9 t352 t354 t355 (bt369.1.toList != t363.toList) t347 t348 t351) else (none))) else (if t355 = 0 then ((impl_PageOfLabel.f kj9 t347 t348 t351 t354).bind fun bt373 => (if bt373.2 = 0 then (some (bt373.1 == t352)) else (none))) else (some true))) = some r := by rw [if_neg (show ¬ (false = true) by decide)] at H; exact H
          clear H
          have H := H1
          clear H1
          by_cases c30 : t366 = 0
          · rw [if_pos c30] at H
            have c30b0 : (t366 == 0) = true := beq_iff_eq.mpr c30
            have c30b1 : (t366 != 0) = false := bne_eq_false_iff_eq.mpr c30
            clear c30
            replace H := Option.bind_eq_some_iff.mp H
            obtain ⟨⟨t369, t370⟩, A310, H⟩ := H
            replace H : (if t370 = 0 then (laws_FnLabels.j1 kj9 t352 t354 t355 (t369.toList != t363.toList) t347 t348 t351) else (none)) = some r := H
            have A31 := Aside0.mk A310
            clear A310
            have HC32 := Aside0.mk H
            clear H
            have hnb33 := NB364_353.out
            have hnc33 := NB353_364.out
            have hcz34_0 : wc.cell? ⟨gb364, 0, none⟩ = some (.int .i64 t358) := (blk_cell BK364.out 0).trans rfl
            have hcz34_1 : wc.cell? ⟨gb364, 1, none⟩ = some (.slice Ao22 t359.length co22) := (blk_cell BK364.out 1).trans rfl
            have hcz34_2 : wc.cell? ⟨gb364, 2, none⟩ = some (.bool t362) := (blk_cell BK364.out 2).trans rfl
            have hfz34_0 := blk_frozen BK364.out 0
            have hfz34_1 := blk_frozen BK364.out 1
            have hfz34_2 := blk_frozen BK364.out 2
            go_upto_region 13 with (first | ((with_reducible refine gate_callee (f := 9) rfl ?_); refine goesL_ (some 78) rfl rfl Tryd.func9 (by kernel_rfl) rfl #[.agg #[.int .i64 t358, .slice Ao22 t359.length co22, .bool t362], .int .i64 t365] rfl (by (try simp only [List.map_toArray, List.map_cons, List.map_nil]); first | done | rfl | (simp only [List.length_drop, List.length_take]; rfl)) ?_; (with_reducible refine (impl_LabelOf.calls (HT_ := (by first | exact HT_ | exact tabs_drewN HT_ _ | exact tabs_drew HT_ | exact tabs_stays HT_ (by repeat (first | (with_reducible first | exact HB.out | apply below_alloc | apply pw_below_drewN | apply below_drew1 | refine below_set ?_ GE353.out | refine below_set ?_ GE364.out | refine below_set ?_ GW353.out | refine below_set ?_ GW364.out) | exact HB.out)))) kj9 t358 _ _ t359 t362 t365 t369 t370 _ ?side1 ?side2 A31.out).mono ?_); (case side1 => repeat (first | exact (Kd.R_reads' HO_365001.out).2.2 | (with_reducible refine Kd.C_alloc ?_ _) | (with_reducible refine Kd.C_drewN ?_ _) | (with_reducible refine Kd.C_drew ?_))); (case side2 => exact (Kd.R_reads' HO_365001.out).2.1); rintro e w35 ⟨rfl, hb⟩; refine ⟨_, rfl, ?_⟩; have n0_ := Aside0.mk (Kd.R_below (by (with_reducible repeat (first | apply Kd.R_alloc | apply Kd.R_drewN | apply Kd.R_drew)); exact HO_354001.out) hb); have n1_ := Aside0.mk (Kd.R_below (by (with_reducible repeat (first | apply Kd.R_alloc | apply Kd.R_drewN | apply Kd.R_drew)); exact HO_365001.out) hb); have n2_ := Aside0.mk (blk_below (g := gb353) (o := .cells #[.int .i64 t347, .slice Ao14 t348.length co14, .bool t351] 28 (0, 0)) (by (with_reducible repeat (first | refine blk_drewN ?_ _ | refine blk_drew ?_ | refine blk_alloc ?_ _)); exact BK353.out) hb); have n3_ := Aside0.mk (blk_below (g := gb364) (o := .cells #[.int .i64 t358, .slice Ao22 t359.length co22, .bool t362] 28 (0, 0)) (by (with_reducible repeat (first | refine blk_drewN ?_ _ | refine blk_drew ?_ | refine blk_alloc ?_ _)); exact BK364.out) hb); have n4_ := Aside0.mk (below_step (by repeat (first | (with_reducible first | exact HB.out | apply below_alloc | apply pw_below_drewN | apply below_drew1 | refine below_set ?_ GE353.out | refine below_set ?_ GE364.out) | exact HB.out)) hb); clear HO_354001; clear HO_365001; clear BK353; clear BK364; clear HB; have HO_354001 := n0_; have HO_365001 := n1_; have BK353 := n2_; have BK364 := n3_; have HB := n4_; clear n0_ n1_ n2_ n3_ n4_; (try clear hb); (try clear hb2); (try clear hk); (try clear hi)))
            (try simp only [Act.put, List.setIfInBounds_toArray, List.set_cons_zero, List.set_cons_succ])
            go_cut [87] (fun v87 wc => ∃ (kq : Nat) (x87_31 : Bool), v87 = .bool x87_31 ∧ Aside0 (laws_FnLabels.j1 kq t352 t354 t355 x87_31 t347 t348 t351 = some r) ∧ Aside0 (kq ≤ kj9) ∧ Aside0 (Kd.R (Kd.int .i64) 2 wc w.heap.size (fun k_ => some k_ ≠ ((.slice Ao22 t359.length co22) : Value).ownBlock) (.slice Ao14 t348.length co14) t348) ∧ Aside0 (Kd.R (Kd.int .i64) 2 wc w.heap.size (fun k_ => some k_ ≠ ((.slice Ao14 t348.length co14) : Value).ownBlock) (.slice Ao22 t359.length co22) t359) ∧ Aside0 (wc.heap[gb353]? = some (.cells #[.int .i64 t347, (.slice Ao14 t348.length co14), .bool t351] 28 (0, 0))) ∧ Aside0 (wc.heap[gb364]? = some (.cells #[.int .i64 t358, (.slice Ao22 t359.length co22), .bool t362] 28 (0, 0))) ∧ Aside0 (Below w.heap.size w wc))
            case first =>
              have H := HC32.out
              clear HC32
              by_cases c36 : t370 = 0
              · rw [if_pos c36] at H
                have c36b0 : (t370 == 0) = true := beq_iff_eq.mpr c36
                have c36b1 : (t370 != 0) = false := bne_eq_false_iff_eq.mpr c36
                clear c36
                (first | rw [c36b0] | (simp only [i64_w, i32_w]; rw [c36b0]) | skip)
                have H' := Aside0.mk H
                clear H
                go_wp2
                go_meet
                case rel => exact ⟨_, ((t369.toList != t363.toList)), (by first | rfl | (simp; done) | (simp [*]; done)), H', ⟨by have := HJ9.out; first | omega | exact Nat.le_refl _⟩, ⟨by (with_reducible repeat (first | apply Kd.R_alloc | apply Kd.R_drewN | apply Kd.R_drew)); exact HO_354001.out⟩, ⟨by (with_reducible repeat (first | apply Kd.R_alloc | apply Kd.R_drewN | apply Kd.R_drew)); exact HO_365001.out⟩, ⟨by (with_reducible repeat (first | refine blk_drewN ?_ _ | refine blk_drew ?_ | refine blk_alloc ?_ _)); exact BK353.out⟩, ⟨by (with_reducible repeat (first | refine blk_drewN ?_ _ | refine blk_drew ?_ | refine blk_alloc ?_ _)); exact BK364.out⟩, ⟨by repeat (first | (with_reducible first | exact HB.out | apply below_alloc | apply pw_below_drewN | apply below_drew1 | refine below_set ?_ GE353.out | refine below_set ?_ GE364.out) | exact HB.out)⟩⟩
              · rw [if_neg c36] at H
                exact absurd H (by simp)
            case rest =>
              clear HC32
              try clear c1
              try clear c2
              try clear p2
              try clear c3
              try clear c5
              try clear c7
              try clear c9
              try clear c11
              try clear c12
              try clear c13
              try clear c14
              try clear c15
              try clear c20
              try clear c26
              try clear c26b0
              try clear c26b1
              try clear c27
              try clear c27b0
              try clear c27b1
              try clear c28
              try clear c28b0
              try clear c28b1
              try clear c29
              try clear c30
              try clear c30b0
              try clear c30b1
              try clear c33
              try clear c36
              try clear c36b0
              try clear c36b1
              try clear hcz13_0
              try clear hcz13_1
              try clear hcz13_2
              try clear hcz16_0
              try clear hcz16_1
              try clear hcz16_2
              try clear hcz21_0
              try clear hcz21_1
              try clear hcz21_2
              try clear hcz24_0
              try clear hcz24_1
              try clear hcz24_2
              try clear hcz34_0
              try clear hcz34_1
              try clear hcz34_2
              try clear hfz13_0
              try clear hfz13_1
              try clear hfz13_2
              try clear hfz16_0
              try clear hfz16_1
              try clear hfz16_2
              try clear hfz21_0
              try clear hfz21_1
              try clear hfz21_2
              try clear hfz24_0
              try clear hfz24_1
              try clear hfz24_2
              try clear hfz34_0
              try clear hfz34_1
              try clear hfz34_2
              try clear p2
              obtain ⟨kq, x87_31, rfl, HA, HJ31, HO_354001, HO_365001, BK353, BK364, HB⟩ := hcut
              cases kq with
              | zero => exact absurd HA.out (by simp [laws_FnLabels.j1])
              | succ kj31 =>
                have H := HA.out
                clear HA
                simp only [laws_FnLabels.j1] at H
                by_cases c37 : x87_31 = true
                · subst c37
                  have H1 : (none) = some r := by rw [if_pos rfl] at H; exact H
                  clear H
                  have H := H1
                  clear H1
                  exact absurd H (by simp)
                · replace c37 := Bool.eq_false_iff.mpr c37
                  subst c37
                  have H1 : (if t355 = 0 then ((impl_PageOfLabel.f kj31 t347 t348 t351 t354).bind fun bt371 => (if bt371.2 = 0 then (some (bt371.1 == t352)) else (none))) else (some true)) = some r := by rw [if_neg (show ¬ (false = true) by decide)] at H; exact H
                  clear H
                  have H := H1
                  clear H1
                  by_cases c38 : t355 = 0
                  · rw [if_pos c38] at H
                    have c38b0 : (t355 == 0) = true := beq_iff_eq.mpr c38
                    have c38b1 : (t355 != 0) = false := bne_eq_false_iff_eq.mpr c38
                    clear c38
                    replace H := Option.bind_eq_some_iff.mp H
                    obtain ⟨⟨t371, t372⟩, A390, H⟩ := H
                    replace H : (if t372 = 0 then (some (t371 == t352)) else (none)) = some r := H
                    have A39 := Aside0.mk A390
                    clear A390
                    by_cases c40 : t372 = 0
                    · rw [if_pos c40] at H
                      have c40b0 : (t372 == 0) = true := beq_iff_eq.mpr c40
                      have c40b1 : (t372 != 0) = false := bne_eq_false_iff_eq.mpr c40
                      clear c40
                      obtain rfl := Option.some.inj H
                      have hnb41 := NB353_364.out
                      have hnc41 := NB364_353.out
                      have hcz42_0 : wc.cell? ⟨gb353, 0, none⟩ = some (.int .i64 t347) := (blk_cell BK353.out 0).trans rfl
                      have hcz42_1 : wc.cell? ⟨gb353, 1, none⟩ = some (.slice Ao14 t348.length co14) := (blk_cell BK353.out 1).trans rfl
                      have hcz42_2 : wc.cell? ⟨gb353, 2, none⟩ = some (.bool t351) := (blk_cell BK353.out 2).trans rfl
                      have hfz42_0 := blk_frozen BK353.out 0
                      have hfz42_1 := blk_frozen BK353.out 1
                      have hfz42_2 := blk_frozen BK353.out 2
                      go_wp2_with (first | ((with_reducible refine gate_callee (f := 12) rfl ?_); refine goesL_ (some 93) rfl rfl Tryd.func12 (by kernel_rfl) rfl #[.agg #[.int .i64 t347, .slice Ao14 t348.length co14, .bool t351], .string t354] rfl (by (try simp only [List.map_toArray, List.map_cons, List.map_nil]); first | done | rfl | (simp only [List.length_drop, List.length_take]; rfl)) ?_; (with_reducible refine (impl_PageOfLabel.calls (HT_ := (by first | exact HT_ | exact tabs_drewN HT_ _ | exact tabs_drew HT_ | exact tabs_stays HT_ (by repeat (first | (with_reducible first | exact HB.out | apply below_alloc | apply pw_below_drewN | apply below_drew1 | refine below_set ?_ GE353.out | refine below_set ?_ GE364.out | refine below_set ?_ GW353.out | refine below_set ?_ GW364.out) | exact HB.out)))) kj31 t347 _ _ t348 t351 t354 t371 t372 _ ?side1 ?side2 A39.out).mono ?_); (case side1 => repeat (first | exact (Kd.R_reads' HO_354001.out).2.2 | (with_reducible refine Kd.C_alloc ?_ _) | (with_reducible refine Kd.C_drewN ?_ _) | (with_reducible refine Kd.C_drew ?_))); (case side2 => exact (Kd.R_reads' HO_354001.out).2.1); rintro e w43 ⟨rfl, hb⟩; refine ⟨_, rfl, ?_⟩; have n0_ := Aside0.mk (Kd.R_below (by (with_reducible repeat (first | apply Kd.R_alloc | apply Kd.R_drewN | apply Kd.R_drew)); exact HO_354001.out) hb); have n1_ := Aside0.mk (Kd.R_below (by (with_reducible repeat (first | apply Kd.R_alloc | apply Kd.R_drewN | apply Kd.R_drew)); exact HO_365001.out) hb); have n2_ := Aside0.mk (blk_below (g := gb353) (o := .cells #[.int .i64 t347, .slice Ao14 t348.length co14, .bool t351] 28 (0, 0)) (by (with_reducible repeat (first | refine blk_drewN ?_ _ | refine blk_drew ?_ | refine blk_alloc ?_ _)); exact BK353.out) hb); have n3_ := Aside0.mk (blk_below (g := gb364) (o := .cells #[.int .i64 t358, .slice Ao22 t359.length co22, .bool t362] 28 (0, 0)) (by (with_reducible repeat (first | refine blk_drewN ?_ _ | refine blk_drew ?_ | refine blk_alloc ?_ _)); exact BK364.out) hb); have n4_ := Aside0.mk (below_step (by repeat (first | (with_reducible first | exact HB.out | apply below_alloc | apply pw_below_drewN | apply below_drew1 | refine below_set ?_ GE353.out | refine below_set ?_ GE364.out) | exact HB.out)) hb); clear HO_354001; clear HO_365001; clear BK353; clear BK364; clear HB; have HO_354001 := n0_; have HO_365001 := n1_; have BK353 := n2_; have BK364 := n3_; have HB := n4_; clear n0_ n1_ n2_ n3_ n4_; (try clear hb); (try clear hb2); (try clear hk); (try clear hi)))
                      go_ret
                      exact ⟨by first | rfl | (simp only [Go.IntWalk.i64_left]; first | done | rfl) | (simp [errW_none, errW_some] <;> rfl) | (simp [*, errW_none, errW_some] <;> rfl), by repeat (first | (with_reducible first | exact HB.out | apply below_alloc | apply pw_below_drewN | apply below_drew1 | refine below_set ?_ GE353.out | refine below_set ?_ GE364.out) | exact HB.out)⟩
                    · rw [if_neg c40] at H
                      exact absurd H (by simp)
                  · rw [if_neg c38] at H
                    have c38b0 : (t355 == 0) = false := beq_eq_false_iff_ne.mpr c38
                    have c38b1 : (t355 != 0) = true := bne_iff_ne.mpr c38
                    obtain rfl := Option.some.inj H
                    go_wp2
                    go_ret
                    exact ⟨by first | rfl | (simp only [Go.IntWalk.i64_left]; first | done | rfl) | (simp [errW_none, errW_some] <;> rfl) | (simp [*, errW_none, errW_some] <;> rfl), by repeat (first | (with_reducible first | exact HB.out | apply below_alloc | apply pw_below_drewN | apply below_drew1 | refine below_set ?_ GE353.out | refine below_set ?_ GE364.out) | exact HB.out)⟩
          · rw [if_neg c30] at H
            have c30b0 : (t366 == 0) = false := beq_eq_false_iff_ne.mpr c30
            have c30b1 : (t366 != 0) = true := bne_iff_ne.mpr c30
            by_cases c44 : t355 = 0
            · rw [if_pos c44] at H
              have c44b0 : (t355 == 0) = true := beq_iff_eq.mpr c44
              have c44b1 : (t355 != 0) = false := bne_eq_false_iff_eq.mpr c44
              clear c44
              replace H := Option.bind_eq_some_iff.mp H
              obtain ⟨⟨t373, t374⟩, A450, H⟩ := H
              replace H : (if t374 = 0 then (some (t373 == t352)) else (none)) = some r := H
              have A45 := Aside0.mk A450
              clear A450
              by_cases c46 : t374 = 0
              · rw [if_pos c46] at H
                have c46b0 : (t374 == 0) = true := beq_iff_eq.mpr c46
                have c46b1 : (t374 != 0) = false := bne_eq_false_iff_eq.mpr c46
                clear c46
                obtain rfl := Option.some.inj H
                have hnb47 := NB353_364.out
                have hnc47 := NB364_353.out
                have hcz48_0 : wc.cell? ⟨gb353, 0, none⟩ = some (.int .i64 t347) := (blk_cell BK353.out 0).trans rfl
                have hcz48_1 : wc.cell? ⟨gb353, 1, none⟩ = some (.slice Ao14 t348.length co14) := (blk_cell BK353.out 1).trans rfl
                have hcz48_2 : wc.cell? ⟨gb353, 2, none⟩ = some (.bool t351) := (blk_cell BK353.out 2).trans rfl
                have hfz48_0 := blk_frozen BK353.out 0
                have hfz48_1 := blk_frozen BK353.out 1
                have hfz48_2 := blk_frozen BK353.out 2
                go_wp2_with (first | ((with_reducible refine gate_callee (f := 12) rfl ?_); refine goesL_ (some 93) rfl rfl Tryd.func12 (by kernel_rfl) rfl #[.agg #[.int .i64 t347, .slice Ao14 t348.length co14, .bool t351], .string t354] rfl (by (try simp only [List.map_toArray, List.map_cons, List.map_nil]); first | done | rfl | (simp only [List.length_drop, List.length_take]; rfl)) ?_; (with_reducible refine (impl_PageOfLabel.calls (HT_ := (by first | exact HT_ | exact tabs_drewN HT_ _ | exact tabs_drew HT_ | exact tabs_stays HT_ (by repeat (first | (with_reducible first | exact HB.out | apply below_alloc | apply pw_below_drewN | apply below_drew1 | refine below_set ?_ GE353.out | refine below_set ?_ GE364.out | refine below_set ?_ GW353.out | refine below_set ?_ GW364.out) | exact HB.out)))) kj9 t347 _ _ t348 t351 t354 t373 t374 _ ?side1 ?side2 A45.out).mono ?_); (case side1 => repeat (first | exact (Kd.R_reads' HO_354001.out).2.2 | (with_reducible refine Kd.C_alloc ?_ _) | (with_reducible refine Kd.C_drewN ?_ _) | (with_reducible refine Kd.C_drew ?_))); (case side2 => exact (Kd.R_reads' HO_354001.out).2.1); rintro e w49 ⟨rfl, hb⟩; refine ⟨_, rfl, ?_⟩; have n0_ := Aside0.mk (Kd.R_below (by (with_reducible repeat (first | apply Kd.R_alloc | apply Kd.R_drewN | apply Kd.R_drew)); exact HO_354001.out) hb); have n1_ := Aside0.mk (Kd.R_below (by (with_reducible repeat (first | apply Kd.R_alloc | apply Kd.R_drewN | apply Kd.R_drew)); exact HO_365001.out) hb); have n2_ := Aside0.mk (blk_below (g := gb353) (o := .cells #[.int .i64 t347, .slice Ao14 t348.length co14, .bool t351] 28 (0, 0)) (by (with_reducible repeat (first | refine blk_drewN ?_ _ | refine blk_drew ?_ | refine blk_alloc ?_ _)); exact BK353.out) hb); have n3_ := Aside0.mk (blk_below (g := gb364) (o := .cells #[.int .i64 t358, .slice Ao22 t359.length co22, .bool t362] 28 (0, 0)) (by (with_reducible repeat (first | refine blk_drewN ?_ _ | refine blk_drew ?_ | refine blk_alloc ?_ _)); exact BK364.out) hb); have n4_ := Aside0.mk (below_step (by repeat (first | (with_reducible first | exact HB.out | apply below_alloc | apply pw_below_drewN | apply below_drew1 | refine below_set ?_ GE353.out | refine below_set ?_ GE364.out) | exact HB.out)) hb); clear HO_354001; clear HO_365001; clear BK353; clear BK364; clear HB; have HO_354001 := n0_; have HO_365001 := n1_; have BK353 := n2_; have BK364 := n3_; have HB := n4_; clear n0_ n1_ n2_ n3_ n4_; (try clear hb); (try clear hb2); (try clear hk); (try clear hi)))
                go_ret
                exact ⟨by first | rfl | (simp only [Go.IntWalk.i64_left]; first | done | rfl) | (simp [errW_none, errW_some] <;> rfl) | (simp [*, errW_none, errW_some] <;> rfl), by repeat (first | (with_reducible first | exact HB.out | apply below_alloc | apply pw_below_drewN | apply below_drew1 | refine below_set ?_ GE353.out | refine below_set ?_ GE364.out) | exact HB.out)⟩
              · rw [if_neg c46] at H
                exact absurd H (by simp)
            · rw [if_neg c44] at H
              have c44b0 : (t355 == 0) = false := beq_eq_false_iff_ne.mpr c44
              have c44b1 : (t355 != 0) = true := bne_iff_ne.mpr c44
              obtain rfl := Option.some.inj H
              go_wp2
              go_ret
              exact ⟨by first | rfl | (simp only [Go.IntWalk.i64_left]; first | done | rfl) | (simp [errW_none, errW_some] <;> rfl) | (simp [*, errW_none, errW_some] <;> rfl), by repeat (first | (with_reducible first | exact HB.out | apply below_alloc | apply pw_below_drewN | apply below_drew1 | refine below_set ?_ GE353.out | refine below_set ?_ GE364.out) | exact HB.out)⟩

/-- THE ONE PURE STATEMENT of laws_FnLabels: yours. -/
def laws_FnLabels.Pure : Prop := ∀ (l0 : List Int), l0.length ≤ maxLen → l0.length * 1 ≤ 140737488351232 → (∀ x ∈ l0, (Lit.int .u8 x).wf = true) → ∃ k, laws_FnLabels.f k l0 = some true
theorem laws_FnLabels.walk (P : laws_FnLabels.Pure) (a0 : Option Addr) (len0 cap0 : Nat) (z0 : List Int) (w : World) (HT_ : Aside0 (Tabs w)) (w0 : (a0 = none ∧ len0 = 0 ∧ cap0 = 0 ∧ z0 = []) ∨ ∃ x, a0 = some x ∧ len0 ≤ cap0 ∧ cap0 ≤ maxLen ∧ z0.length = cap0 ∧ (∀ i, i < z0.length → w.cell? (x.add i) = some (.int .u8 (z0.getD i 0))) ∧ ∀ n ∈ z0, (Lit.int .u8 n).wf = true) (y0 : len0 * 1 ≤ 140737488351232) :
    Calls Tryd.prog 5 #[.slice a0 len0 cap0] w fun e w' => e = .returned (.bool true) ∧ Below w.heap.size w w' := by
  obtain ⟨l0, rfl, hr0, hm0, hw0, hc0⟩ := ReadsInt.ofRowC w0
  obtain ⟨k, h⟩ := P l0 hm0 y0 hw0
  refine (laws_FnLabels.calls (HT_ := (by first | exact HT_ | exact tabs_drewN HT_ _ | exact tabs_drew HT_ | exact tabs_stays HT_ (by repeat (first | (with_reducible first | exact HB.out | apply below_alloc | apply pw_below_drewN | apply below_drew1 | refine below_set ?_ GE353.out | refine below_set ?_ GE364.out | refine below_set ?_ GW353.out | refine below_set ?_ GW364.out) | exact HB.out)))) k _ _ l0 true w (Kd.C_of_reads (d := (0 : Int)) (h1 := fun _ => rfl) hr0) hc0 h).mono ?_
  rintro e w' ⟨rfl, hd⟩
  exact ⟨rfl, hd⟩

end Go.Proofs.YtgnopkapkodhhaaDoor.QFnLabels
