-- Written by own_print.py of this session's repo over the kit's print (its output, turned at some places).
import Derived.Test.YtkpidjmhdagkfaaQFnExactSchemesForx0
import Derived.Test.YtkpidjmhdagkfaaQFnExactSchemesForx1
import Derived.Test.YtkpidjmhdagkfaaQFnExactSchemesForx8
import Derived.Test.YtkpidjmhdagkfaaQFnExactSchemesForx15
import Derived.Test.YtkpidjmhdagkfaaQFnExactSchemesForx16
namespace Go.Proofs.Ytkpidjmhdagkfaa.QFnExactSchemesFor
open Go.RowKit Go.Proofs.YtkpidjmhdagkfaaW.PrintWords Go.Proofs.YtkpidjmhdagkfaaW.PrintLast Go.Proofs.YtkpidjmhdagkfaaW.PrintMore
attribute [local go_sem] max2_int min2_int max_two min_two max_three min_three max_four min_four   -- for this text's walks alone
set_option linter.unusedVariables false
set_option linter.unusedSimpArgs false

/-! ### laws_FnExactSchemesFor: function 8 -/
mutual
def laws_FnExactSchemesFor.j0 : Nat → List ByteArray → Int → List ByteArray → Int → Bool → Int → Int → List Int → List Int → List Int → Int → Int → List Int → List Int → List Int → Option (Bool)
 | 0, _, _, _, _, _, _, _, _, _, _, _, _, _, _, _ => none
 | k + 1, x4, x5, x7, x8, x40, x478000, x478001, x478002, x478003, x478004, x506000, x506001, x506002, x506003, x506004 => if x40 = true then (none) else ((laws_toForm.f k x478000 x478001 x478002 x478003 x478004).bind fun bt511 => ((laws_eqForm.f k x506000 x506001 x506002 x506003 x506004 bt511.1 bt511.2.1 bt511.2.2.1 bt511.2.2.2.1 bt511.2.2.2.2).bind fun t522 => (if t522 = true then ((laws_markForm.f k x506000 x506001 x506002 x506003 x506004 1).bind fun bt523 => (if bt523.1 < 0 then (none) else ((laws_eqStringS.f k x7 x4).bind fun t527 => (if t527 = true then (laws_FnExactSchemesFor.j1 k x4 x5 x7 (x8 != x5) x478000 x478001 x478002 x478003 x478004) else (none))))) else (none))))
def laws_FnExactSchemesFor.j1 : Nat → List ByteArray → Int → List ByteArray → Bool → Int → Int → List Int → List Int → List Int → Option (Bool)
 | 0, _, _, _, _, _, _, _, _, _ => none
 | k + 1, x4, x5, x7, x61, x478000, x478001, x478002, x478003, x478004 => if x61 = true then (none) else ((laws_markStringS.f k x7 1).bind fun bt528 => ((laws_heldStringS.f k bt528.2 1).bind fun t530 => (if t530 < 0 then (none) else (if t530 = bt528.1 then ((laws_toForm.f k x478000 x478001 x478002 x478003 x478004).bind fun bt531 => ((impl_SchemesFor.f k bt531.1 bt531.2.1 bt531.2.2.1 bt531.2.2.2.1 bt531.2.2.2.2).bind fun bt542 => ((laws_eqStringS.f k bt542.1 x4).bind fun t546 => (if t546 = true then (laws_FnExactSchemesFor.j2 k bt528.2 bt528.1 (bt542.2 != x5)) else (none))))) else (none)))))
def laws_FnExactSchemesFor.j2 : Nat → List ByteArray → Int → Bool → Option (Bool)
 | 0, _, _, _ => none
 | k + 1, x7, x10, x87 => if x87 = true then (none) else ((laws_heldStringS.f k x7 1).bind fun t547 => (if t547 < 0 then (none) else (if t547 = x10 then (some true) else (none))))
end
def laws_FnExactSchemesFor.f (k : Nat) (a0_0 : Int) (a0_1 : Int) (l0_2 : List Int) (l0_3 : List Int) (l0_4 : List Int) : Option (Bool) := (laws_szForm.f a0_0 a0_1 l0_2 l0_3 l0_4 1048576).bind fun t478 => (if t478 < 0 then (some true) else ((laws_toForm.f k a0_0 a0_1 l0_2 l0_3 l0_4).bind fun bt479 => ((spec_SchemesFor.f k bt479.1 bt479.2.1 bt479.2.2.1 bt479.2.2.2.1 bt479.2.2.2.2).bind fun bt490 => ((laws_toForm.f k a0_0 a0_1 l0_2 l0_3 l0_4).bind fun bt494 => ((impl_SchemesFor.f k bt494.1 bt494.2.1 bt494.2.2.1 bt494.2.2.2.1 bt494.2.2.2.2).bind fun bt506 => ((laws_eqStringS.f k bt506.1 bt490.1).bind fun t510 => (if t510 = true then (laws_FnExactSchemesFor.j0 k bt490.1 bt490.2 bt506.1 bt506.2 (bt506.2 != bt490.2) a0_0 a0_1 l0_2 l0_3 l0_4 bt494.1 bt494.2.1 bt494.2.2.1 bt494.2.2.2.1 bt494.2.2.2.2) else (none))))))))
theorem laws_FnExactSchemesFor.mono_l : ∀ k, (∀ y0 y1 y2 y3 y4 y5 y6 y7 y8 y9 y10 y11 y12 y13 y14, LeO (laws_FnExactSchemesFor.j0 k y0 y1 y2 y3 y4 y5 y6 y7 y8 y9 y10 y11 y12 y13 y14) (laws_FnExactSchemesFor.j0 (k + 1) y0 y1 y2 y3 y4 y5 y6 y7 y8 y9 y10 y11 y12 y13 y14)) ∧ (∀ y0 y1 y2 y3 y4 y5 y6 y7 y8, LeO (laws_FnExactSchemesFor.j1 k y0 y1 y2 y3 y4 y5 y6 y7 y8) (laws_FnExactSchemesFor.j1 (k + 1) y0 y1 y2 y3 y4 y5 y6 y7 y8)) ∧ (∀ y0 y1 y2, LeO (laws_FnExactSchemesFor.j2 k y0 y1 y2) (laws_FnExactSchemesFor.j2 (k + 1) y0 y1 y2))
 | 0 => ⟨fun _ _ _ _ _ _ _ _ _ _ _ _ _ _ _ r h => by simp [laws_FnExactSchemesFor.j0] at h, fun _ _ _ _ _ _ _ _ _ r h => by simp [laws_FnExactSchemesFor.j1] at h, fun _ _ _ r h => by simp [laws_FnExactSchemesFor.j2] at h⟩
 | k + 1 => by
  obtain ⟨ih0, ih1, ih2⟩ := laws_FnExactSchemesFor.mono_l k
  refine ⟨?_, ?_, ?_⟩
  ·intro y0 y1 y2 y3 y4 y5 y6 y7 y8 y9 y10 y11 y12 y13 y14
   unfold laws_FnExactSchemesFor.j0
   repeat' first
   | (with_reducible exact ih0 _ _ _ _ _ _ _ _ _ _ _ _ _ _ _)
   | (with_reducible exact ih1 _ _ _ _ _ _ _ _ _)
   | (with_reducible exact ih2 _ _ _)
   | (with_reducible exact impl_SchemesFor.mono _ _ _ _ _ _)
   | (with_reducible exact laws_eqForm.mono _ _ _ _ _ _ _ _ _ _ _)
   | (with_reducible exact laws_eqStringS.mono _ _ _)
   | (with_reducible exact laws_heldStringS.mono _ _ _)
   | (with_reducible exact laws_markForm.mono _ _ _ _ _ _ _)
   | (with_reducible exact laws_markStringS.mono _ _ _)
   | (with_reducible exact laws_toForm.mono _ _ _ _ _ _)
   | (with_reducible exact spec_SchemesFor.mono _ _ _ _ _ _)
   | (with_reducible exact LeO.refl _)
   | (with_reducible exact LeO.none _)
   | (with_reducible refine LeO.ite ?_ ?_)
   | (with_reducible refine LeO.bind ?_ (fun _ => ?_))
   | exact ih0 _ _ _ _ _ _ _ _ _ _ _ _ _ _ _
   | exact ih1 _ _ _ _ _ _ _ _ _
   | exact ih2 _ _ _
   | exact impl_SchemesFor.mono _ _ _ _ _ _
   | exact laws_eqForm.mono _ _ _ _ _ _ _ _ _ _ _
   | exact laws_eqStringS.mono _ _ _
   | exact laws_heldStringS.mono _ _ _
   | exact laws_markForm.mono _ _ _ _ _ _ _
   | exact laws_markStringS.mono _ _ _
   | exact laws_toForm.mono _ _ _ _ _ _
   | exact spec_SchemesFor.mono _ _ _ _ _ _
   | exact LeO.none _
   | refine LeO.ite ?_ ?_
   | refine LeO.bind ?_ (fun _ => ?_)
  ·intro y0 y1 y2 y3 y4 y5 y6 y7 y8
   unfold laws_FnExactSchemesFor.j1
   repeat' first
   | (with_reducible exact ih0 _ _ _ _ _ _ _ _ _ _ _ _ _ _ _)
   | (with_reducible exact ih1 _ _ _ _ _ _ _ _ _)
   | (with_reducible exact ih2 _ _ _)
   | (with_reducible exact impl_SchemesFor.mono _ _ _ _ _ _)
   | (with_reducible exact laws_eqForm.mono _ _ _ _ _ _ _ _ _ _ _)
   | (with_reducible exact laws_eqStringS.mono _ _ _)
   | (with_reducible exact laws_heldStringS.mono _ _ _)
   | (with_reducible exact laws_markForm.mono _ _ _ _ _ _ _)
   | (with_reducible exact laws_markStringS.mono _ _ _)
   | (with_reducible exact laws_toForm.mono _ _ _ _ _ _)
   | (with_reducible exact spec_SchemesFor.mono _ _ _ _ _ _)
   | (with_reducible exact LeO.refl _)
   | (with_reducible exact LeO.none _)
   | (with_reducible refine LeO.ite ?_ ?_)
   | (with_reducible refine LeO.bind ?_ (fun _ => ?_))
   | exact ih0 _ _ _ _ _ _ _ _ _ _ _ _ _ _ _
   | exact ih1 _ _ _ _ _ _ _ _ _
   | exact ih2 _ _ _
   | exact impl_SchemesFor.mono _ _ _ _ _ _
   | exact laws_eqForm.mono _ _ _ _ _ _ _ _ _ _ _
   | exact laws_eqStringS.mono _ _ _
   | exact laws_heldStringS.mono _ _ _
   | exact laws_markForm.mono _ _ _ _ _ _ _
   | exact laws_markStringS.mono _ _ _
   | exact laws_toForm.mono _ _ _ _ _ _
   | exact spec_SchemesFor.mono _ _ _ _ _ _
   | exact LeO.none _
   | refine LeO.ite ?_ ?_
   | refine LeO.bind ?_ (fun _ => ?_)
  ·intro y0 y1 y2
   unfold laws_FnExactSchemesFor.j2
   repeat' first
   | (with_reducible exact ih0 _ _ _ _ _ _ _ _ _ _ _ _ _ _ _)
   | (with_reducible exact ih1 _ _ _ _ _ _ _ _ _)
   | (with_reducible exact ih2 _ _ _)
   | (with_reducible exact impl_SchemesFor.mono _ _ _ _ _ _)
   | (with_reducible exact laws_eqForm.mono _ _ _ _ _ _ _ _ _ _ _)
   | (with_reducible exact laws_eqStringS.mono _ _ _)
   | (with_reducible exact laws_heldStringS.mono _ _ _)
   | (with_reducible exact laws_markForm.mono _ _ _ _ _ _ _)
   | (with_reducible exact laws_markStringS.mono _ _ _)
   | (with_reducible exact laws_toForm.mono _ _ _ _ _ _)
   | (with_reducible exact spec_SchemesFor.mono _ _ _ _ _ _)
   | (with_reducible exact LeO.refl _)
   | (with_reducible exact LeO.none _)
   | (with_reducible refine LeO.ite ?_ ?_)
   | (with_reducible refine LeO.bind ?_ (fun _ => ?_))
   | exact ih0 _ _ _ _ _ _ _ _ _ _ _ _ _ _ _
   | exact ih1 _ _ _ _ _ _ _ _ _
   | exact ih2 _ _ _
   | exact impl_SchemesFor.mono _ _ _ _ _ _
   | exact laws_eqForm.mono _ _ _ _ _ _ _ _ _ _ _
   | exact laws_eqStringS.mono _ _ _
   | exact laws_heldStringS.mono _ _ _
   | exact laws_markForm.mono _ _ _ _ _ _ _
   | exact laws_markStringS.mono _ _ _
   | exact laws_toForm.mono _ _ _ _ _ _
   | exact spec_SchemesFor.mono _ _ _ _ _ _
   | exact LeO.none _
   | refine LeO.ite ?_ ?_
   | refine LeO.bind ?_ (fun _ => ?_)
theorem laws_FnExactSchemesFor.mono : ∀ a0 a1 a2 a3 a4 k, LeO (laws_FnExactSchemesFor.f k a0 a1 a2 a3 a4) (laws_FnExactSchemesFor.f (k + 1) a0 a1 a2 a3 a4) := by
 intro a0 a1 a2 a3 a4 k
 obtain ⟨ih0, ih1, ih2⟩ := laws_FnExactSchemesFor.mono_l k
 unfold laws_FnExactSchemesFor.f
 repeat' first
   | (with_reducible exact ih0 _ _ _ _ _ _ _ _ _ _ _ _ _ _ _)
   | (with_reducible exact ih1 _ _ _ _ _ _ _ _ _)
   | (with_reducible exact ih2 _ _ _)
   | (with_reducible exact impl_SchemesFor.mono _ _ _ _ _ _)
   | (with_reducible exact laws_eqForm.mono _ _ _ _ _ _ _ _ _ _ _)
   | (with_reducible exact laws_eqStringS.mono _ _ _)
   | (with_reducible exact laws_heldStringS.mono _ _ _)
   | (with_reducible exact laws_markForm.mono _ _ _ _ _ _ _)
   | (with_reducible exact laws_markStringS.mono _ _ _)
   | (with_reducible exact laws_toForm.mono _ _ _ _ _ _)
   | (with_reducible exact spec_SchemesFor.mono _ _ _ _ _ _)
   | (with_reducible exact LeO.refl _)
   | (with_reducible exact LeO.none _)
   | (with_reducible refine LeO.ite ?_ ?_)
   | (with_reducible refine LeO.bind ?_ (fun _ => ?_))
   | exact ih0 _ _ _ _ _ _ _ _ _ _ _ _ _ _ _
   | exact ih1 _ _ _ _ _ _ _ _ _
   | exact ih2 _ _ _
   | exact impl_SchemesFor.mono _ _ _ _ _ _
   | exact laws_eqForm.mono _ _ _ _ _ _ _ _ _ _ _
   | exact laws_eqStringS.mono _ _ _
   | exact laws_heldStringS.mono _ _ _
   | exact laws_markForm.mono _ _ _ _ _ _ _
   | exact laws_markStringS.mono _ _ _
   | exact laws_toForm.mono _ _ _ _ _ _
   | exact spec_SchemesFor.mono _ _ _ _ _ _
   | exact LeO.none _
   | refine LeO.ite ?_ ?_
   | refine LeO.bind ?_ (fun _ => ?_)
set_option maxHeartbeats 8000000 in
set_option maxRecDepth 100000 in
theorem laws_FnExactSchemesFor.calls (k : Nat) (a0_0 : Int) (a0_1 : Int) (A0_2 : Option Addr) (c0_2 : Nat) (l0_2 : List Int) (A0_3 : Option Addr) (c0_3 : Nat) (l0_3 : List Int) (A0_4 : Option Addr) (c0_4 : Nat) (l0_4 : List Int) (r : Bool) (w : World) (hr0_2 : Kd.C (Kd.int .i64) w A0_2 l0_2.length l0_2) (hc0_2 : l0_2.length ≤ c0_2) (hr0_3 : Kd.C (Kd.int .i64) w A0_3 l0_3.length l0_3) (hc0_3 : l0_3.length ≤ c0_3) (hr0_4 : Kd.C (Kd.int .i64) w A0_4 l0_4.length l0_4) (hc0_4 : l0_4.length ≤ c0_4) (h : laws_FnExactSchemesFor.f k a0_0 a0_1 l0_2 l0_3 l0_4 = some r) :
  Calls Try.prog 8 #[.agg #[.int .i64 a0_0, .int .i64 a0_1, .slice A0_2 l0_2.length c0_2, .slice A0_3 l0_3.length c0_3, .slice A0_4 l0_4.length c0_4]] w fun e w' => e = .returned (.bool r) ∧ Below w.heap.size w w' := by
 have hu24 := Try.underlying24
 have hu27 := Try.underlying27
 have HR0_2 := Aside0.mk hr0_2
 have HC0_2 := Aside0.mk hc0_2
 clear hr0_2 hc0_2
 have HR0_3 := Aside0.mk hr0_3
 have HC0_3 := Aside0.mk hc0_3
 clear hr0_3 hc0_3
 have HR0_4 := Aside0.mk hr0_4
 have HC0_4 := Aside0.mk hc0_4
 clear hr0_4 hc0_4
 have HB := a_ (Below.refl w.heap.size w)
 have H : ((laws_szForm.f a0_0 a0_1 l0_2 l0_3 l0_4 1048576).bind fun t478 => (if t478 < 0 then (some true) else ((laws_toForm.f k a0_0 a0_1 l0_2 l0_3 l0_4).bind fun bt479 => ((spec_SchemesFor.f k bt479.1 bt479.2.1 bt479.2.2.1 bt479.2.2.2.1 bt479.2.2.2.2).bind fun bt490 => ((laws_toForm.f k a0_0 a0_1 l0_2 l0_3 l0_4).bind fun bt494 => ((impl_SchemesFor.f k bt494.1 bt494.2.1 bt494.2.2.1 bt494.2.2.2.1 bt494.2.2.2.2).bind fun bt506 => ((laws_eqStringS.f k bt506.1 bt490.1).bind fun t510 => (if t510 = true then (laws_FnExactSchemesFor.j0 k bt490.1 bt490.2 bt506.1 bt506.2 (bt506.2 != bt490.2) a0_0 a0_1 l0_2 l0_3 l0_4 bt494.1 bt494.2.1 bt494.2.2.1 bt494.2.2.2.1 bt494.2.2.2.2) else (none))))))))) = some r := h
 clear h
 replace H := Option.bind_eq_some_iff.mp H
 obtain ⟨t478, A20, H⟩ := H
 replace H : (if t478 < 0 then (some true) else ((laws_toForm.f k a0_0 a0_1 l0_2 l0_3 l0_4).bind fun bt479 => ((spec_SchemesFor.f k bt479.1 bt479.2.1 bt479.2.2.1 bt479.2.2.2.1 bt479.2.2.2.2).bind fun bt490 => ((laws_toForm.f k a0_0 a0_1 l0_2 l0_3 l0_4).bind fun bt494 => ((impl_SchemesFor.f k bt494.1 bt494.2.1 bt494.2.2.1 bt494.2.2.2.1 bt494.2.2.2.2).bind fun bt506 => ((laws_eqStringS.f k bt506.1 bt490.1).bind fun t510 => (if t510 = true then (laws_FnExactSchemesFor.j0 k bt490.1 bt490.2 bt506.1 bt506.2 (bt506.2 != bt490.2) a0_0 a0_1 l0_2 l0_3 l0_4 bt494.1 bt494.2.1 bt494.2.2.1 bt494.2.2.2.1 bt494.2.2.2.2) else (none)))))))) = some r := H
 have A2 := Aside0.mk A20
 clear A20
 by_cases c3 : t478 < 0
 ·rw [if_pos c3] at H
  have c3b0 : decide (t478 < 0) = true := decide_eq_true c3
  clear c3
  obtain rfl := Option.some.inj H
  go_enter Try.func8, Try.ntmps8
  go_wp2_with (first | ((with_reducible refine gate_dst (N := 1) rfl ?_); refine box_event ?hg (N := 1) ?hd (cs := #[.int .i64 a0_0, .int .i64 a0_1, .slice A0_2 l0_2.length c0_2, .slice A0_3 l0_3.length c0_3, .slice A0_4 l0_4.length c0_4]) (t := 24) ?hr ?_; (case hd => rfl); (case hg => rfl); (case hr => first | (go_simp; done) | (go_simp; rfl)); intro gb477 hg w4 hbox hb; have BK477 := a_ (hbox); have GW477 := a_ ((z30_ : w.heap.size ≤ gb477)); have GE477 := a_ ((z30_ : w.heap.size ≤ gb477)); replace HB := a_ (below_step z31_ hb); clear hb hbox hg; obtain ⟨hcz5_0, hcz5_1, hcz5_2, hcz5_3, hcz5_4, hfz5_0, hfz5_1, hfz5_2, hfz5_3, hfz5_4⟩ := cz5_ (w := w4) BK477.out) | ((with_reducible refine gate_callee (f := 9) rfl ?_); refine goesL_ (some 16) rfl rfl Try.func9 (by kernel_rfl) rfl #[.agg #[.int .i64 a0_0, .int .i64 a0_1, .slice A0_2 l0_2.length c0_2, .slice A0_3 l0_3.length c0_3, .slice A0_4 l0_4.length c0_4], .int .i64 1048576] rfl z34_ ?_; (with_reducible refine (laws_szForm.calls a0_0 a0_1 _ _ l0_2 _ _ l0_3 _ _ l0_4 1048576 t478 _ ?side1 ?side2 ?side3 ?side4 ?side5 ?side6 A2.out).mono ?_); (case side1 => exact kc_ (Kd.C_below HR0_2.out HB.out)); (case side2 => exact HC0_2.out); (case side3 => exact kc_ (Kd.C_below HR0_3.out HB.out)); (case side4 => exact HC0_3.out); (case side5 => exact kc_ (Kd.C_below HR0_4.out HB.out)); (case side6 => exact HC0_4.out); rintro e w6 ⟨rfl, hb⟩; refine ⟨_, rfl, ?_⟩; replace BK477 := a_ (blk_below (g := gb477) (rb_ BK477.out) hb); replace HB := a_ (below_step z29_ hb); (try clear hb); (try clear hb2); (try clear hk); (try clear hi)))
  go_ret
  exact ⟨z32_, z29_⟩
 ·rw [if_neg c3] at H
  have c3b0 : decide (t478 < 0) = false := decide_eq_false c3
  clear c3
  replace H := Option.bind_eq_some_iff.mp H
  obtain ⟨⟨t479, t480, t481, t484, t487⟩, A70, H⟩ := H
  replace H : ((spec_SchemesFor.f k t479 t480 t481 t484 t487).bind fun bt490 => ((laws_toForm.f k a0_0 a0_1 l0_2 l0_3 l0_4).bind fun bt494 => ((impl_SchemesFor.f k bt494.1 bt494.2.1 bt494.2.2.1 bt494.2.2.2.1 bt494.2.2.2.2).bind fun bt506 => ((laws_eqStringS.f k bt506.1 bt490.1).bind fun t510 => (if t510 = true then (laws_FnExactSchemesFor.j0 k bt490.1 bt490.2 bt506.1 bt506.2 (bt506.2 != bt490.2) a0_0 a0_1 l0_2 l0_3 l0_4 bt494.1 bt494.2.1 bt494.2.2.1 bt494.2.2.2.1 bt494.2.2.2.2) else (none)))))) = some r := H
  have A7 := Aside0.mk A70
  clear A70
  replace H := Option.bind_eq_some_iff.mp H
  obtain ⟨⟨t490, t493⟩, A80, H⟩ := H
  replace H : ((laws_toForm.f k a0_0 a0_1 l0_2 l0_3 l0_4).bind fun bt494 => ((impl_SchemesFor.f k bt494.1 bt494.2.1 bt494.2.2.1 bt494.2.2.2.1 bt494.2.2.2.2).bind fun bt506 => ((laws_eqStringS.f k bt506.1 t490).bind fun t510 => (if t510 = true then (laws_FnExactSchemesFor.j0 k t490 t493 bt506.1 bt506.2 (bt506.2 != t493) a0_0 a0_1 l0_2 l0_3 l0_4 bt494.1 bt494.2.1 bt494.2.2.1 bt494.2.2.2.1 bt494.2.2.2.2) else (none))))) = some r := H
  have A8 := Aside0.mk A80
  clear A80
  replace H := Option.bind_eq_some_iff.mp H
  obtain ⟨⟨t494, t495, t496, t499, t502⟩, A90, H⟩ := H
  replace H : ((impl_SchemesFor.f k t494 t495 t496 t499 t502).bind fun bt506 => ((laws_eqStringS.f k bt506.1 t490).bind fun t510 => (if t510 = true then (laws_FnExactSchemesFor.j0 k t490 t493 bt506.1 bt506.2 (bt506.2 != t493) a0_0 a0_1 l0_2 l0_3 l0_4 t494 t495 t496 t499 t502) else (none)))) = some r := H
  have A9 := Aside0.mk A90
  clear A90
  replace H := Option.bind_eq_some_iff.mp H
  obtain ⟨⟨t506, t509⟩, A100, H⟩ := H
  replace H : ((laws_eqStringS.f k t506 t490).bind fun t510 => (if t510 = true then (laws_FnExactSchemesFor.j0 k t490 t493 t506 t509 (t509 != t493) a0_0 a0_1 l0_2 l0_3 l0_4 t494 t495 t496 t499 t502) else (none))) = some r := H
  have A10 := Aside0.mk A100
  clear A100
  have HC11 := Aside0.mk H
  clear H
  go_enter Try.func8, Try.ntmps8
  go_upto_region 8 with (first | ((with_reducible refine gate_dst (N := 1) rfl ?_); refine box_event ?hg (N := 1) ?hd (cs := #[.int .i64 a0_0, .int .i64 a0_1, .slice A0_2 l0_2.length c0_2, .slice A0_3 l0_3.length c0_3, .slice A0_4 l0_4.length c0_4]) (t := 24) ?hr ?_; (case hd => rfl); (case hg => rfl); (case hr => first | (go_simp; done) | (go_simp; rfl)); intro gb477 hg w12 hbox hb; have BK477 := a_ (hbox); have GW477 := a_ ((z30_ : w.heap.size ≤ gb477)); have GE477 := a_ ((z30_ : w.heap.size ≤ gb477)); replace HB := a_ (below_step z31_ hb); clear hb hbox hg; obtain ⟨hcz13_0, hcz13_1, hcz13_2, hcz13_3, hcz13_4, hfz13_0, hfz13_1, hfz13_2, hfz13_3, hfz13_4⟩ := cz5_ (w := w12) BK477.out) | ((with_reducible refine gate_callee (f := 9) rfl ?_); refine goesL_ (some 16) rfl rfl Try.func9 (by kernel_rfl) rfl #[.agg #[.int .i64 a0_0, .int .i64 a0_1, .slice A0_2 l0_2.length c0_2, .slice A0_3 l0_3.length c0_3, .slice A0_4 l0_4.length c0_4], .int .i64 1048576] rfl z34_ ?_; (with_reducible refine (laws_szForm.calls a0_0 a0_1 _ _ l0_2 _ _ l0_3 _ _ l0_4 1048576 t478 _ ?side1 ?side2 ?side3 ?side4 ?side5 ?side6 A2.out).mono ?_); (case side1 => exact kc_ (Kd.C_below HR0_2.out HB.out)); (case side2 => exact HC0_2.out); (case side3 => exact kc_ (Kd.C_below HR0_3.out HB.out)); (case side4 => exact HC0_3.out); (case side5 => exact kc_ (Kd.C_below HR0_4.out HB.out)); (case side6 => exact HC0_4.out); rintro e w14 ⟨rfl, hb⟩; refine ⟨_, rfl, ?_⟩; replace BK477 := a_ (blk_below (g := gb477) (rb_ BK477.out) hb); replace HB := a_ (below_step z29_ hb); (try clear hb); (try clear hb2); (try clear hk); (try clear hi); obtain ⟨hcz15_0, hcz15_1, hcz15_2, hcz15_3, hcz15_4, hfz15_0, hfz15_1, hfz15_2, hfz15_3, hfz15_4⟩ := cz5_ (w := w14) BK477.out) | ((with_reducible refine gate_callee (f := 11) rfl ?_); refine goesL_ (some 21) rfl rfl Try.func11 (by kernel_rfl) rfl #[.agg #[.int .i64 a0_0, .int .i64 a0_1, .slice A0_2 l0_2.length c0_2, .slice A0_3 l0_3.length c0_3, .slice A0_4 l0_4.length c0_4]] rfl z34_ ?_; (with_reducible refine (laws_toForm.calls k a0_0 a0_1 _ _ l0_2 _ _ l0_3 _ _ l0_4 t479 t480 t481 t484 t487 _ ?side1 ?side2 ?side3 ?side4 ?side5 ?side6 A7.out).mono ?_); (case side1 => exact kc_ (Kd.C_below HR0_2.out HB.out)); (case side2 => exact HC0_2.out); (case side3 => exact kc_ (Kd.C_below HR0_3.out HB.out)); (case side4 => exact HC0_3.out); (case side5 => exact kc_ (Kd.C_below HR0_4.out HB.out)); (case side6 => exact HC0_4.out); rintro e w16 ⟨v482, v485, v488, rfl, ho0, ho1, ho2, hb⟩; refine ⟨_, rfl, ?_⟩; have HO483 := a_ (Kd.R_lower ho0 (below_size z29_)); have HO486 := a_ (Kd.R_lower ho1 (below_size z29_)); have HO489 := a_ (Kd.R_lower ho2 (below_size z29_)); replace BK477 := a_ (blk_below (g := gb477) (rb_ BK477.out) hb); replace HB := a_ (below_step z29_ hb); (try clear hb); (try clear hb2); (try clear hk); (try clear hi); (try clear ho0); (try clear ho1); (try clear ho2); obtain ⟨Ao17, co17, eo17⟩ := Kd.R_slice HO483.out; subst eo17; obtain ⟨Ao18, co18, eo18⟩ := Kd.R_slice HO486.out; subst eo18; obtain ⟨Ao19, co19, eo19⟩ := Kd.R_slice HO489.out; subst eo19) | ((with_reducible refine gate_callee (f := 26) rfl ?_); refine goesL_ (some 22) rfl rfl Try.func26 (by kernel_rfl) rfl #[.agg #[.int .i64 t479, .int .i64 t480, .slice Ao17 t481.length co17, .slice Ao18 t484.length co18, .slice Ao19 t487.length co19]] rfl z34_ ?_; (with_reducible refine (spec_SchemesFor.calls k t479 t480 _ _ t481 _ _ t484 _ _ t487 t490 t493 _ ?side1 ?side2 ?side3 ?side4 ?side5 ?side6 A8.out).mono ?_); (case side1 => exact (by (repeat (first | exact (Kd.R_reads' HO483.out).2.2 | (with_reducible refine Kd.C_alloc ?_ _) | (with_reducible refine Kd.C_drewN ?_ _) | (with_reducible refine Kd.C_drew ?_))); first | done | fail)); (case side2 => exact (Kd.R_reads' HO483.out).2.1); (case side3 => exact (by (repeat (first | exact (Kd.R_reads' HO486.out).2.2 | (with_reducible refine Kd.C_alloc ?_ _) | (with_reducible refine Kd.C_drewN ?_ _) | (with_reducible refine Kd.C_drew ?_))); first | done | fail)); (case side4 => exact (Kd.R_reads' HO486.out).2.1); (case side5 => exact (by (repeat (first | exact (Kd.R_reads' HO489.out).2.2 | (with_reducible refine Kd.C_alloc ?_ _) | (with_reducible refine Kd.C_drewN ?_ _) | (with_reducible refine Kd.C_drew ?_))); first | done | fail)); (case side6 => exact (Kd.R_reads' HO489.out).2.1); rintro e w20 ⟨v491, rfl, ho0, hb⟩; refine ⟨_, rfl, ?_⟩; replace HO483 := a_ (Kd.R_below (ra_ HO483.out) hb); replace HO486 := a_ (Kd.R_below (ra_ HO486.out) hb); replace HO489 := a_ (Kd.R_below (ra_ HO489.out) hb); have HO492 := a_ (Kd.R_lower ho0 (below_size z29_)); replace BK477 := a_ (blk_below (g := gb477) (rb_ BK477.out) hb); replace HB := a_ (below_step z29_ hb); (try clear hb); (try clear hb2); (try clear hk); (try clear hi); (try clear ho0); obtain ⟨hcz21_0, hcz21_1, hcz21_2, hcz21_3, hcz21_4, hfz21_0, hfz21_1, hfz21_2, hfz21_3, hfz21_4⟩ := cz5_ (w := w20) BK477.out) | ((with_reducible refine gate_callee (f := 11) rfl ?_); refine goesL_ (some 26) rfl rfl Try.func11 (by kernel_rfl) rfl #[.agg #[.int .i64 a0_0, .int .i64 a0_1, .slice A0_2 l0_2.length c0_2, .slice A0_3 l0_3.length c0_3, .slice A0_4 l0_4.length c0_4]] rfl z34_ ?_; (with_reducible refine (laws_toForm.calls k a0_0 a0_1 _ _ l0_2 _ _ l0_3 _ _ l0_4 t494 t495 t496 t499 t502 _ ?side1 ?side2 ?side3 ?side4 ?side5 ?side6 A9.out).mono ?_); (case side1 => exact kc_ (Kd.C_below HR0_2.out HB.out)); (case side2 => exact HC0_2.out); (case side3 => exact kc_ (Kd.C_below HR0_3.out HB.out)); (case side4 => exact HC0_3.out); (case side5 => exact kc_ (Kd.C_below HR0_4.out HB.out)); (case side6 => exact HC0_4.out); rintro e w22 ⟨v497, v500, v503, rfl, ho0, ho1, ho2, hb⟩; refine ⟨_, rfl, ?_⟩; replace HO492 := a_ (Kd.R_below (ra_ HO492.out) hb); have HO498 := a_ (Kd.R_lower (Kd.R_new' (Kd.R_new' (Kd.R_new' ho0 (Kd.R_lt (ra_ HO483.out))) (Kd.R_lt (ra_ HO486.out))) (Kd.R_lt (ra_ HO489.out))) (below_size z29_)); have HO501 := a_ (Kd.R_lower (Kd.R_new' (Kd.R_new' (Kd.R_new' ho1 (Kd.R_lt (ra_ HO483.out))) (Kd.R_lt (ra_ HO486.out))) (Kd.R_lt (ra_ HO489.out))) (below_size z29_)); have HO504 := a_ (Kd.R_lower (Kd.R_new' (Kd.R_new' (Kd.R_new' ho2 (Kd.R_lt (ra_ HO483.out))) (Kd.R_lt (ra_ HO486.out))) (Kd.R_lt (ra_ HO489.out))) (below_size z29_)); replace HO483 := a_ (Kd.R_mono (Kd.R_told (Kd.R_told (Kd.R_told (Kd.R_old (ra_ HO483.out) hb) (Kd.R_base ho0)) (Kd.R_base ho1)) (Kd.R_base ho2)) (fun _ h_ => h_.1)); replace HO486 := a_ (Kd.R_mono (Kd.R_told (Kd.R_told (Kd.R_told (Kd.R_old (ra_ HO486.out) hb) (Kd.R_base ho0)) (Kd.R_base ho1)) (Kd.R_base ho2)) (fun _ h_ => h_.1)); replace HO489 := a_ (Kd.R_mono (Kd.R_told (Kd.R_told (Kd.R_told (Kd.R_old (ra_ HO489.out) hb) (Kd.R_base ho0)) (Kd.R_base ho1)) (Kd.R_base ho2)) (fun _ h_ => h_.1)); replace BK477 := a_ (blk_below (g := gb477) (rb_ BK477.out) hb); replace HB := a_ (below_step z29_ hb); (try clear hb); (try clear hb2); (try clear hk); (try clear hi); (try clear ho0); (try clear ho1); (try clear ho2)) | ((with_reducible refine gate_dst (N := 6) rfl ?_); refine box_event ?hg (N := 6) ?hd (cs := #[.int .i64 0, .int .i64 0, .slice none 0 0, .slice none 0 0, .slice none 0 0]) (t := 27) ?hr ?_; (case hd => rfl); (case hg => rfl); (case hr => first | (go_simp; done) | (go_simp; rfl)); intro gb505 hg w23 hbox hb; replace HO483 := a_ (Kd.R_below (ra_ HO483.out) hb); replace HO486 := a_ (Kd.R_below (ra_ HO486.out) hb); replace HO489 := a_ (Kd.R_below (ra_ HO489.out) hb); replace HO492 := a_ (Kd.R_below (ra_ HO492.out) hb); replace HO498 := a_ (Kd.R_below (ra_ HO498.out) hb); replace HO501 := a_ (Kd.R_below (ra_ HO501.out) hb); replace HO504 := a_ (Kd.R_below (ra_ HO504.out) hb); have BK505 := a_ (hbox); have GW505 := a_ ((by rw [hg]; exact (below_size z29_) : w.heap.size ≤ gb505)); have GE505 := a_ ((by rw [hg]; exact (below_size z29_) : w.heap.size ≤ gb505)); replace HB := a_ (below_step z29_ hb); have NB477_505 := a_ ((by rw [hg]; exact Nat.ne_of_lt (blk_lt (g := gb477) (rb_ BK477.out)) : gb477 ≠ gb505)); have NB505_477 := a_ ((by rw [hg]; exact Nat.ne_of_gt (blk_lt (g := gb477) (rb_ BK477.out)) : gb505 ≠ gb477)); replace BK477 := a_ (blk_below (g := gb477) (rb_ BK477.out) hb); clear hb hbox hg; have hnb24 := NB505_477.out; have hnc24 := NB477_505.out; obtain ⟨hcz25_0, hcz25_1, hcz25_2, hcz25_3, hcz25_4, hfz25_0, hfz25_1, hfz25_2, hfz25_3, hfz25_4⟩ := cz5_ (w := w23) BK505.out; obtain ⟨Ao26, co26, eo26⟩ := Kd.R_slice HO498.out; subst eo26; obtain ⟨Ao27, co27, eo27⟩ := Kd.R_slice HO501.out; subst eo27; obtain ⟨Ao28, co28, eo28⟩ := Kd.R_slice HO504.out; subst eo28) | ((with_reducible refine gate_callee (f := 27) rfl ?_); refine goesL_ (some 29) rfl rfl Try.func27 (by kernel_rfl) rfl #[.agg #[.int .i64 t494, .int .i64 t495, .slice Ao26 t496.length co26, .slice Ao27 t499.length co27, .slice Ao28 t502.length co28]] rfl z34_ ?_; (with_reducible refine (impl_SchemesFor.calls k t494 t495 _ _ t496 _ _ t499 _ _ t502 t506 t509 _ ?side1 ?side2 ?side3 ?side4 ?side5 ?side6 A10.out).mono ?_); (case side1 => refine (Kd.R_reads' (e := 2) (base := w.heap.size) (ok := fun k_ => ((((nb_ k_ Ao27 t499.length co27 ∧ nb_ k_ Ao28 t502.length co28) ∧ nb_ k_ Ao17 t481.length co17) ∧ nb_ k_ Ao18 t484.length co18) ∧ nb_ k_ Ao19 t487.length co19)) (n := t496.length) (c := co26) ?_).2.2; exact (rc_ (h := by exact Kd.R_mono (rt5_ HO498.out BK505.out) (fun _ h_ => h_.1)))); (case side2 => exact (Kd.R_reads' HO498.out).2.1); (case side3 => refine (Kd.R_reads' (e := 2) (base := w.heap.size) (ok := fun k_ => ((((nb_ k_ Ao26 t496.length co26 ∧ nb_ k_ Ao28 t502.length co28) ∧ nb_ k_ Ao17 t481.length co17) ∧ nb_ k_ Ao18 t484.length co18) ∧ nb_ k_ Ao19 t487.length co19)) (n := t499.length) (c := co27) ?_).2.2; exact (rc_ (h := by exact Kd.R_mono (rt5_ HO501.out BK505.out) (fun _ h_ => h_.1)))); (case side4 => exact (Kd.R_reads' HO501.out).2.1); (case side5 => refine (Kd.R_reads' (e := 2) (base := w.heap.size) (ok := fun k_ => ((((nb_ k_ Ao26 t496.length co26 ∧ nb_ k_ Ao27 t499.length co27) ∧ nb_ k_ Ao17 t481.length co17) ∧ nb_ k_ Ao18 t484.length co18) ∧ nb_ k_ Ao19 t487.length co19)) (n := t502.length) (c := co28) ?_).2.2; exact (rc_ (h := by exact Kd.R_mono (rt5_ HO504.out BK505.out) (fun _ h_ => h_.1)))); (case side6 => exact (Kd.R_reads' HO504.out).2.1); rintro e w29 ⟨v507, rfl, ho0, hb⟩; refine ⟨_, rfl, ?_⟩; replace HO483 := a_ (Kd.R_below (rc_ (h := by exact Kd.R_mono (rt5_ HO483.out BK505.out) (fun _ h_ => h_.1))) hb); replace HO486 := a_ (Kd.R_below (rc_ (h := by exact Kd.R_mono (rt5_ HO486.out BK505.out) (fun _ h_ => h_.1))) hb); replace HO489 := a_ (Kd.R_below (rc_ (h := by exact Kd.R_mono (rt5_ HO489.out BK505.out) (fun _ h_ => h_.1))) hb); replace HO498 := a_ (Kd.R_below (rc_ (h := by exact Kd.R_mono (rt5_ HO498.out BK505.out) (fun _ h_ => h_.1))) hb); replace HO501 := a_ (Kd.R_below (rc_ (h := by exact Kd.R_mono (rt5_ HO501.out BK505.out) (fun _ h_ => h_.1))) hb); replace HO504 := a_ (Kd.R_below (rc_ (h := by exact Kd.R_mono (rt5_ HO504.out BK505.out) (fun _ h_ => h_.1))) hb); have HO508 := a_ (Kd.R_lower (Kd.R_new' ho0 (Kd.R_lt (rc_ (h := by exact Kd.R_mono (rt5_ HO492.out BK505.out) (fun _ h_ => h_.1))))) (below_size z9_)); replace HO492 := a_ (Kd.R_elder' (rc_ (h := by exact Kd.R_mono (rt5_ HO492.out BK505.out) (fun _ h_ => h_.1))) (Kd.R_base ho0) hb); replace BK477 := a_ (blk_below (g := gb477) (o := .cells #[.int .i64 a0_0, .int .i64 a0_1, .slice A0_2 l0_2.length c0_2, .slice A0_3 l0_3.length c0_3, .slice A0_4 l0_4.length c0_4] 24 (0, 0)) (rb2_ (h := by exact bf5_ NB477_505.out BK477.out)) hb); replace BK505 := a_ (blk_below (g := gb505) (o := .cells #[.int .i64 t494, .int .i64 t495, .slice Ao26 t496.length co26, .slice Ao27 t499.length co27, .slice Ao28 t502.length co28] 27 (0, 0)) (rb2_ (h := by exact bp5x5_ BK505.out)) hb); replace HB := a_ (below_step z9_ hb); (try clear hb); (try clear hb2); (try clear hk); (try clear hi); (try clear ho0)))
  (try simp only [Act.put, List.setIfInBounds_toArray, List.set_cons_zero, List.set_cons_succ])
  go_cut [40] (fun v40 wc => ∃ (kq : Nat) (x40_10 : Bool), v40 = .bool x40_10 ∧ Aside0 (laws_FnExactSchemesFor.j0 kq t490 t493 t506 t509 x40_10 a0_0 a0_1 l0_2 l0_3 l0_4 t494 t495 t496 t499 t502 = some r) ∧ Aside0 (kq ≤ k) ∧ Aside0 (Kd.R Kd.string 9 wc w.heap.size (fun k_ => some k_ ≠ (v507 : Value).ownBlock) v491 t490) ∧ Aside0 (Kd.R Kd.string 9 wc w.heap.size (fun k_ => some k_ ≠ (v491 : Value).ownBlock) v507 t506) ∧ Aside0 (Kd.R (Kd.int .i64) 2 wc w.heap.size (fun k_ => nb_ k_ Ao27 t499.length co27 ∧ nb_ k_ Ao28 t502.length co28) (.slice Ao26 t496.length co26) t496) ∧ Aside0 (Kd.R (Kd.int .i64) 2 wc w.heap.size (fun k_ => nb_ k_ Ao26 t496.length co26 ∧ nb_ k_ Ao28 t502.length co28) (.slice Ao27 t499.length co27) t499) ∧ Aside0 (Kd.R (Kd.int .i64) 2 wc w.heap.size (fun k_ => nb_ k_ Ao26 t496.length co26 ∧ nb_ k_ Ao27 t499.length co27) (.slice Ao28 t502.length co28) t502) ∧ Aside0 (wc.heap[gb477]? = some (.cells #[.int .i64 a0_0, .int .i64 a0_1, (.slice A0_2 l0_2.length c0_2), (.slice A0_3 l0_3.length c0_3), (.slice A0_4 l0_4.length c0_4)] 24 (0, 0))) ∧ Aside0 (wc.heap[gb505]? = some (.cells #[.int .i64 t494, .int .i64 t495, (.slice Ao26 t496.length co26), (.slice Ao27 t499.length co27), (.slice Ao28 t502.length co28)] 27 (0, 0))) ∧ Aside0 (Below w.heap.size w wc))
  case first =>
   have H := HC11.out
   clear HC11
   replace H := Option.bind_eq_some_iff.mp H
   obtain ⟨t510, A300, H⟩ := H
   replace H : (if t510 = true then (laws_FnExactSchemesFor.j0 k t490 t493 t506 t509 (t509 != t493) a0_0 a0_1 l0_2 l0_3 l0_4 t494 t495 t496 t499 t502) else (none)) = some r := H
   have A30 := Aside0.mk A300
   clear A300
   by_cases c31 : t510 = true
   ·subst c31
    have H1 : (laws_FnExactSchemesFor.j0 k t490 t493 t506 t509 (t509 != t493) a0_0 a0_1 l0_2 l0_3 l0_4 t494 t495 t496 t499 t502) = some r := by rw [if_pos rfl] at H; exact H
    clear H
    have H := H1
    clear H1
    have H' := Aside0.mk H
    clear H
    obtain ⟨Ao32, co32, eo32⟩ := Kd.R_slice HO508.out
    subst eo32
    obtain ⟨Ao33, co33, eo33⟩ := Kd.R_slice HO492.out
    subst eo33
    go_wp2_with (first | ((with_reducible refine gate_callee (f := 28) rfl ?_); refine goesL_ (some 34) rfl rfl Try.func28 (by kernel_rfl) rfl #[.slice Ao32 t506.length co32, .slice Ao33 t490.length co33] rfl z34_ ?_; (with_reducible refine (laws_eqStringS.calls k _ _ t506 _ _ t490 true _ ?side1 ?side2 ?side3 ?side4 A30.out).mono ?_); (case side1 => exact (by (repeat (first | exact (Kd.R_reads' HO508.out).2.2 | (with_reducible refine Kd.C_alloc ?_ _) | (with_reducible refine Kd.C_drewN ?_ _) | (with_reducible refine Kd.C_drew ?_))); first | done | fail)); (case side2 => exact (Kd.R_reads' HO508.out).2.1); (case side3 => exact (by (repeat (first | exact (Kd.R_reads' HO492.out).2.2 | (with_reducible refine Kd.C_alloc ?_ _) | (with_reducible refine Kd.C_drewN ?_ _) | (with_reducible refine Kd.C_drew ?_))); first | done | fail)); (case side4 => exact (Kd.R_reads' HO492.out).2.1); rintro e w' ⟨rfl, ⟨nd, rfl⟩⟩; refine ⟨_, rfl, ?_⟩))
    go_meet
    case rel => exact ⟨_, ((t509 != t493)), z81_, H', ⟨z84_⟩, ⟨by (with_reducible repeat (first | apply Kd.R_alloc | apply Kd.R_drewN | apply Kd.R_drew)); exact Kd.R_mono HO492.out (fun _ hk => hk.2)⟩, ⟨by (with_reducible repeat (first | apply Kd.R_alloc | apply Kd.R_drewN | apply Kd.R_drew)); exact Kd.R_mono HO508.out (fun _ hk => hk.2)⟩, ⟨by (with_reducible repeat (first | apply Kd.R_alloc | apply Kd.R_drewN | apply Kd.R_drew)); exact Kd.R_mono HO498.out (fun _ hk => ⟨hk.1.1.1.1, hk.1.1.1.2⟩)⟩, ⟨by (with_reducible repeat (first | apply Kd.R_alloc | apply Kd.R_drewN | apply Kd.R_drew)); exact Kd.R_mono HO501.out (fun _ hk => ⟨hk.1.1.1.1, hk.1.1.1.2⟩)⟩, ⟨by (with_reducible repeat (first | apply Kd.R_alloc | apply Kd.R_drewN | apply Kd.R_drew)); exact Kd.R_mono HO504.out (fun _ hk => ⟨hk.1.1.1.1, hk.1.1.1.2⟩)⟩, ⟨by (with_reducible repeat (first | refine blk_drewN ?_ _ | refine blk_drew ?_ | refine blk_alloc ?_ _)); exact BK477.out⟩, ⟨by (with_reducible repeat (first | refine blk_drewN ?_ _ | refine blk_drew ?_ | refine blk_alloc ?_ _)); exact BK505.out⟩, ⟨z9_⟩⟩
   ·replace c31 := Bool.eq_false_iff.mpr c31
    subst c31
    have H1 : (none) = some r := by rw [if_neg (show ¬ (false = true) by decide)] at H; exact H
    clear H
    have H := H1
    clear H1
    exact absurd H (by simp)
  case rest =>
   clear HC11; try clear c3b0; try clear hcz13_0 hcz13_1 hcz13_2 hcz13_3 hcz13_4; try clear hcz15_0 hcz15_1 hcz15_2 hcz15_3 hcz15_4; try clear hcz21_0 hcz21_1 hcz21_2 hcz21_3 hcz21_4; try clear hcz25_0 hcz25_1 hcz25_2 hcz25_3 hcz25_4; try clear hfz13_0 hfz13_1 hfz13_2 hfz13_3 hfz13_4; try clear hfz15_0 hfz15_1 hfz15_2 hfz15_3 hfz15_4; try clear hfz21_0 hfz21_1 hfz21_2 hfz21_3 hfz21_4; try clear hfz25_0 hfz25_1 hfz25_2 hfz25_3 hfz25_4
   obtain ⟨kq, x40_10, rfl, HA, HJ10, HO_4, HO_7, HO_506002, HO_506003, HO_506004, BK477, BK505, HB⟩ := hcut
   cases kq with
   | zero => exact absurd HA.out (by simp [laws_FnExactSchemesFor.j0])
   | succ kj10 =>
    have H := HA.out
    clear HA
    simp only [laws_FnExactSchemesFor.j0] at H
    by_cases c34 : x40_10 = true
    ·subst c34
     have H1 : (none) = some r := by rw [if_pos rfl] at H; exact H
     clear H
     have H := H1
     clear H1
     exact absurd H (by simp)
    ·replace c34 := Bool.eq_false_iff.mpr c34
     subst c34
     have H1 : ((laws_toForm.f kj10 a0_0 a0_1 l0_2 l0_3 l0_4).bind fun bt511 => ((laws_eqForm.f kj10 t494 t495 t496 t499 t502 bt511.1 bt511.2.1 bt511.2.2.1 bt511.2.2.2.1 bt511.2.2.2.2).bind fun t522 => (if t522 = true then ((laws_markForm.f kj10 t494 t495 t496 t499 t502 1).bind fun bt523 => (if bt523.1 < 0 then (none) else ((laws_eqStringS.f kj10 t506 t490).bind fun t527 => (if t527 = true then (laws_FnExactSchemesFor.j1 kj10 t490 t493 t506 (t509 != t493) a0_0 a0_1 l0_2 l0_3 l0_4) else (none))))) else (none)))) = some r := by rw [if_neg (show ¬ (false = true) by decide)] at H; exact H
     clear H
     have H := H1
     clear H1
     replace H := Option.bind_eq_some_iff.mp H
     obtain ⟨⟨t511, t512, t513, t516, t519⟩, A350, H⟩ := H
     replace H : ((laws_eqForm.f kj10 t494 t495 t496 t499 t502 t511 t512 t513 t516 t519).bind fun t522 => (if t522 = true then ((laws_markForm.f kj10 t494 t495 t496 t499 t502 1).bind fun bt523 => (if bt523.1 < 0 then (none) else ((laws_eqStringS.f kj10 t506 t490).bind fun t527 => (if t527 = true then (laws_FnExactSchemesFor.j1 kj10 t490 t493 t506 (t509 != t493) a0_0 a0_1 l0_2 l0_3 l0_4) else (none))))) else (none))) = some r := H
     have A35 := Aside0.mk A350
     clear A350
     replace H := Option.bind_eq_some_iff.mp H
     obtain ⟨t522, A360, H⟩ := H
     replace H : (if t522 = true then ((laws_markForm.f kj10 t494 t495 t496 t499 t502 1).bind fun bt523 => (if bt523.1 < 0 then (none) else ((laws_eqStringS.f kj10 t506 t490).bind fun t527 => (if t527 = true then (laws_FnExactSchemesFor.j1 kj10 t490 t493 t506 (t509 != t493) a0_0 a0_1 l0_2 l0_3 l0_4) else (none))))) else (none)) = some r := H
     have A36 := Aside0.mk A360
     clear A360
     by_cases c37 : t522 = true
     ·subst c37
      have H1 : ((laws_markForm.f kj10 t494 t495 t496 t499 t502 1).bind fun bt523 => (if bt523.1 < 0 then (none) else ((laws_eqStringS.f kj10 t506 t490).bind fun t527 => (if t527 = true then (laws_FnExactSchemesFor.j1 kj10 t490 t493 t506 (t509 != t493) a0_0 a0_1 l0_2 l0_3 l0_4) else (none))))) = some r := by rw [if_pos rfl] at H; exact H
      clear H
      have H := H1
      clear H1
      replace H := Option.bind_eq_some_iff.mp H
      obtain ⟨⟨t523, t524, t525, t526⟩, A380, H⟩ := H
      replace H : (if t523 < 0 then (none) else ((laws_eqStringS.f kj10 t506 t490).bind fun t527 => (if t527 = true then (laws_FnExactSchemesFor.j1 kj10 t490 t493 t506 (t509 != t493) a0_0 a0_1 l0_2 l0_3 l0_4) else (none)))) = some r := H
      have A38 := Aside0.mk A380
      clear A380
      have HC39 := Aside0.mk H
      clear H
      try go_wp2
      replace HO_4 := a_ (Kd.R_drew HO_4.out)
      replace HO_7 := a_ (Kd.R_drew HO_7.out)
      replace HO_506002 := a_ (Kd.R_drew HO_506002.out)
      replace HO_506003 := a_ (Kd.R_drew HO_506003.out)
      replace HO_506004 := a_ (Kd.R_drew HO_506004.out)
      replace BK477 := a_ (blk_drew BK477.out)
      replace BK505 := a_ (blk_drew BK505.out)
      replace HB := a_ (below_drew1 HB.out)
      refine start_ (n := 5) (S := fun w' => w'.cell? ⟨gb505, 0, none⟩ = some (.int .i64 t494) ∧ w'.cell? ⟨gb505, 1, none⟩ = some (.int .i64 t495) ∧ w'.cell? ⟨gb505, 2, none⟩ = some (.slice Ao26 t496.length co26) ∧ w'.cell? ⟨gb505, 3, none⟩ = some (.slice Ao27 t499.length co27) ∧ w'.cell? ⟨gb505, 4, none⟩ = some (.slice Ao28 t502.length co28) ∧ w'.cell? ⟨gb477, 0, none⟩ = some (.int .i64 a0_0) ∧ w'.cell? ⟨gb477, 1, none⟩ = some (.int .i64 a0_1) ∧ w'.cell? ⟨gb477, 2, none⟩ = some (.slice A0_2 l0_2.length c0_2) ∧ w'.cell? ⟨gb477, 3, none⟩ = some (.slice A0_3 l0_3.length c0_3) ∧ w'.cell? ⟨gb477, 4, none⟩ = some (.slice A0_4 l0_4.length c0_4)) (ds := []) #[false, false, false, false, false] (by kernel_rfl) rfl rfl ⟨(blk_cell BK505.out 0).trans rfl, (blk_cell BK505.out 1).trans rfl, (blk_cell BK505.out 2).trans rfl, (blk_cell BK505.out 3).trans rfl, (blk_cell BK505.out 4).trans rfl, (blk_cell BK477.out 0).trans rfl, (blk_cell BK477.out 1).trans rfl, (blk_cell BK477.out 2).trans rfl, (blk_cell BK477.out 3).trans rfl, (blk_cell BK477.out 4).trans rfl⟩ (fun hHeld => ?_)
      generalize wc.drew = w40 at HO_4 HO_7 HO_506002 HO_506003 HO_506004 BK477 BK505 HB hHeld ⊢
      refine tk10_ (i := 0) (N := some 41) #[true, false, false, false, false] hHeld ?_ (hc := (by kernel_rfl))
      refine tk10_ (i := 1) (N := some 42) #[true, true, false, false, false] hHeld ?_ (hc := (by kernel_rfl))
      refine one_ (i := 2) (N := some 43) #[true, true, true, false, false] rfl rfl (by kernel_rfl) (by decide) (fun K hK => ?_)
      refine goes_ Try.func11 (by kernel_rfl) rfl #[.agg #[.int .i64 a0_0, .int .i64 a0_1, .slice A0_2 l0_2.length c0_2, .slice A0_3 l0_3.length c0_3, .slice A0_4 l0_4.length c0_4]] (by rfl) rfl rfl z34_ ?_
      with_reducible refine (laws_toForm.calls kj10 a0_0 a0_1 _ _ l0_2 _ _ l0_3 _ _ l0_4 t511 t512 t513 t516 t519 _ ?side1 ?side2 ?side3 ?side4 ?side5 ?side6 A35.out).mono ?_
      (case side1 => exact kc_ (Kd.C_below HR0_2.out HB.out))
      (case side2 => exact HC0_2.out)
      (case side3 => exact kc_ (Kd.C_below HR0_3.out HB.out))
      (case side4 => exact HC0_3.out)
      (case side5 => exact kc_ (Kd.C_below HR0_4.out HB.out))
      (case side6 => exact HC0_4.out)
      rintro e w41 ⟨v514, v517, v520, rfl, ho0, ho1, ho2, hb⟩
      refine ⟨_, rfl, ?_⟩
      replace HO_4 := a_ (Kd.R_below (ra_ HO_4.out) hb)
      replace HO_7 := a_ (Kd.R_below (ra_ HO_7.out) hb)
      have HO515 := a_ (Kd.R_lower (Kd.R_new' (Kd.R_new' (Kd.R_new' ho0 (Kd.R_lt (ra_ HO_506002.out))) (Kd.R_lt (ra_ HO_506003.out))) (Kd.R_lt (ra_ HO_506004.out))) (below_size z9_))
      have HO518 := a_ (Kd.R_lower (Kd.R_new' (Kd.R_new' (Kd.R_new' ho1 (Kd.R_lt (ra_ HO_506002.out))) (Kd.R_lt (ra_ HO_506003.out))) (Kd.R_lt (ra_ HO_506004.out))) (below_size z9_))
      have HO521 := a_ (Kd.R_lower (Kd.R_new' (Kd.R_new' (Kd.R_new' ho2 (Kd.R_lt (ra_ HO_506002.out))) (Kd.R_lt (ra_ HO_506003.out))) (Kd.R_lt (ra_ HO_506004.out))) (below_size z9_))
      replace HO_506002 := a_ (Kd.R_mono (Kd.R_told (Kd.R_told (Kd.R_told (Kd.R_old (ra_ HO_506002.out) hb) (Kd.R_base ho0)) (Kd.R_base ho1)) (Kd.R_base ho2)) (fun _ h_ => h_.1))
      replace HO_506003 := a_ (Kd.R_mono (Kd.R_told (Kd.R_told (Kd.R_told (Kd.R_old (ra_ HO_506003.out) hb) (Kd.R_base ho0)) (Kd.R_base ho1)) (Kd.R_base ho2)) (fun _ h_ => h_.1))
      replace HO_506004 := a_ (Kd.R_mono (Kd.R_told (Kd.R_told (Kd.R_told (Kd.R_old (ra_ HO_506004.out) hb) (Kd.R_base ho0)) (Kd.R_base ho1)) (Kd.R_base ho2)) (fun _ h_ => h_.1))
      replace BK477 := a_ (blk_below (g := gb477) (rb_ BK477.out) hb)
      replace BK505 := a_ (blk_below (g := gb505) (rb_ BK505.out) hb)
      replace HB := a_ (below_step z9_ hb)
      (try clear hb)
      (try clear hb2)
      (try clear hk)
      (try clear hi)
      (try clear ho0)
      (try clear ho1)
      (try clear ho2)
      obtain ⟨Ao42, co42, eo42⟩ := Kd.R_slice HO515.out
      (first | subst eo42 | (injection eo42 with f1_ f2_ f3_; have f4_ := f1_.symm; have f5_ := f3_.symm; clear f1_ f2_ f3_; subst f4_; subst f5_))
      obtain ⟨Ao43, co43, eo43⟩ := Kd.R_slice HO518.out
      (first | subst eo43 | (injection eo43 with f1_ f2_ f3_; have f4_ := f1_.symm; have f5_ := f3_.symm; clear f1_ f2_ f3_; subst f4_; subst f5_))
      obtain ⟨Ao44, co44, eo44⟩ := Kd.R_slice HO521.out
      (first | subst eo44 | (injection eo44 with f1_ f2_ f3_; have f4_ := f1_.symm; have f5_ := f3_.symm; clear f1_ f2_ f3_; subst f4_; subst f5_))
      refine hK.out _ _ ⟨(blk_cell BK505.out 0).trans rfl, (blk_cell BK505.out 1).trans rfl, (blk_cell BK505.out 2).trans rfl, (blk_cell BK505.out 3).trans rfl, (blk_cell BK505.out 4).trans rfl, (blk_cell BK477.out 0).trans rfl, (blk_cell BK477.out 1).trans rfl, (blk_cell BK477.out 2).trans rfl, (blk_cell BK477.out 3).trans rfl, (blk_cell BK477.out 4).trans rfl⟩ (fun hHeld => ?_)
      clear hK K
      refine nm_ ?_
      refine one_ (i := 3) (N := some 44) #[true, true, true, true, false] rfl rfl (by kernel_rfl) (by decide) (fun K hK => ?_)
      refine goes_ Try.func13 (by kernel_rfl) rfl #[.agg #[.int .i64 t494, .int .i64 t495, .slice Ao26 t496.length co26, .slice Ao27 t499.length co27, .slice Ao28 t502.length co28], .agg #[.int .i64 t511, .int .i64 t512, .slice Ao42 t513.length co42, .slice Ao43 t516.length co43, .slice Ao44 t519.length co44]] (by rfl) rfl rfl z34_ ?_
      with_reducible refine (laws_eqForm.calls kj10 t494 t495 _ _ t496 _ _ t499 _ _ t502 t511 t512 _ _ t513 _ _ t516 _ _ t519 true _ ?side1 ?side2 ?side3 ?side4 ?side5 ?side6 ?side7 ?side8 ?side9 ?side10 ?side11 ?side12 A36.out).mono ?_
      (case side1 => exact (by (repeat (first | exact (Kd.R_reads' HO_506002.out).2.2 | (with_reducible refine Kd.C_alloc ?_ _) | (with_reducible refine Kd.C_drewN ?_ _) | (with_reducible refine Kd.C_drew ?_))); first | done | fail))
      (case side2 => exact (Kd.R_reads' HO_506002.out).2.1)
      (case side3 => exact (by (repeat (first | exact (Kd.R_reads' HO_506003.out).2.2 | (with_reducible refine Kd.C_alloc ?_ _) | (with_reducible refine Kd.C_drewN ?_ _) | (with_reducible refine Kd.C_drew ?_))); first | done | fail))
      (case side4 => exact (Kd.R_reads' HO_506003.out).2.1)
      (case side5 => exact (by (repeat (first | exact (Kd.R_reads' HO_506004.out).2.2 | (with_reducible refine Kd.C_alloc ?_ _) | (with_reducible refine Kd.C_drewN ?_ _) | (with_reducible refine Kd.C_drew ?_))); first | done | fail))
      (case side6 => exact (Kd.R_reads' HO_506004.out).2.1)
      (case side7 => exact (by (repeat (first | exact (Kd.R_reads' HO515.out).2.2 | (with_reducible refine Kd.C_alloc ?_ _) | (with_reducible refine Kd.C_drewN ?_ _) | (with_reducible refine Kd.C_drew ?_))); first | done | fail))
      (case side8 => exact (Kd.R_reads' HO515.out).2.1)
      (case side9 => exact (by (repeat (first | exact (Kd.R_reads' HO518.out).2.2 | (with_reducible refine Kd.C_alloc ?_ _) | (with_reducible refine Kd.C_drewN ?_ _) | (with_reducible refine Kd.C_drew ?_))); first | done | fail))
      (case side10 => exact (Kd.R_reads' HO518.out).2.1)
      (case side11 => exact (by (repeat (first | exact (Kd.R_reads' HO521.out).2.2 | (with_reducible refine Kd.C_alloc ?_ _) | (with_reducible refine Kd.C_drewN ?_ _) | (with_reducible refine Kd.C_drew ?_))); first | done | fail))
      (case side12 => exact (Kd.R_reads' HO521.out).2.1)
      rintro e w45 ⟨rfl, hb⟩
      refine ⟨_, rfl, ?_⟩
      replace HO_4 := a_ (Kd.R_below (ra_ HO_4.out) hb)
      replace HO_7 := a_ (Kd.R_below (ra_ HO_7.out) hb)
      replace HO_506002 := a_ (Kd.R_below (ra_ HO_506002.out) hb)
      replace HO_506003 := a_ (Kd.R_below (ra_ HO_506003.out) hb)
      replace HO_506004 := a_ (Kd.R_below (ra_ HO_506004.out) hb)
      replace HO515 := a_ (Kd.R_below (ra_ HO515.out) hb)
      replace HO518 := a_ (Kd.R_below (ra_ HO518.out) hb)
      replace HO521 := a_ (Kd.R_below (ra_ HO521.out) hb)
      replace BK477 := a_ (blk_below (g := gb477) (rb_ BK477.out) hb)
      replace BK505 := a_ (blk_below (g := gb505) (rb_ BK505.out) hb)
      replace HB := a_ (below_step z9_ hb)
      (try clear hb)
      (try clear hb2)
      (try clear hk)
      (try clear hi)
      refine hK.out _ _ ⟨(blk_cell BK505.out 0).trans rfl, (blk_cell BK505.out 1).trans rfl, (blk_cell BK505.out 2).trans rfl, (blk_cell BK505.out 3).trans rfl, (blk_cell BK505.out 4).trans rfl, (blk_cell BK477.out 0).trans rfl, (blk_cell BK477.out 1).trans rfl, (blk_cell BK477.out 2).trans rfl, (blk_cell BK477.out 3).trans rfl, (blk_cell BK477.out 4).trans rfl⟩ (fun hHeld => ?_)
      clear hK K
      refine nm_ ?_
      refine pu_ (i := 4) (N := some 45) #[true, true, true, true, true] ?_ (hc := (by kernel_rfl))
      refine done_ (by kernel_rfl) ?_
      have hnb46 := NB505_477.out
      have hnc46 := NB477_505.out
      obtain ⟨hcz47_0, hcz47_1, hcz47_2, hcz47_3, hcz47_4, hfz47_0, hfz47_1, hfz47_2, hfz47_3, hfz47_4⟩ := cz5_ (w := w45) BK505.out
      go_upto_region 14 with (first | ((with_reducible refine gate_callee (f := 18) rfl ?_); refine goesL_ (some 48) rfl rfl Try.func18 (by kernel_rfl) rfl #[.agg #[.int .i64 t494, .int .i64 t495, .slice Ao26 t496.length co26, .slice Ao27 t499.length co27, .slice Ao28 t502.length co28], .int .i64 1] rfl z34_ ?_; (with_reducible refine (laws_markForm.calls kj10 t494 t495 (fun k_ => some k_ = (.slice Ao26 t496.length co26 : Value).ownBlock) (.slice Ao26 t496.length co26) t496 (fun k_ => some k_ = (.slice Ao27 t499.length co27 : Value).ownBlock) (.slice Ao27 t499.length co27) t499 (fun k_ => some k_ = (.slice Ao28 t502.length co28 : Value).ownBlock) (.slice Ao28 t502.length co28) t502 1 t523 t524 t525 t526 w _ ?side1 ?side2 ?side3 ?side4 ?side5 ?side6 ?side7 ?side8 ?side9 ?side10 A38.out).mono ?_); (case side1 => exact z9_); (case side2 => exact Kd.R_tight rfl HO_506002.out); (case side3 => exact fun k_ e_ => (HO_506002.out.1 k_ e_.symm).1.1.1.1); (case side4 => exact fun k_ e_ => (HO_506002.out.1 k_ e_.symm).1.1.1.2); (case side5 => exact Kd.R_tight rfl HO_506003.out); (case side6 => exact fun k_ e_ => (HO_506003.out.1 k_ e_.symm).1.1.1.1); (case side7 => exact fun k_ e_ => (HO_506003.out.1 k_ e_.symm).1.1.1.2); (case side8 => exact Kd.R_tight rfl HO_506004.out); (case side9 => exact fun k_ e_ => (HO_506004.out.1 k_ e_.symm).1.1.1.1); (case side10 => exact fun k_ e_ => (HO_506004.out.1 k_ e_.symm).1.1.1.2); rintro e w48 ⟨rfl, hy0, hy1, hy2, hb, hkp⟩; refine ⟨_, rfl, ?_⟩; replace HO_4 := a_ (Kd.R_mono (ok' := fun k_ => some k_ ≠ (v507 : Value).ownBlock) (Kd.R_keptB ((Kd.R_apart' (Kd.R_apart' (Kd.R_apart' HO_4.out (Kd.R_typed HO_506002.out) (by decide)) (Kd.R_typed HO_506003.out) (by decide)) (Kd.R_typed HO_506004.out) (by decide))) hkp (fun k_ hk_ hs_ => Or.elim hs_ (fun e_ => (hk_.1.1.2) e_) (fun e_ => Or.elim e_ (fun e_ => (hk_.1.2) e_) (fun e_ => (hk_.2) e_)))) (fun k_ hk_ => hk_.1.1.1.1)); replace HO_7 := a_ (Kd.R_mono (ok' := fun k_ => some k_ ≠ (v491 : Value).ownBlock) (Kd.R_keptB ((Kd.R_apart' (Kd.R_apart' (Kd.R_apart' HO_7.out (Kd.R_typed HO_506002.out) (by decide)) (Kd.R_typed HO_506003.out) (by decide)) (Kd.R_typed HO_506004.out) (by decide))) hkp (fun k_ hk_ hs_ => Or.elim hs_ (fun e_ => (hk_.1.1.2) e_) (fun e_ => Or.elim e_ (fun e_ => (hk_.1.2) e_) (fun e_ => (hk_.2) e_)))) (fun k_ hk_ => hk_.1.1.1.1)); replace BK477 := a_ (blk_kept (rb_ BK477.out) hkp (fun hs_ => Or.elim hs_ (fun e_ => (fun e_ => (Kd.R_ne HO_506002.out BK477.out (by decide)) e_) e_) (fun e_ => Or.elim e_ (fun e_ => (fun e_ => (Kd.R_ne HO_506003.out BK477.out (by decide)) e_) e_) (fun e_ => (fun e_ => (Kd.R_ne HO_506004.out BK477.out (by decide)) e_) e_)))); replace BK505 := a_ (blk_kept (rb_ BK505.out) hkp (fun hs_ => Or.elim hs_ (fun e_ => (fun e_ => (Kd.R_ne HO_506002.out BK505.out (by decide)) e_) e_) (fun e_ => Or.elim e_ (fun e_ => (fun e_ => (Kd.R_ne HO_506003.out BK505.out (by decide)) e_) e_) (fun e_ => (fun e_ => (Kd.R_ne HO_506004.out BK505.out (by decide)) e_) e_)))); replace HO_506002 := a_ (Kd.R_reok rfl hy0 (fun k_ e_ => HO_506002.out.1 k_ e_)); replace HO_506003 := a_ (Kd.R_reok rfl hy1 (fun k_ e_ => HO_506003.out.1 k_ e_)); replace HO_506004 := a_ (Kd.R_reok rfl hy2 (fun k_ e_ => HO_506004.out.1 k_ e_)); replace HO515 := a_ (Kd.R_mono (ok' := fun k_ => nb_ k_ Ao26 t496.length co26 ∧ nb_ k_ Ao27 t499.length co27 ∧ nb_ k_ Ao28 t502.length co28 ∧ nb_ k_ Ao43 t516.length co43 ∧ nb_ k_ Ao44 t519.length co44) (Kd.R_keptB (HO515.out) hkp (fun k_ hk_ hs_ => Or.elim hs_ (fun e_ => (hk_.1.1.2) e_) (fun e_ => Or.elim e_ (fun e_ => (hk_.1.2) e_) (fun e_ => (hk_.2) e_)))) (fun k_ hk_ => ⟨hk_.1.1.1.2, hk_.1.1.2, hk_.1.2, hk_.1.1.1.1.1, hk_.1.1.1.1.2⟩)); replace HO518 := a_ (Kd.R_mono (ok' := fun k_ => nb_ k_ Ao26 t496.length co26 ∧ nb_ k_ Ao27 t499.length co27 ∧ nb_ k_ Ao28 t502.length co28 ∧ nb_ k_ Ao42 t513.length co42 ∧ nb_ k_ Ao44 t519.length co44) (Kd.R_keptB (HO518.out) hkp (fun k_ hk_ hs_ => Or.elim hs_ (fun e_ => (hk_.1.1.2) e_) (fun e_ => Or.elim e_ (fun e_ => (hk_.1.2) e_) (fun e_ => (hk_.2) e_)))) (fun k_ hk_ => ⟨hk_.1.1.1.2, hk_.1.1.2, hk_.1.2, hk_.1.1.1.1.1, hk_.1.1.1.1.2⟩)); replace HO521 := a_ (Kd.R_mono (ok' := fun k_ => nb_ k_ Ao26 t496.length co26 ∧ nb_ k_ Ao27 t499.length co27 ∧ nb_ k_ Ao28 t502.length co28 ∧ nb_ k_ Ao42 t513.length co42 ∧ nb_ k_ Ao43 t516.length co43) (Kd.R_keptB (HO521.out) hkp (fun k_ hk_ hs_ => Or.elim hs_ (fun e_ => (hk_.1.1.2) e_) (fun e_ => Or.elim e_ (fun e_ => (hk_.1.2) e_) (fun e_ => (hk_.2) e_)))) (fun k_ hk_ => ⟨hk_.1.1.1.2, hk_.1.1.2, hk_.1.2, hk_.1.1.1.1.1, hk_.1.1.1.1.2⟩)); replace HB := a_ (hb); (try clear hb); (try clear hkp); (try clear hy0); (try clear hy1); (try clear hy2)))
      (try simp only [Act.put, List.setIfInBounds_toArray, List.set_cons_zero, List.set_cons_succ])
      go_cut [61] (fun v61 wc => ∃ (kq : Nat) (x61_38 : Bool), v61 = .bool x61_38 ∧ Aside0 (laws_FnExactSchemesFor.j1 kq t490 t493 t506 x61_38 a0_0 a0_1 l0_2 l0_3 l0_4 = some r) ∧ Aside0 (kq ≤ kj10) ∧ Aside0 (Kd.R Kd.string 9 wc w.heap.size (fun k_ => some k_ ≠ (v507 : Value).ownBlock) v491 t490) ∧ Aside0 (Kd.R Kd.string 9 wc w.heap.size (fun k_ => some k_ ≠ (v491 : Value).ownBlock) v507 t506) ∧ Aside0 (Kd.R (Kd.int .i64) 2 wc w.heap.size (fun k_ => nb_ k_ Ao27 t499.length co27 ∧ nb_ k_ Ao28 t502.length co28) (.slice Ao26 t496.length co26) t524) ∧ Aside0 (Kd.R (Kd.int .i64) 2 wc w.heap.size (fun k_ => nb_ k_ Ao26 t496.length co26 ∧ nb_ k_ Ao28 t502.length co28) (.slice Ao27 t499.length co27) t525) ∧ Aside0 (Kd.R (Kd.int .i64) 2 wc w.heap.size (fun k_ => nb_ k_ Ao26 t496.length co26 ∧ nb_ k_ Ao27 t499.length co27) (.slice Ao28 t502.length co28) t526) ∧ Aside0 (wc.heap[gb477]? = some (.cells #[.int .i64 a0_0, .int .i64 a0_1, (.slice A0_2 l0_2.length c0_2), (.slice A0_3 l0_3.length c0_3), (.slice A0_4 l0_4.length c0_4)] 24 (0, 0))) ∧ Aside0 (wc.heap[gb505]? = some (.cells #[.int .i64 t494, .int .i64 t495, (.slice Ao26 t496.length co26), (.slice Ao27 t499.length co27), (.slice Ao28 t502.length co28)] 27 (0, 0))) ∧ Aside0 (Below w.heap.size w wc))
      case first =>
       have H := HC39.out
       clear HC39
       by_cases c49 : t523 < 0
       ·rw [if_pos c49] at H
        exact absurd H (by simp)
       ·rw [if_neg c49] at H
        have c49b0 : decide (t523 < 0) = false := decide_eq_false c49
        clear c49
        (first | rw [c49b0] | (simp only [i64_w, i32_w]; rw [c49b0]) | skip)
        replace H := Option.bind_eq_some_iff.mp H
        obtain ⟨t527, A500, H⟩ := H
        replace H : (if t527 = true then (laws_FnExactSchemesFor.j1 kj10 t490 t493 t506 (t509 != t493) a0_0 a0_1 l0_2 l0_3 l0_4) else (none)) = some r := H
        have A50 := Aside0.mk A500
        clear A500
        by_cases c51 : t527 = true
        ·subst c51
         have H1 : (laws_FnExactSchemesFor.j1 kj10 t490 t493 t506 (t509 != t493) a0_0 a0_1 l0_2 l0_3 l0_4) = some r := by rw [if_pos rfl] at H; exact H
         clear H
         have H := H1
         clear H1
         have H' := Aside0.mk H
         clear H
         obtain ⟨Ao52, co52, eo52⟩ := Kd.R_slice HO_7.out
         subst eo52
         obtain ⟨Ao53, co53, eo53⟩ := Kd.R_slice HO_4.out
         subst eo53
         go_wp2_with (first | (go_at_call 28; (with_reducible refine (laws_eqStringS.calls kj10 _ _ t506 _ _ t490 true _ ?side1 ?side2 ?side3 ?side4 A50.out).mono ?_); (case side1 => exact z15_); (case side2 => exact (Kd.R_reads' HO_7.out).2.1); (case side3 => exact (by (repeat (first | exact (Kd.R_reads' HO_4.out).2.2 | (with_reducible refine Kd.C_alloc ?_ _) | (with_reducible refine Kd.C_drewN ?_ _) | (with_reducible refine Kd.C_drew ?_))); first | done | fail)); (case side4 => exact (Kd.R_reads' HO_4.out).2.1); rintro e w' ⟨rfl, ⟨nd, rfl⟩⟩))
         go_meet
         case rel => exact ⟨_, ((t509 != t493)), z81_, H', ⟨by have := HJ10.out; first | omega | exact Nat.le_refl _⟩, ⟨z65_⟩, ⟨z66_⟩, ⟨by (with_reducible repeat (first | apply Kd.R_alloc | apply Kd.R_drewN | apply Kd.R_drew)); exact Kd.R_mono HO_506002.out (fun _ hk => ⟨hk.1.1.1.1, hk.1.1.1.2⟩)⟩, ⟨by (with_reducible repeat (first | apply Kd.R_alloc | apply Kd.R_drewN | apply Kd.R_drew)); exact Kd.R_mono HO_506003.out (fun _ hk => ⟨hk.1.1.1.1, hk.1.1.1.2⟩)⟩, ⟨by (with_reducible repeat (first | apply Kd.R_alloc | apply Kd.R_drewN | apply Kd.R_drew)); exact Kd.R_mono HO_506004.out (fun _ hk => ⟨hk.1.1.1.1, hk.1.1.1.2⟩)⟩, ⟨by (with_reducible repeat (first | refine blk_drewN ?_ _ | refine blk_drew ?_ | refine blk_alloc ?_ _)); exact BK477.out⟩, ⟨by (with_reducible repeat (first | refine blk_drewN ?_ _ | refine blk_drew ?_ | refine blk_alloc ?_ _)); exact BK505.out⟩, ⟨z9_⟩⟩
        ·replace c51 := Bool.eq_false_iff.mpr c51
         subst c51
         have H1 : (none) = some r := by rw [if_neg (show ¬ (false = true) by decide)] at H; exact H
         clear H
         have H := H1
         clear H1
         exact absurd H (by simp)
      case rest =>
       clear HC39; try clear c34; try clear c37; try clear hcz47_0 hcz47_1 hcz47_2 hcz47_3 hcz47_4; try clear hfz47_0 hfz47_1 hfz47_2 hfz47_3 hfz47_4
       obtain ⟨kq, x61_38, rfl, HA, HJ38, HO_4, HO_7, HO_506002, HO_506003, HO_506004, BK477, BK505, HB⟩ := hcut
       have hl506002_38 := (Kd.R_reads' HO_506002.out).1
       rw [hl506002_38] at HO_506002
       (try simp only [hl506002_38])
       (try simp only [hl506002_38] at BK477)
       (try simp only [hl506002_38] at BK505)
       (try simp only [hl506002_38] at HO_4)
       (try simp only [hl506002_38] at HO_7)
       (try simp only [hl506002_38] at HO_506003)
       (try simp only [hl506002_38] at HO_506004)
       have hl506003_38 := (Kd.R_reads' HO_506003.out).1
       rw [hl506003_38] at HO_506003
       (try simp only [hl506003_38])
       (try simp only [hl506003_38] at BK477)
       (try simp only [hl506003_38] at BK505)
       (try simp only [hl506003_38] at HO_4)
       (try simp only [hl506003_38] at HO_7)
       (try simp only [hl506003_38] at HO_506002)
       (try simp only [hl506003_38] at HO_506004)
       have hl506004_38 := (Kd.R_reads' HO_506004.out).1
       rw [hl506004_38] at HO_506004
       (try simp only [hl506004_38])
       (try simp only [hl506004_38] at BK477)
       (try simp only [hl506004_38] at BK505)
       (try simp only [hl506004_38] at HO_4)
       (try simp only [hl506004_38] at HO_7)
       (try simp only [hl506004_38] at HO_506002)
       (try simp only [hl506004_38] at HO_506003)
       cases kq with
       | zero => exact absurd HA.out (by simp [laws_FnExactSchemesFor.j1])
       | succ kj38 =>
        have H := HA.out
        clear HA
        simp only [laws_FnExactSchemesFor.j1] at H
        by_cases c54 : x61_38 = true
        ·subst c54
         have H1 : (none) = some r := by rw [if_pos rfl] at H; exact H
         clear H
         have H := H1
         clear H1
         exact absurd H (by simp)
        ·replace c54 := Bool.eq_false_iff.mpr c54
         subst c54
         have H1 : ((laws_markStringS.f kj38 t506 1).bind fun bt528 => ((laws_heldStringS.f kj38 bt528.2 1).bind fun t530 => (if t530 < 0 then (none) else (if t530 = bt528.1 then ((laws_toForm.f kj38 a0_0 a0_1 l0_2 l0_3 l0_4).bind fun bt531 => ((impl_SchemesFor.f kj38 bt531.1 bt531.2.1 bt531.2.2.1 bt531.2.2.2.1 bt531.2.2.2.2).bind fun bt542 => ((laws_eqStringS.f kj38 bt542.1 t490).bind fun t546 => (if t546 = true then (laws_FnExactSchemesFor.j2 kj38 bt528.2 bt528.1 (bt542.2 != t493)) else (none))))) else (none))))) = some r := by rw [if_neg (show ¬ (false = true) by decide)] at H; exact H
         clear H
         have H := H1
         clear H1
         replace H := Option.bind_eq_some_iff.mp H
         obtain ⟨⟨t528, t529⟩, A550, H⟩ := H
         replace H : ((laws_heldStringS.f kj38 t529 1).bind fun t530 => (if t530 < 0 then (none) else (if t530 = t528 then ((laws_toForm.f kj38 a0_0 a0_1 l0_2 l0_3 l0_4).bind fun bt531 => ((impl_SchemesFor.f kj38 bt531.1 bt531.2.1 bt531.2.2.1 bt531.2.2.2.1 bt531.2.2.2.2).bind fun bt542 => ((laws_eqStringS.f kj38 bt542.1 t490).bind fun t546 => (if t546 = true then (laws_FnExactSchemesFor.j2 kj38 t529 t528 (bt542.2 != t493)) else (none))))) else (none)))) = some r := H
         have A55 := Aside0.mk A550
         clear A550
         replace H := Option.bind_eq_some_iff.mp H
         obtain ⟨t530, A560, H⟩ := H
         replace H : (if t530 < 0 then (none) else (if t530 = t528 then ((laws_toForm.f kj38 a0_0 a0_1 l0_2 l0_3 l0_4).bind fun bt531 => ((impl_SchemesFor.f kj38 bt531.1 bt531.2.1 bt531.2.2.1 bt531.2.2.2.1 bt531.2.2.2.2).bind fun bt542 => ((laws_eqStringS.f kj38 bt542.1 t490).bind fun t546 => (if t546 = true then (laws_FnExactSchemesFor.j2 kj38 t529 t528 (bt542.2 != t493)) else (none))))) else (none))) = some r := H
         have A56 := Aside0.mk A560
         clear A560
         by_cases c57 : t530 < 0
         ·rw [if_pos c57] at H
          exact absurd H (by simp)
         ·rw [if_neg c57] at H
          have c57b0 : decide (t530 < 0) = false := decide_eq_false c57
          clear c57
          by_cases c58 : t530 = t528
          ·rw [if_pos c58] at H
           have c58b0 : (t530 == t528) = true := beq_iff_eq.mpr c58
           have c58b1 : (t530 != t528) = false := bne_eq_false_iff_eq.mpr c58
           clear c58
           replace H := Option.bind_eq_some_iff.mp H
           obtain ⟨⟨t531, t532, t533, t536, t539⟩, A590, H⟩ := H
           replace H : ((impl_SchemesFor.f kj38 t531 t532 t533 t536 t539).bind fun bt542 => ((laws_eqStringS.f kj38 bt542.1 t490).bind fun t546 => (if t546 = true then (laws_FnExactSchemesFor.j2 kj38 t529 t528 (bt542.2 != t493)) else (none)))) = some r := H
           have A59 := Aside0.mk A590
           clear A590
           replace H := Option.bind_eq_some_iff.mp H
           obtain ⟨⟨t542, t545⟩, A600, H⟩ := H
           replace H : ((laws_eqStringS.f kj38 t542 t490).bind fun t546 => (if t546 = true then (laws_FnExactSchemesFor.j2 kj38 t529 t528 (t545 != t493)) else (none))) = some r := H
           have A60 := Aside0.mk A600
           clear A600
           have HC61 := Aside0.mk H
           clear H
           obtain ⟨Ao62, co62, eo62⟩ := Kd.R_slice HO_7.out
           subst eo62
           go_upto_region 25 with (first | ((with_reducible refine gate_callee (f := 29) rfl ?_); refine goesL_ (some 64) rfl rfl Try.func29 (by kernel_rfl) rfl #[.slice Ao62 t506.length co62, .int .i64 1] rfl z34_ ?_; (with_reducible refine (laws_markStringS.calls kj38 (fun k_ => some k_ = (.slice Ao62 t506.length co62 : Value).ownBlock) (.slice Ao62 t506.length co62) t506 1 t528 t529 w _ ?side1 ?side2 A55.out).mono ?_); (case side1 => exact z9_); (case side2 => exact Kd.R_tight rfl HO_7.out); rintro e w63 ⟨rfl, hy0, hb, hkp⟩; refine ⟨_, rfl, ?_⟩; replace HO_4 := a_ (Kd.R_mono (ok' := fun k_ => nb_ k_ Ao62 t506.length co62) (Kd.R_keptB (HO_4.out) hkp (fun k_ hk_ hs_ => (hk_) hs_)) (fun k_ hk_ => hk_.1)); replace HO_506002 := a_ (Kd.R_mono (ok' := fun k_ => nb_ k_ Ao27 t525.length co27 ∧ nb_ k_ Ao28 t526.length co28) (Kd.R_keptB ((Kd.R_apart' HO_506002.out (Kd.R_typed HO_7.out) (by decide))) hkp (fun k_ hk_ hs_ => (hk_.2) hs_)) (fun k_ hk_ => ⟨hk_.1.1.1, hk_.1.1.2⟩)); replace HO_506003 := a_ (Kd.R_mono (ok' := fun k_ => nb_ k_ Ao26 t524.length co26 ∧ nb_ k_ Ao28 t526.length co28) (Kd.R_keptB ((Kd.R_apart' HO_506003.out (Kd.R_typed HO_7.out) (by decide))) hkp (fun k_ hk_ hs_ => (hk_.2) hs_)) (fun k_ hk_ => ⟨hk_.1.1.1, hk_.1.1.2⟩)); replace HO_506004 := a_ (Kd.R_mono (ok' := fun k_ => nb_ k_ Ao26 t524.length co26 ∧ nb_ k_ Ao27 t525.length co27) (Kd.R_keptB ((Kd.R_apart' HO_506004.out (Kd.R_typed HO_7.out) (by decide))) hkp (fun k_ hk_ hs_ => (hk_.2) hs_)) (fun k_ hk_ => ⟨hk_.1.1.1, hk_.1.1.2⟩)); replace BK477 := a_ (blk_kept (rb_ BK477.out) hkp (fun hs_ => (fun e_ => (Kd.R_ne HO_7.out BK477.out (by decide)) e_) hs_)); replace BK505 := a_ (blk_kept (rb_ BK505.out) hkp (fun hs_ => (fun e_ => (Kd.R_ne HO_7.out BK505.out (by decide)) e_) hs_)); replace HO_7 := a_ (Kd.R_reok rfl hy0 (fun k_ e_ => HO_7.out.1 k_ e_)); replace HB := a_ (hb); (try clear hb); (try clear hkp); (try clear hy0)) | ((with_reducible refine gate_callee (f := 30) rfl ?_); refine goesL_ (some 67) rfl rfl Try.func30 (by kernel_rfl) rfl #[.slice Ao62 t529.length co62, .int .i64 1] rfl (by (try simp only [List.map_toArray, List.map_cons, List.map_nil]); first | done | (rw [show t529.length = t506.length from (Kd.R_reads' HO_7.out).1.symm] <;> rfl) | rfl | (simp only [List.length_drop, List.length_take]; rfl)) ?_; (with_reducible refine (laws_heldStringS.calls kj38 _ _ t529 1 t530 _ ?side1 ?side2 A56.out).mono ?_); (case side1 => exact z15_); (case side2 => rw [show t529.length = t506.length from (Kd.R_reads' HO_7.out).1.symm]; exact (Kd.R_reads' HO_7.out).2.1); rintro e w64 ⟨rfl, hb⟩; refine ⟨_, rfl, ?_⟩; replace HO_4 := a_ (Kd.R_below (ra_ HO_4.out) hb); replace HO_7 := a_ (Kd.R_below (ra_ HO_7.out) hb); replace HO_506002 := a_ (Kd.R_below (ra_ HO_506002.out) hb); replace HO_506003 := a_ (Kd.R_below (ra_ HO_506003.out) hb); replace HO_506004 := a_ (Kd.R_below (ra_ HO_506004.out) hb); replace BK477 := a_ (blk_below (g := gb477) (rb_ BK477.out) hb); replace BK505 := a_ (blk_below (g := gb505) (rb_ BK505.out) hb); replace HB := a_ (below_step z9_ hb); (try clear hb); (try clear hb2); (try clear hk); (try clear hi); have hnb65 := NB477_505.out; have hnc65 := NB505_477.out; obtain ⟨hcz66_0, hcz66_1, hcz66_2, hcz66_3, hcz66_4, hfz66_0, hfz66_1, hfz66_2, hfz66_3, hfz66_4⟩ := cz5_ (w := w64) BK477.out) | ((with_reducible refine gate_callee (f := 11) rfl ?_); refine goesL_ (some 75) rfl rfl Try.func11 (by kernel_rfl) rfl #[.agg #[.int .i64 a0_0, .int .i64 a0_1, .slice A0_2 l0_2.length c0_2, .slice A0_3 l0_3.length c0_3, .slice A0_4 l0_4.length c0_4]] rfl z34_ ?_; (with_reducible refine (laws_toForm.calls kj38 a0_0 a0_1 _ _ l0_2 _ _ l0_3 _ _ l0_4 t531 t532 t533 t536 t539 _ ?side1 ?side2 ?side3 ?side4 ?side5 ?side6 A59.out).mono ?_); (case side1 => exact kc_ (Kd.C_below HR0_2.out HB.out)); (case side2 => exact HC0_2.out); (case side3 => exact kc_ (Kd.C_below HR0_3.out HB.out)); (case side4 => exact HC0_3.out); (case side5 => exact kc_ (Kd.C_below HR0_4.out HB.out)); (case side6 => exact HC0_4.out); rintro e w67 ⟨v534, v537, v540, rfl, ho0, ho1, ho2, hb⟩; refine ⟨_, rfl, ?_⟩; replace HO_4 := a_ (Kd.R_below (ra_ HO_4.out) hb); replace HO_7 := a_ (Kd.R_below (ra_ HO_7.out) hb); have HO535 := a_ (Kd.R_lower (Kd.R_new' (Kd.R_new' (Kd.R_new' ho0 (Kd.R_lt (ra_ HO_506002.out))) (Kd.R_lt (ra_ HO_506003.out))) (Kd.R_lt (ra_ HO_506004.out))) (below_size z9_)); have HO538 := a_ (Kd.R_lower (Kd.R_new' (Kd.R_new' (Kd.R_new' ho1 (Kd.R_lt (ra_ HO_506002.out))) (Kd.R_lt (ra_ HO_506003.out))) (Kd.R_lt (ra_ HO_506004.out))) (below_size z9_)); have HO541 := a_ (Kd.R_lower (Kd.R_new' (Kd.R_new' (Kd.R_new' ho2 (Kd.R_lt (ra_ HO_506002.out))) (Kd.R_lt (ra_ HO_506003.out))) (Kd.R_lt (ra_ HO_506004.out))) (below_size z9_)); replace HO_506002 := a_ (Kd.R_mono (Kd.R_told (Kd.R_told (Kd.R_told (Kd.R_old (ra_ HO_506002.out) hb) (Kd.R_base ho0)) (Kd.R_base ho1)) (Kd.R_base ho2)) (fun _ h_ => h_.1)); replace HO_506003 := a_ (Kd.R_mono (Kd.R_told (Kd.R_told (Kd.R_told (Kd.R_old (ra_ HO_506003.out) hb) (Kd.R_base ho0)) (Kd.R_base ho1)) (Kd.R_base ho2)) (fun _ h_ => h_.1)); replace HO_506004 := a_ (Kd.R_mono (Kd.R_told (Kd.R_told (Kd.R_told (Kd.R_old (ra_ HO_506004.out) hb) (Kd.R_base ho0)) (Kd.R_base ho1)) (Kd.R_base ho2)) (fun _ h_ => h_.1)); replace BK477 := a_ (blk_below (g := gb477) (rb_ BK477.out) hb); replace BK505 := a_ (blk_below (g := gb505) (rb_ BK505.out) hb); replace HB := a_ (below_step z9_ hb); (try clear hb); (try clear hb2); (try clear hk); (try clear hi); (try clear ho0); (try clear ho1); (try clear ho2); obtain ⟨Ao68, co68, eo68⟩ := Kd.R_slice HO535.out; subst eo68; obtain ⟨Ao69, co69, eo69⟩ := Kd.R_slice HO538.out; subst eo69; obtain ⟨Ao70, co70, eo70⟩ := Kd.R_slice HO541.out; subst eo70) | ((with_reducible refine gate_callee (f := 27) rfl ?_); refine goesL_ (some 76) rfl rfl Try.func27 (by kernel_rfl) rfl #[.agg #[.int .i64 t531, .int .i64 t532, .slice Ao68 t533.length co68, .slice Ao69 t536.length co69, .slice Ao70 t539.length co70]] rfl z34_ ?_; (with_reducible refine (impl_SchemesFor.calls kj38 t531 t532 _ _ t533 _ _ t536 _ _ t539 t542 t545 _ ?side1 ?side2 ?side3 ?side4 ?side5 ?side6 A60.out).mono ?_); (case side1 => exact (by (repeat (first | exact (Kd.R_reads' HO535.out).2.2 | (with_reducible refine Kd.C_alloc ?_ _) | (with_reducible refine Kd.C_drewN ?_ _) | (with_reducible refine Kd.C_drew ?_))); first | done | fail)); (case side2 => exact (Kd.R_reads' HO535.out).2.1); (case side3 => exact (by (repeat (first | exact (Kd.R_reads' HO538.out).2.2 | (with_reducible refine Kd.C_alloc ?_ _) | (with_reducible refine Kd.C_drewN ?_ _) | (with_reducible refine Kd.C_drew ?_))); first | done | fail)); (case side4 => exact (Kd.R_reads' HO538.out).2.1); (case side5 => exact (by (repeat (first | exact (Kd.R_reads' HO541.out).2.2 | (with_reducible refine Kd.C_alloc ?_ _) | (with_reducible refine Kd.C_drewN ?_ _) | (with_reducible refine Kd.C_drew ?_))); first | done | fail)); (case side6 => exact (Kd.R_reads' HO541.out).2.1); rintro e w71 ⟨v543, rfl, ho0, hb⟩; refine ⟨_, rfl, ?_⟩; replace HO_506002 := a_ (Kd.R_below (ra_ HO_506002.out) hb); replace HO_506003 := a_ (Kd.R_below (ra_ HO_506003.out) hb); replace HO_506004 := a_ (Kd.R_below (ra_ HO_506004.out) hb); replace HO535 := a_ (Kd.R_below (ra_ HO535.out) hb); replace HO538 := a_ (Kd.R_below (ra_ HO538.out) hb); replace HO541 := a_ (Kd.R_below (ra_ HO541.out) hb); have HO544 := a_ (Kd.R_lower (Kd.R_new' (Kd.R_new' ho0 (Kd.R_lt (ra_ HO_4.out))) (Kd.R_lt (ra_ HO_7.out))) (below_size z9_)); replace HO_4 := a_ (Kd.R_elder' (ra_ HO_4.out) (Kd.R_base ho0) hb); replace HO_7 := a_ (Kd.R_elder' (ra_ HO_7.out) (Kd.R_base ho0) hb); replace BK477 := a_ (blk_below (g := gb477) (rb_ BK477.out) hb); replace BK505 := a_ (blk_below (g := gb505) (rb_ BK505.out) hb); replace HB := a_ (below_step z9_ hb); (try clear hb); (try clear hb2); (try clear hk); (try clear hi); (try clear ho0)))
           (try simp only [Act.put, List.setIfInBounds_toArray, List.set_cons_zero, List.set_cons_succ])
           go_cut [87] (fun v87 wc => ∃ (kq : Nat) (x87_60 : Bool), v87 = .bool x87_60 ∧ Aside0 (laws_FnExactSchemesFor.j2 kq t529 t528 x87_60 = some r) ∧ Aside0 (kq ≤ kj38) ∧ Aside0 (Kd.R Kd.string 9 wc w.heap.size (fun _ => True) (.slice Ao62 t506.length co62) t529) ∧ Aside0 (Kd.R (Kd.int .i64) 2 wc w.heap.size (fun k_ => nb_ k_ Ao27 t525.length co27 ∧ nb_ k_ Ao28 t526.length co28) (.slice Ao26 t524.length co26) t524) ∧ Aside0 (Kd.R (Kd.int .i64) 2 wc w.heap.size (fun k_ => nb_ k_ Ao26 t524.length co26 ∧ nb_ k_ Ao28 t526.length co28) (.slice Ao27 t525.length co27) t525) ∧ Aside0 (Kd.R (Kd.int .i64) 2 wc w.heap.size (fun k_ => nb_ k_ Ao26 t524.length co26 ∧ nb_ k_ Ao27 t525.length co27) (.slice Ao28 t526.length co28) t526) ∧ Aside0 (wc.heap[gb477]? = some (.cells #[.int .i64 a0_0, .int .i64 a0_1, (.slice A0_2 l0_2.length c0_2), (.slice A0_3 l0_3.length c0_3), (.slice A0_4 l0_4.length c0_4)] 24 (0, 0))) ∧ Aside0 (wc.heap[gb505]? = some (.cells #[.int .i64 t494, .int .i64 t495, (.slice Ao26 t524.length co26), (.slice Ao27 t525.length co27), (.slice Ao28 t526.length co28)] 27 (0, 0))) ∧ Aside0 (Below w.heap.size w wc))
           case first =>
            have H := HC61.out
            clear HC61
            replace H := Option.bind_eq_some_iff.mp H
            obtain ⟨t546, A720, H⟩ := H
            replace H : (if t546 = true then (laws_FnExactSchemesFor.j2 kj38 t529 t528 (t545 != t493)) else (none)) = some r := H
            have A72 := Aside0.mk A720
            clear A720
            by_cases c73 : t546 = true
            ·subst c73
             have H1 : (laws_FnExactSchemesFor.j2 kj38 t529 t528 (t545 != t493)) = some r := by rw [if_pos rfl] at H; exact H
             clear H
             have H := H1
             clear H1
             have H' := Aside0.mk H
             clear H
             obtain ⟨Ao74, co74, eo74⟩ := Kd.R_slice HO544.out
             subst eo74
             obtain ⟨Ao75, co75, eo75⟩ := Kd.R_slice HO_4.out
             subst eo75
             go_wp2_with (first | ((with_reducible refine gate_callee (f := 28) rfl ?_); refine goesL_ (some 81) rfl rfl Try.func28 (by kernel_rfl) rfl #[.slice Ao74 t542.length co74, .slice Ao75 t490.length co75] rfl z34_ ?_; (with_reducible refine (laws_eqStringS.calls kj38 _ _ t542 _ _ t490 true _ ?side1 ?side2 ?side3 ?side4 A72.out).mono ?_); (case side1 => exact (by (repeat (first | exact (Kd.R_reads' HO544.out).2.2 | (with_reducible refine Kd.C_alloc ?_ _) | (with_reducible refine Kd.C_drewN ?_ _) | (with_reducible refine Kd.C_drew ?_))); first | done | fail)); (case side2 => exact (Kd.R_reads' HO544.out).2.1); (case side3 => exact (by (repeat (first | exact (Kd.R_reads' HO_4.out).2.2 | (with_reducible refine Kd.C_alloc ?_ _) | (with_reducible refine Kd.C_drewN ?_ _) | (with_reducible refine Kd.C_drew ?_))); first | done | fail)); (case side4 => exact (Kd.R_reads' HO_4.out).2.1); rintro e w' ⟨rfl, ⟨nd, rfl⟩⟩; refine ⟨_, rfl, ?_⟩))
             go_meet
             case rel => exact ⟨_, ((t545 != t493)), z81_, H', ⟨by have := HJ10.out; have := HJ38.out; first | omega | exact Nat.le_refl _⟩, ⟨by (try simp only [hl506002_38]); (try simp only [hl506003_38]); (try simp only [hl506004_38]); (with_reducible repeat (first | apply Kd.R_alloc | apply Kd.R_drewN | apply Kd.R_drew)); exact Kd.R_mono HO_7.out (fun _ hk => trivial)⟩, ⟨by (try simp only [hl506002_38]); (try simp only [hl506003_38]); (try simp only [hl506004_38]); (with_reducible repeat (first | apply Kd.R_alloc | apply Kd.R_drewN | apply Kd.R_drew)); exact Kd.R_mono HO_506002.out (fun _ hk => ⟨hk.1.1.1.1, hk.1.1.1.2⟩)⟩, ⟨by (try simp only [hl506002_38]); (try simp only [hl506003_38]); (try simp only [hl506004_38]); (with_reducible repeat (first | apply Kd.R_alloc | apply Kd.R_drewN | apply Kd.R_drew)); exact Kd.R_mono HO_506003.out (fun _ hk => ⟨hk.1.1.1.1, hk.1.1.1.2⟩)⟩, ⟨by (try simp only [hl506002_38]); (try simp only [hl506003_38]); (try simp only [hl506004_38]); (with_reducible repeat (first | apply Kd.R_alloc | apply Kd.R_drewN | apply Kd.R_drew)); exact Kd.R_mono HO_506004.out (fun _ hk => ⟨hk.1.1.1.1, hk.1.1.1.2⟩)⟩, ⟨by (try simp only [hl506002_38]); (try simp only [hl506003_38]); (try simp only [hl506004_38]); (with_reducible repeat (first | refine blk_drewN ?_ _ | refine blk_drew ?_ | refine blk_alloc ?_ _)); exact BK477.out⟩, ⟨by (try simp only [hl506002_38]); (try simp only [hl506003_38]); (try simp only [hl506004_38]); (with_reducible repeat (first | refine blk_drewN ?_ _ | refine blk_drew ?_ | refine blk_alloc ?_ _)); exact BK505.out⟩, ⟨z9_⟩⟩
            ·replace c73 := Bool.eq_false_iff.mpr c73
             subst c73
             have H1 : (none) = some r := by rw [if_neg (show ¬ (false = true) by decide)] at H; exact H
             clear H
             have H := H1
             clear H1
             exact absurd H (by simp)
           case rest =>
            clear HC61; try clear c54; try clear c57b0; try clear c58b0; try clear c58b1; try clear hcz66_0 hcz66_1 hcz66_2 hcz66_3 hcz66_4; try clear hfz66_0 hfz66_1 hfz66_2 hfz66_3 hfz66_4
            obtain ⟨kq, x87_60, rfl, HA, HJ60, HO_7, HO_506002, HO_506003, HO_506004, BK477, BK505, HB⟩ := hcut
            have hl7_60 := (Kd.R_reads' HO_7.out).1
            rw [hl7_60] at HO_7
            (try simp only [hl7_60])
            (try simp only [hl7_60] at BK477)
            (try simp only [hl7_60] at BK505)
            (try simp only [hl7_60] at HO_506002)
            (try simp only [hl7_60] at HO_506003)
            (try simp only [hl7_60] at HO_506004)
            cases kq with
            | zero => exact absurd HA.out (by simp [laws_FnExactSchemesFor.j2])
            | succ kj60 =>
             have H := HA.out
             clear HA
             simp only [laws_FnExactSchemesFor.j2] at H
             by_cases c76 : x87_60 = true
             ·subst c76
              have H1 : (none) = some r := by rw [if_pos rfl] at H; exact H
              clear H
              have H := H1
              clear H1
              exact absurd H (by simp)
             ·replace c76 := Bool.eq_false_iff.mpr c76
              subst c76
              have H1 : ((laws_heldStringS.f kj60 t529 1).bind fun t547 => (if t547 < 0 then (none) else (if t547 = t528 then (some true) else (none)))) = some r := by rw [if_neg (show ¬ (false = true) by decide)] at H; exact H
              clear H
              have H := H1
              clear H1
              replace H := Option.bind_eq_some_iff.mp H
              obtain ⟨t547, A770, H⟩ := H
              replace H : (if t547 < 0 then (none) else (if t547 = t528 then (some true) else (none))) = some r := H
              have A77 := Aside0.mk A770
              clear A770
              by_cases c78 : t547 < 0
              ·rw [if_pos c78] at H
               exact absurd H (by simp)
              ·rw [if_neg c78] at H
               have c78b0 : decide (t547 < 0) = false := decide_eq_false c78
               clear c78
               by_cases c79 : t547 = t528
               ·rw [if_pos c79] at H
                have c79b0 : (t547 == t528) = true := beq_iff_eq.mpr c79
                have c79b1 : (t547 != t528) = false := bne_eq_false_iff_eq.mpr c79
                clear c79
                obtain rfl := Option.some.inj H
                go_wp2_with (first | ((with_reducible refine gate_callee (f := 30) rfl ?_); refine goesL_ (some 90) rfl rfl Try.func30 (by kernel_rfl) rfl #[.slice Ao62 t529.length co62, .int .i64 1] rfl z34_ ?_; (with_reducible refine (laws_heldStringS.calls kj60 _ _ t529 1 t547 _ ?side1 ?side2 A77.out).mono ?_); (case side1 => exact z15_); (case side2 => exact (Kd.R_reads' HO_7.out).2.1); rintro e w80 ⟨rfl, hb⟩; refine ⟨_, rfl, ?_⟩; replace HO_7 := a_ (Kd.R_below (ra_ HO_7.out) hb); replace HO_506002 := a_ (Kd.R_below (ra_ HO_506002.out) hb); replace HO_506003 := a_ (Kd.R_below (ra_ HO_506003.out) hb); replace HO_506004 := a_ (Kd.R_below (ra_ HO_506004.out) hb); replace BK477 := a_ (blk_below (g := gb477) (rb_ BK477.out) hb); replace BK505 := a_ (blk_below (g := gb505) (rb_ BK505.out) hb); replace HB := a_ (below_step z9_ hb); (try clear hb); (try clear hb2); (try clear hk); (try clear hi)))
                go_ret
                exact ⟨z32_, z9_⟩
               ·rw [if_neg c79] at H
                exact absurd H (by simp)
          ·rw [if_neg c58] at H
           exact absurd H (by simp)
     ·replace c37 := Bool.eq_false_iff.mpr c37
      subst c37
      have H1 : (none) = some r := by rw [if_neg (show ¬ (false = true) by decide)] at H; exact H
      clear H
      have H := H1
      clear H1
      exact absurd H (by simp)

/-- The pure statement of laws_FnExactSchemesFor. -/
def laws_FnExactSchemesFor.Pure : Prop := ∀ (a0_0 : Int) (a0_1 : Int) (l0_2 : List Int) (l0_3 : List Int) (l0_4 : List Int), (Lit.int .i64 a0_0).wf = true → (Lit.int .i64 a0_1).wf = true → l0_2.length ≤ maxLen → (∀ x ∈ l0_2, (Lit.int .i64 x).wf = true) → l0_3.length ≤ maxLen → (∀ x ∈ l0_3, (Lit.int .i64 x).wf = true) → l0_4.length ≤ maxLen → (∀ x ∈ l0_4, (Lit.int .i64 x).wf = true) → ∃ k, laws_FnExactSchemesFor.f k a0_0 a0_1 l0_2 l0_3 l0_4 = some true
theorem laws_FnExactSchemesFor.walk (P : laws_FnExactSchemesFor.Pure) (a0_0 : Int) (a0_1 : Int) (A0_2 : Option Addr) (len0_2 cap0_2 : Nat) (z0_2 : List Int) (A0_3 : Option Addr) (len0_3 cap0_3 : Nat) (z0_3 : List Int) (A0_4 : Option Addr) (len0_4 cap0_4 : Nat) (z0_4 : List Int) (w : World) (w0_0 : (Lit.int .i64 a0_0).wf = true) (w0_1 : (Lit.int .i64 a0_1).wf = true) (w0_2 : (A0_2 = none ∧ len0_2 = 0 ∧ cap0_2 = 0 ∧ z0_2 = []) ∨ ∃ x, A0_2 = some x ∧ len0_2 ≤ cap0_2 ∧ cap0_2 ≤ maxLen ∧ z0_2.length = cap0_2 ∧ (∀ i, i < z0_2.length → w.cell? (x.add i) = some (.int .i64 (z0_2.getD i 0))) ∧ ∀ n ∈ z0_2, (Lit.int .i64 n).wf = true) (w0_3 : (A0_3 = none ∧ len0_3 = 0 ∧ cap0_3 = 0 ∧ z0_3 = []) ∨ ∃ x, A0_3 = some x ∧ len0_3 ≤ cap0_3 ∧ cap0_3 ≤ maxLen ∧ z0_3.length = cap0_3 ∧ (∀ i, i < z0_3.length → w.cell? (x.add i) = some (.int .i64 (z0_3.getD i 0))) ∧ ∀ n ∈ z0_3, (Lit.int .i64 n).wf = true) (w0_4 : (A0_4 = none ∧ len0_4 = 0 ∧ cap0_4 = 0 ∧ z0_4 = []) ∨ ∃ x, A0_4 = some x ∧ len0_4 ≤ cap0_4 ∧ cap0_4 ≤ maxLen ∧ z0_4.length = cap0_4 ∧ (∀ i, i < z0_4.length → w.cell? (x.add i) = some (.int .i64 (z0_4.getD i 0))) ∧ ∀ n ∈ z0_4, (Lit.int .i64 n).wf = true) :
  Calls Try.prog 8 #[.agg #[.int .i64 a0_0, .int .i64 a0_1, .slice A0_2 len0_2 cap0_2, .slice A0_3 len0_3 cap0_3, .slice A0_4 len0_4 cap0_4]] w fun e w' => e = .returned (.bool true) ∧ Below w.heap.size w w' := by
 obtain ⟨l0_2, rfl, hr0_2, hm0_2, hw0_2, hc0_2⟩ := ReadsInt.ofRowC w0_2
 obtain ⟨l0_3, rfl, hr0_3, hm0_3, hw0_3, hc0_3⟩ := ReadsInt.ofRowC w0_3
 obtain ⟨l0_4, rfl, hr0_4, hm0_4, hw0_4, hc0_4⟩ := ReadsInt.ofRowC w0_4
 obtain ⟨k, h⟩ := P a0_0 a0_1 l0_2 l0_3 l0_4 w0_0 w0_1 hm0_2 hw0_2 hm0_3 hw0_3 hm0_4 hw0_4
 refine (laws_FnExactSchemesFor.calls k a0_0 a0_1 _ _ l0_2 _ _ l0_3 _ _ l0_4 true w (Kd.C_of_reads (d := (0 : Int)) (h1 := fun _ => rfl) hr0_2) hc0_2 (Kd.C_of_reads (d := (0 : Int)) (h1 := fun _ => rfl) hr0_3) hc0_3 (Kd.C_of_reads (d := (0 : Int)) (h1 := fun _ => rfl) hr0_4) hc0_4 h).mono ?_
 rintro e w' ⟨rfl, hd⟩
 exact ⟨rfl, hd⟩

end Go.Proofs.Ytkpidjmhdagkfaa.QFnExactSchemesFor
-- halved
