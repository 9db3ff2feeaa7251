-- Written by own_print.py of this session's repo over the kit's print (its output, turned at some places).
import Derived.Test.YtkpidjmhdagkfaaQFnPagePlacesx0
import Derived.Test.YtkpidjmhdagkfaaQFnPagePlacesx8
import Derived.Test.YtkpidjmhdagkfaaQFnPagePlacesx15
namespace Go.Proofs.Ytkpidjmhdagkfaa.QFnPagePlaces
open Go.RowKit Go.Proofs.YtkpidjmhdagkfaaW.PrintWords Go.Proofs.YtkpidjmhdagkfaaW.PrintLast Go.Proofs.YtkpidjmhdagkfaaW.PrintMore
attribute [local go_sem] max2_int min2_int max_two min_two max_three min_three max_four min_four   -- for this text's walks alone
set_option linter.unusedVariables false
set_option linter.unusedSimpArgs false

/-! ### spec_DrawPlaceOfPage: function 23 -/
def spec_DrawPlaceOfPage.f (k : Nat) (l0 : List Int) : Option (Int × Int × List Int × List Int × List Int × Int) := (spec_l01From.f k l0).bind fun bt479 => ((spec_l05Draw.f k bt479.1 bt479.2.1 bt479.2.2).bind fun bt483 => (if 0 < (bt483.2.2.1.length : Int) then ((spec_l01Next.f bt479.1 bt483.2.2.2.2.2.2.1 bt483.2.2.2.2.2.2.2 40).bind fun bt499 => (some (bt483.1, bt483.2.1, bt483.2.2.1, bt483.2.2.2.1, bt483.2.2.2.2.1, wrap64 ((wrap64 ((rd bt483.2.2.1 0) + bt499.1)) - 20)))) else (none)))
theorem spec_DrawPlaceOfPage.mono : ∀ a0 k, LeO (spec_DrawPlaceOfPage.f k a0) (spec_DrawPlaceOfPage.f (k + 1) a0) := by
 intro a0 k
 unfold spec_DrawPlaceOfPage.f
 repeat' first
   | (with_reducible exact spec_l01From.mono _ _)
   | (with_reducible exact spec_l05Draw.mono _ _ _ _)
   | (with_reducible exact LeO.refl _)
   | (with_reducible exact LeO.none _)
   | (with_reducible refine LeO.ite ?_ ?_)
   | (with_reducible refine LeO.bind ?_ (fun _ => ?_))
   | exact spec_l01From.mono _ _
   | exact spec_l05Draw.mono _ _ _ _
   | exact LeO.none _
   | refine LeO.ite ?_ ?_
   | refine LeO.bind ?_ (fun _ => ?_)
def spec_DrawPlaceOfPage.T3 : Bool × List (List Nat × List Nat) := (true, [([], []), ([], []), ([1], [1]), ([2], [2]), ([3], [3]), ([], []), ([5], [5]), ([4, 6], [4, 6]), ([7], [7]), ([0, 6, 0], [0]), ([8, 9, 0, 1, 2, 3, 4, 5, 6, 7, 8, 9], [8])])
def spec_DrawPlaceOfPage.B3 : List Nat := [0, 0, 2, 6, 14, 0, 32, 126, 254, 97, 1023]
theorem spec_DrawPlaceOfPage.tab3 : rtab .any (opsOf Try.f23 3) = spec_DrawPlaceOfPage.T3 := by kernel_rfl
theorem spec_DrawPlaceOfPage.bits3 : waitsOk spec_DrawPlaceOfPage.T3.2 spec_DrawPlaceOfPage.B3 = true := by kernel_rfl
set_option maxHeartbeats 8000000 in
set_option maxRecDepth 100000 in
theorem spec_DrawPlaceOfPage.calls (k : Nat) (A0 : Option Addr) (c0 : Nat) (l0 : List Int) (r1 : Int) (r2 : Int) (r3 : List Int) (r4 : List Int) (r5 : List Int) (r6 : Int) (w : World) (hr0 : Kd.C (Kd.int .u8) w A0 l0.length l0) (hc0 : l0.length ≤ c0) (h : spec_DrawPlaceOfPage.f k l0 = some (r1, r2, r3, r4, r5, r6)) :
  Calls Try.prog 23 #[.slice A0 l0.length c0] w fun e w' => ∃ v2_ v3_ v4_ : Value, e = .returned (.tuple #[.agg #[.int .i64 r1, .int .i64 r2, v2_, v3_, v4_], .int .i64 r6]) ∧ Kd.R (Kd.int .i64) 2 w' w.heap.size (fun k_ => some k_ ≠ (v3_ : Value).ownBlock ∧ some k_ ≠ (v4_ : Value).ownBlock) v2_ r3 ∧ Kd.R (Kd.int .i64) 2 w' w.heap.size (fun k_ => some k_ ≠ (v2_ : Value).ownBlock ∧ some k_ ≠ (v4_ : Value).ownBlock) v3_ r4 ∧ Kd.R (Kd.int .i64) 2 w' w.heap.size (fun k_ => some k_ ≠ (v2_ : Value).ownBlock ∧ some k_ ≠ (v3_ : Value).ownBlock) v4_ r5 ∧ Below w.heap.size w w' := by
 have hu27 := Try.underlying27
 have HR0 := Aside0.mk hr0
 have HC0 := Aside0.mk hc0
 clear hr0 hc0
 have HB := a_ (Below.refl w.heap.size w)
 have H : ((spec_l01From.f k l0).bind fun bt479 => ((spec_l05Draw.f k bt479.1 bt479.2.1 bt479.2.2).bind fun bt483 => (if 0 < (bt483.2.2.1.length : Int) then ((spec_l01Next.f bt479.1 bt483.2.2.2.2.2.2.1 bt483.2.2.2.2.2.2.2 40).bind fun bt499 => (some (bt483.1, bt483.2.1, bt483.2.2.1, bt483.2.2.2.1, bt483.2.2.2.2.1, wrap64 ((wrap64 ((rd bt483.2.2.1 0) + bt499.1)) - 20)))) else (none)))) = some (r1, r2, r3, r4, r5, r6) := h
 clear h
 replace H := Option.bind_eq_some_iff.mp H
 obtain ⟨⟨t479, t480, t481⟩, A20, H⟩ := H
 replace H : ((spec_l05Draw.f k t479 t480 t481).bind fun bt483 => (if 0 < (bt483.2.2.1.length : Int) then ((spec_l01Next.f t479 bt483.2.2.2.2.2.2.1 bt483.2.2.2.2.2.2.2 40).bind fun bt499 => (some (bt483.1, bt483.2.1, bt483.2.2.1, bt483.2.2.2.1, bt483.2.2.2.2.1, wrap64 ((wrap64 ((rd bt483.2.2.1 0) + bt499.1)) - 20)))) else (none))) = some (r1, r2, r3, r4, r5, r6) := H
 have A2 := Aside0.mk A20
 clear A20
 replace H := Option.bind_eq_some_iff.mp H
 obtain ⟨⟨t483, t484, t485, t488, t491, t494, t495, t496⟩, A30, H⟩ := H
 replace H : (if 0 < (t485.length : Int) then ((spec_l01Next.f t479 t495 t496 40).bind fun bt499 => (some (t483, t484, t485, t488, t491, wrap64 ((wrap64 ((rd t485 0) + bt499.1)) - 20)))) else (none)) = some (r1, r2, r3, r4, r5, r6) := H
 have A3 := Aside0.mk A30
 clear A30
 by_cases c4 : 0 < (t485.length : Int)
 ·rw [if_pos c4] at H
  have c4b0 : decide (0 < (t485.length : Int)) = true := decide_eq_true c4
  have c4b1 : decide (0 < t485.length) = true := decide_eq_true (by omega)
  clear c4
  replace H := Option.bind_eq_some_iff.mp H
  obtain ⟨⟨t499, t500, t501⟩, A50, H⟩ := H
  replace H : (some (t483, t484, t485, t488, t491, wrap64 ((wrap64 ((rd t485 0) + t499)) - 20))) = some (r1, r2, r3, r4, r5, r6) := H
  have A5 := Aside0.mk A50
  clear A50
  simp only [Option.some.injEq, Prod.mk.injEq] at H
  obtain ⟨rfl, rfl, rfl, rfl, rfl, rfl⟩ := H
  go_enter Try.func23, Try.ntmps23
  try go_wp2_with (first | ((with_reducible refine gate_dst (N := 2) rfl ?_); refine box_event ?hg (N := 2) ?hd (cs := #[.int .i64 0, .int .i64 0, .slice none 0 0, .slice none 0 0, .slice none 0 0]) (t := 27) ?hr ?_; (case hd => rfl); (case hg => rfl); (case hr => first | (go_simp; done) | (go_simp; rfl)); intro gb478 hg w6 hbox hb; have BK478 := a_ (hbox); have GW478 := a_ ((z53_ : w.heap.size ≤ gb478)); have GE478 := a_ ((z53_ : w.heap.size ≤ gb478)); replace HB := a_ (below_step z54_ hb); clear hb hbox hg) | ((with_reducible refine gate_callee (f := 54) rfl ?_); refine goesL_ (some 8) rfl rfl Try.func54 (by kernel_rfl) rfl #[.slice A0 l0.length c0] rfl z57_ ?_; (with_reducible refine (spec_l01From.calls k _ _ l0 t479 t480 t481 w _ ?side1 ?side2 ?side3 A2.out).mono ?_); (case side1 => exact (by (repeat (first | (with_reducible first | exact HB.out | apply below_alloc | apply pw_below_drewN | apply below_drew1 | refine below_set ?_ GE478.out) | exact HB.out)); first | done | fail)); (case side2 => exact HR0.out); (case side3 => exact HC0.out); rintro e w7 ⟨g482, rfl, hi, hb, hb2⟩; refine ⟨_, rfl, ?_⟩; replace HB := a_ (hb); have HI482 := a_ (hi); have NB482_478 := a_ (IsS84.ne_blk hi (blk_below (g := gb478) (rb_ BK478.out) hb2) (by decide)); have NB478_482 := a_ (Ne.symm (IsS84.ne_blk hi (blk_below (g := gb478) (rb_ BK478.out) hb2) (by decide))); replace BK478 := a_ (blk_below (g := gb478) (rb_ BK478.out) hb2); (try clear hb); (try clear hb2); (try clear hk); (try clear hi)) | ((with_reducible refine gate_callee (f := 55) rfl ?_); refine goesL_ (some 11) rfl rfl Try.func55 (by kernel_rfl) rfl #[.pointer (some ⟨g482, 0, none⟩)] rfl z57_ ?_; (with_reducible refine (spec_l05Draw.calls k g482 t479 t480 t481 t483 t484 t485 t488 t491 t494 t495 t496 w _ ?side1 ?side2 A3.out).mono ?_); (case side1 => exact z14_); (case side2 => exact z16_); rintro e w8 ⟨v486, v489, v492, rfl, ho0, ho1, ho2, hi, hb, hk⟩; refine ⟨_, rfl, ?_⟩; replace BK478 := a_ (KeepBut.blk hk (g' := gb478) (rb_ BK478.out) NB478_482.out (by simp)); have HO487 := a_ (Kd.R_lower ho0 (below_size z16_)); have HO490 := a_ (Kd.R_lower ho1 (below_size z16_)); have HO493 := a_ (Kd.R_lower ho2 (below_size z16_)); replace HB := a_ (hb); replace HI482 := a_ (hi); (try clear hb); (try clear hb2); (try clear hk); (try clear hi); (try clear ho0); (try clear ho1); (try clear ho2)) | ((with_reducible refine gate_dst (N := 5) rfl ?_); refine box_event ?hg (N := 5) ?hd (cs := #[.int .i64 0, .int .i64 0, .slice none 0 0, .slice none 0 0, .slice none 0 0]) (t := 27) ?hr ?_; (case hd => rfl); (case hg => rfl); (case hr => first | (go_simp; done) | (go_simp; rfl)); intro gb497 hg w9 hbox hb; replace HO487 := a_ (Kd.R_below (ra_ HO487.out) hb); replace HO490 := a_ (Kd.R_below (ra_ HO490.out) hb); replace HO493 := a_ (Kd.R_below (ra_ HO493.out) hb); have BK497 := a_ (hbox); have GW497 := a_ ((by rw [hg]; exact (below_size z16_) : w.heap.size ≤ gb497)); have GE497 := a_ ((by rw [hg]; exact (below_size z16_) : w.heap.size ≤ gb497)); replace HB := a_ (below_step z16_ hb); have NB478_497 := a_ ((by rw [hg]; exact Nat.ne_of_lt (blk_lt (g := gb478) (rb_ BK478.out)) : gb478 ≠ gb497)); have NB497_478 := a_ ((by rw [hg]; exact Nat.ne_of_gt (blk_lt (g := gb478) (rb_ BK478.out)) : gb497 ≠ gb478)); replace BK478 := a_ (blk_below (g := gb478) (rb_ BK478.out) hb); have NB482_497 := a_ ((by rw [hg]; exact Nat.ne_of_lt (IsS84.lt (show IsS84 w _ g482 t479 t495 t496 from z14_)) : g482 ≠ gb497)); have NB497_482 := a_ ((by rw [hg]; exact Nat.ne_of_gt (IsS84.lt (show IsS84 w _ g482 t479 t495 t496 from z14_)) : gb497 ≠ g482)); replace HI482 := a_ (IsS84.below z14_ hb); clear hb hbox hg; have hnb10 := NB497_478.out; have hnc10 := NB478_497.out; have hnb11 := NB497_482.out; have hnc11 := NB482_497.out; obtain ⟨hcz12_0, hcz12_1, hcz12_2, hcz12_3, hcz12_4, hfz12_0, hfz12_1, hfz12_2, hfz12_3, hfz12_4⟩ := cz5_ (w := w9) BK497.out; obtain ⟨Ao13, co13, eo13⟩ := Kd.R_slice HO487.out; subst eo13; obtain ⟨Ao14, co14, eo14⟩ := Kd.R_slice HO490.out; subst eo14; obtain ⟨Ao15, co15, eo15⟩ := Kd.R_slice HO493.out; subst eo15))
  have n0_ : Aside0 (Kd.R (Kd.int .i64) 2 (((((w9.setCell ⟨gb497, 0, none⟩ (.int .i64 t483)).setCell ⟨gb497, 1, none⟩ (.int .i64 t484)).setCell ⟨gb497, 2, none⟩ (.slice Ao13 t485.length co13)).setCell ⟨gb497, 3, none⟩ (.slice Ao14 t488.length co14)).setCell ⟨gb497, 4, none⟩ (.slice Ao15 t491.length co15)) w.heap.size (fun k_ => nb_ k_ Ao14 t488.length co14 ∧ nb_ k_ Ao15 t491.length co15) (.slice Ao13 t485.length co13) t485) := ⟨by (with_reducible repeat (first | apply Kd.R_alloc | apply Kd.R_drewN | apply Kd.R_drew)); exact Kd.R_mono (rt5_ HO487.out BK497.out) (fun _ hk => ⟨hk.1.1, hk.1.2⟩)⟩
  have n1_ : Aside0 (Kd.R (Kd.int .i64) 2 (((((w9.setCell ⟨gb497, 0, none⟩ (.int .i64 t483)).setCell ⟨gb497, 1, none⟩ (.int .i64 t484)).setCell ⟨gb497, 2, none⟩ (.slice Ao13 t485.length co13)).setCell ⟨gb497, 3, none⟩ (.slice Ao14 t488.length co14)).setCell ⟨gb497, 4, none⟩ (.slice Ao15 t491.length co15)) w.heap.size (fun k_ => nb_ k_ Ao13 t485.length co13 ∧ nb_ k_ Ao15 t491.length co15) (.slice Ao14 t488.length co14) t488) := ⟨by (with_reducible repeat (first | apply Kd.R_alloc | apply Kd.R_drewN | apply Kd.R_drew)); exact Kd.R_mono (rt5_ HO490.out BK497.out) (fun _ hk => ⟨hk.1.1, hk.1.2⟩)⟩
  have n2_ : Aside0 (Kd.R (Kd.int .i64) 2 (((((w9.setCell ⟨gb497, 0, none⟩ (.int .i64 t483)).setCell ⟨gb497, 1, none⟩ (.int .i64 t484)).setCell ⟨gb497, 2, none⟩ (.slice Ao13 t485.length co13)).setCell ⟨gb497, 3, none⟩ (.slice Ao14 t488.length co14)).setCell ⟨gb497, 4, none⟩ (.slice Ao15 t491.length co15)) w.heap.size (fun k_ => nb_ k_ Ao13 t485.length co13 ∧ nb_ k_ Ao14 t488.length co14) (.slice Ao15 t491.length co15) t491) := ⟨by (with_reducible repeat (first | apply Kd.R_alloc | apply Kd.R_drewN | apply Kd.R_drew)); exact Kd.R_mono (rt5_ HO493.out BK497.out) (fun _ hk => ⟨hk.1.1, hk.1.2⟩)⟩
  have n3_ : Aside0 ((((((w9.setCell ⟨gb497, 0, none⟩ (.int .i64 t483)).setCell ⟨gb497, 1, none⟩ (.int .i64 t484)).setCell ⟨gb497, 2, none⟩ (.slice Ao13 t485.length co13)).setCell ⟨gb497, 3, none⟩ (.slice Ao14 t488.length co14)).setCell ⟨gb497, 4, none⟩ (.slice Ao15 t491.length co15)).heap[gb478]? = some (.cells #[.int .i64 0, .int .i64 0, .slice none 0 0, .slice none 0 0, .slice none 0 0] 27 (0, 0))) := ⟨(rb2_ (h := by exact bf5_ NB478_497.out BK478.out))⟩
  have n4_ : Aside0 ((((((w9.setCell ⟨gb497, 0, none⟩ (.int .i64 t483)).setCell ⟨gb497, 1, none⟩ (.int .i64 t484)).setCell ⟨gb497, 2, none⟩ (.slice Ao13 t485.length co13)).setCell ⟨gb497, 3, none⟩ (.slice Ao14 t488.length co14)).setCell ⟨gb497, 4, none⟩ (.slice Ao15 t491.length co15)).heap[gb497]? = some (.cells #[.int .i64 t483, .int .i64 t484, .slice Ao13 t485.length co13, .slice Ao14 t488.length co14, .slice Ao15 t491.length co15] 27 (0, 0))) := ⟨(rb2_ (h := by exact bp5_ BK497.out))⟩
  have n5_ : Aside0 (IsS84 w (((((w9.setCell ⟨gb497, 0, none⟩ (.int .i64 t483)).setCell ⟨gb497, 1, none⟩ (.int .i64 t484)).setCell ⟨gb497, 2, none⟩ (.slice Ao13 t485.length co13)).setCell ⟨gb497, 3, none⟩ (.slice Ao14 t488.length co14)).setCell ⟨gb497, 4, none⟩ (.slice Ao15 t491.length co15)) g482 t479 t495 t496) := ⟨z5_⟩
  have n6_ : Aside0 (Below w.heap.size w (((((w9.setCell ⟨gb497, 0, none⟩ (.int .i64 t483)).setCell ⟨gb497, 1, none⟩ (.int .i64 t484)).setCell ⟨gb497, 2, none⟩ (.slice Ao13 t485.length co13)).setCell ⟨gb497, 3, none⟩ (.slice Ao14 t488.length co14)).setCell ⟨gb497, 4, none⟩ (.slice Ao15 t491.length co15))) := ⟨z7_⟩
  (try clear HO487)
  (try clear HO490)
  (try clear HO493)
  (try clear BK478)
  (try clear BK497)
  (try clear HI482)
  (try clear HB)
  generalize (((((w9.setCell ⟨gb497, 0, none⟩ (.int .i64 t483)).setCell ⟨gb497, 1, none⟩ (.int .i64 t484)).setCell ⟨gb497, 2, none⟩ (.slice Ao13 t485.length co13)).setCell ⟨gb497, 3, none⟩ (.slice Ao14 t488.length co14)).setCell ⟨gb497, 4, none⟩ (.slice Ao15 t491.length co15)) = w16 at n0_ n1_ n2_ n3_ n4_ n5_ n6_ ⊢
  have HO487 := n0_
  have HO490 := n1_
  have HO493 := n2_
  have BK478 := n3_
  have BK497 := n4_
  have HI482 := n5_
  have HB := n6_
  clear n0_ n1_ n2_ n3_ n4_ n5_ n6_
  replace HO487 := a_ (Kd.R_drew HO487.out)
  replace HO490 := a_ (Kd.R_drew HO490.out)
  replace HO493 := a_ (Kd.R_drew HO493.out)
  replace BK478 := a_ (blk_drew BK478.out)
  replace BK497 := a_ (blk_drew BK497.out)
  replace HI482 := a_ (IsS84.drew HI482.out)
  replace HB := a_ (below_drew1 HB.out)
  have p498 : 0 ≤ (0 : Int) := (by omega)
  have q498 : 0 < (t485.length : Int) := of_decide_eq_true z90_
  obtain ⟨ad498, e498, hx498_0⟩ := Kd.at_int (Kd.R_reads' HO487.out).2.2 0 p498 q498
  cases e498
  have qi498 : (0 < t485.length) = True := eq_true (by omega)
  (try rw [show ((0 : Int)).toNat = 0 from rfl] at hx498_0)
  (try rw [Addr.add_zero'] at hx498_0)
  replace p498 := eq_true p498
  replace q498 := eq_true q498
  refine start_ (n := 11) (S := fun w' => w'.cell? ⟨gb497, 0, none⟩ = some (.int .i64 t483) ∧ w'.cell? ⟨gb497, 1, none⟩ = some (.int .i64 t484) ∧ w'.cell? ⟨gb497, 2, none⟩ = some (.slice (some ad498) t485.length co13) ∧ w'.cell? ⟨gb497, 3, none⟩ = some (.slice Ao14 t488.length co14) ∧ w'.cell? ⟨gb497, 4, none⟩ = some (.slice Ao15 t491.length co15) ∧ w'.cell? ad498 = some (.int .i64 (rd t485 0))) (ds := []) #[false, false, false, false, false, false, false, false, false, false, false] (by kernel_rfl) rfl rfl ⟨(blk_cell BK497.out 0).trans rfl, (blk_cell BK497.out 1).trans rfl, (blk_cell BK497.out 2).trans rfl, (blk_cell BK497.out 3).trans rfl, (blk_cell BK497.out 4).trans rfl, hx498_0⟩ (fun hHeld => ?_); refine with_tabW spec_DrawPlaceOfPage.tab3 spec_DrawPlaceOfPage.bits3 (fun HT_ HW_ => ?_)
  generalize w16.drew = w17 at HO487 HO490 HO493 BK478 BK497 HI482 HB hx498_0 hHeld ⊢
  refine pu_ (i := 1) (N := some 15) (bs_ 11 2) ?_
  refine pu_ (i := 5) (N := some 19) (bs_ 11 34) ?_
  refine tk6_ (i := 0) (N := some 14) (bs_ 11 35) hHeld ?_
  refine tk6_ (i := 2) (N := some 16) (bs_ 11 39) hHeld ?_
  refine pu_ (i := 3) (N := some 17) (bs_ 11 47) ?_
  refine tk6_ (i := 4) (N := some 18) (bs_ 11 63) hHeld ?_
  refine one_ (i := 6) (N := some 20) (bs_ 11 127) rfl rfl (one_of HT_.out (by kernel_rfl)) (by decide) (fun K hK => ?_)
  refine goes_ Try.func56 (by kernel_rfl) rfl #[.pointer (some ⟨g482, 0, none⟩), .int .i64 40] (by rfl) rfl rfl z57_ ?_
  with_reducible refine (spec_l01Next.calls g482 t479 t495 t496 40 t499 t500 t501 w _ ?side1 ?side2 A5.out).mono ?_
  (case side1 => exact z5_)
  (case side2 => exact z7_)
  rintro e w18 ⟨rfl, hi, hb, hk⟩
  have HS5_ := keep_cell hk (hHeld.2.2.2.2.2) (by first | (rw [add_block]; exact Kd.own_blk (IsS84.own_ne HI482.out HO487.out (by decide))) | (show (Addr.add _ _).block ≠ _; rw [add_block]; exact Kd.own_blk (IsS84.own_ne HI482.out HO487.out (by decide))) | exact Kd.own_blk (IsS84.own_ne HI482.out HO487.out (by decide)))
  refine ⟨_, rfl, ?_⟩
  replace BK478 := a_ (KeepBut.blk hk (g' := gb478) (rb_ BK478.out) NB478_482.out (by simp))
  replace HO487 := a_ (Kd.R_mono (Kd.R_keep (IsS84.apart (show IsS84 w _ g482 t479 t495 t496 from z5_) (ra_ HO487.out) (by decide)) hk (fun _ h => h.2)) (fun _ h => h.1))
  replace HO490 := a_ (Kd.R_mono (Kd.R_keep (IsS84.apart (show IsS84 w _ g482 t479 t495 t496 from z5_) (ra_ HO490.out) (by decide)) hk (fun _ h => h.2)) (fun _ h => h.1))
  replace HO493 := a_ (Kd.R_mono (Kd.R_keep (IsS84.apart (show IsS84 w _ g482 t479 t495 t496 from z5_) (ra_ HO493.out) (by decide)) hk (fun _ h => h.2)) (fun _ h => h.1))
  replace BK497 := a_ (KeepBut.blk hk (g' := gb497) (rb_ BK497.out) NB497_482.out (by simp))
  replace HB := a_ (hb)
  replace HI482 := a_ (hi)
  (try clear hb)
  (try clear hb2)
  (try clear hk)
  (try clear hi)
  refine hK.out _ _ ⟨(blk_cell BK497.out 0).trans rfl, (blk_cell BK497.out 1).trans rfl, (blk_cell BK497.out 2).trans rfl, (blk_cell BK497.out 3).trans rfl, (blk_cell BK497.out 4).trans rfl, HS5_⟩ (fun hHeld => ?_)
  clear hK K
  refine nm_ ?_
  refine pu_ (i := 7) (N := some 21) (bs_ 11 255) ?_
  refine pu_ (i := 8) (N := some 22) (bs_ 11 511) ?_
  refine one_ (i := 9) (N := none) (bs_ 11 1023) rfl rfl (one_of HT_.out (by kernel_rfl)) (by decide) (fun K hK => ?_)
  have hs19 : w18.cell? ⟨gb478, 0, none⟩ = some (.int .i64 0) := (blk_cell BK478.out 0).trans rfl
  have hfs19 := blk_frozen BK478.out 0
  have hns19_1 := NB497_478.out
  have hms19_1 := NB478_497.out
  have hs20 : w18.cell? ⟨gb478, 1, none⟩ = some (.int .i64 0) := (blk_cell BK478.out 1).trans rfl
  have hfs20 := blk_frozen BK478.out 1
  have hns20_1 := NB497_478.out
  have hms20_1 := NB478_497.out
  have hs21 : w18.cell? ⟨gb478, 2, none⟩ = some (.slice none 0 0) := (blk_cell BK478.out 2).trans rfl
  have hfs21 := blk_frozen BK478.out 2
  have hns21_1 := NB497_478.out
  have hms21_1 := NB478_497.out
  have hs22 : w18.cell? ⟨gb478, 3, none⟩ = some (.slice none 0 0) := (blk_cell BK478.out 3).trans rfl
  have hfs22 := blk_frozen BK478.out 3
  have hns22_1 := NB497_478.out
  have hms22_1 := NB478_497.out
  have hs23 : w18.cell? ⟨gb478, 4, none⟩ = some (.slice none 0 0) := (blk_cell BK478.out 4).trans rfl
  have hfs23 := blk_frozen BK478.out 4
  have hns23_1 := NB497_478.out
  have hms23_1 := NB478_497.out
  refine skip_ (w1 := ?_) (by rfl) rfl ?_ ?_
  rotate_left
  ·go_simp
   rfl
  refine hK.out _ _ ⟨((cell_far (p := ⟨gb478, _, none⟩) NB497_478.out _).trans (((cell_far (p := ⟨gb478, _, none⟩) NB497_478.out _).trans (((cell_far (p := ⟨gb478, _, none⟩) NB497_478.out _).trans (((cell_far (p := ⟨gb478, _, none⟩) NB497_478.out _).trans (((cell_far (p := ⟨gb478, _, none⟩) NB497_478.out _).trans (hHeld.1)))))))))), ((cell_far (p := ⟨gb478, _, none⟩) NB497_478.out _).trans (((cell_far (p := ⟨gb478, _, none⟩) NB497_478.out _).trans (((cell_far (p := ⟨gb478, _, none⟩) NB497_478.out _).trans (((cell_far (p := ⟨gb478, _, none⟩) NB497_478.out _).trans (((cell_far (p := ⟨gb478, _, none⟩) NB497_478.out _).trans (hHeld.2.1)))))))))), ((cell_far (p := ⟨gb478, _, none⟩) NB497_478.out _).trans (((cell_far (p := ⟨gb478, _, none⟩) NB497_478.out _).trans (((cell_far (p := ⟨gb478, _, none⟩) NB497_478.out _).trans (((cell_far (p := ⟨gb478, _, none⟩) NB497_478.out _).trans (((cell_far (p := ⟨gb478, _, none⟩) NB497_478.out _).trans (hHeld.2.2.1)))))))))), ((cell_far (p := ⟨gb478, _, none⟩) NB497_478.out _).trans (((cell_far (p := ⟨gb478, _, none⟩) NB497_478.out _).trans (((cell_far (p := ⟨gb478, _, none⟩) NB497_478.out _).trans (((cell_far (p := ⟨gb478, _, none⟩) NB497_478.out _).trans (((cell_far (p := ⟨gb478, _, none⟩) NB497_478.out _).trans (hHeld.2.2.2.1)))))))))), ((cell_far (p := ⟨gb478, _, none⟩) NB497_478.out _).trans (((cell_far (p := ⟨gb478, _, none⟩) NB497_478.out _).trans (((cell_far (p := ⟨gb478, _, none⟩) NB497_478.out _).trans (((cell_far (p := ⟨gb478, _, none⟩) NB497_478.out _).trans (((cell_far (p := ⟨gb478, _, none⟩) NB497_478.out _).trans (hHeld.2.2.2.2.1)))))))))), ((cell_far (p := ⟨gb478, _, none⟩) z2_ _).trans (((cell_far (p := ⟨gb478, _, none⟩) z2_ _).trans (((cell_far (p := ⟨gb478, _, none⟩) z2_ _).trans (((cell_far (p := ⟨gb478, _, none⟩) z2_ _).trans (((cell_far (p := ⟨gb478, _, none⟩) z2_ _).trans (hHeld.2.2.2.2.2))))))))))⟩ (fun hHeld => ?_)
  clear hK K
  refine pu_ (i := 10) (N := some 3) (bs_ 11 2047) ?_
  refine done_ (done_of HT_.out (by kernel_rfl)) ?_
  try go_wp2
  refine bodyPost_ret (results_ct rfl _ _ gb478 27 #[.int .i64 t483, .int .i64 t484, .slice (some ad498) t485.length co13, .slice Ao14 t488.length co14, .slice Ao15 t491.length co15] (0, 0) _ rfl (rb2_ (h := by exact bp5_ BK478.out)) Try.underlying27 rfl (by kernel_rfl)) rfl ?_
  exact ⟨_, _, _, z55_, by (with_reducible repeat (first | apply Kd.R_alloc | apply Kd.R_drewN | apply Kd.R_drew)); exact Kd.R_mono (rt5_ HO487.out BK478.out) (fun _ hk => ⟨hk.1.1, hk.1.2⟩), by (with_reducible repeat (first | apply Kd.R_alloc | apply Kd.R_drewN | apply Kd.R_drew)); exact Kd.R_mono (rt5_ HO490.out BK478.out) (fun _ hk => ⟨hk.1.1, hk.1.2⟩), by (with_reducible repeat (first | apply Kd.R_alloc | apply Kd.R_drewN | apply Kd.R_drew)); exact Kd.R_mono (rt5_ HO493.out BK478.out) (fun _ hk => ⟨hk.1.1, hk.1.2⟩), z7_⟩
 ·rw [if_neg c4] at H
  exact absurd H (by simp)

/-! ### spec_DrawIsForm: function 57 -/
def spec_DrawIsForm.f (k : Nat) (l0 : List Int) : Option (Int × Int × List Int × List Int × List Int) := (spec_l01From.f k l0).bind fun bt503 => ((spec_l05Draw.f k bt503.1 bt503.2.1 bt503.2.2).bind fun bt507 => (some (bt507.1, bt507.2.1, bt507.2.2.1, bt507.2.2.2.1, bt507.2.2.2.2.1)))
theorem spec_DrawIsForm.mono : ∀ a0 k, LeO (spec_DrawIsForm.f k a0) (spec_DrawIsForm.f (k + 1) a0) := by
 intro a0 k
 unfold spec_DrawIsForm.f
 repeat' first
   | (with_reducible exact spec_l01From.mono _ _)
   | (with_reducible exact spec_l05Draw.mono _ _ _ _)
   | (with_reducible exact LeO.refl _)
   | (with_reducible exact LeO.none _)
   | (with_reducible refine LeO.ite ?_ ?_)
   | (with_reducible refine LeO.bind ?_ (fun _ => ?_))
   | exact spec_l01From.mono _ _
   | exact spec_l05Draw.mono _ _ _ _
   | exact LeO.none _
   | refine LeO.ite ?_ ?_
   | refine LeO.bind ?_ (fun _ => ?_)
set_option maxHeartbeats 8000000 in
set_option maxRecDepth 100000 in
theorem spec_DrawIsForm.calls (k : Nat) (A0 : Option Addr) (c0 : Nat) (l0 : List Int) (r1 : Int) (r2 : Int) (r3 : List Int) (r4 : List Int) (r5 : List Int) (w : World) (hr0 : Kd.C (Kd.int .u8) w A0 l0.length l0) (hc0 : l0.length ≤ c0) (h : spec_DrawIsForm.f k l0 = some (r1, r2, r3, r4, r5)) :
  Calls Try.prog 57 #[.slice A0 l0.length c0] w fun e w' => ∃ v2_ v3_ v4_ : Value, e = .returned (.agg #[.int .i64 r1, .int .i64 r2, v2_, v3_, v4_]) ∧ Kd.R (Kd.int .i64) 2 w' w.heap.size (fun k_ => some k_ ≠ (v3_ : Value).ownBlock ∧ some k_ ≠ (v4_ : Value).ownBlock) v2_ r3 ∧ Kd.R (Kd.int .i64) 2 w' w.heap.size (fun k_ => some k_ ≠ (v2_ : Value).ownBlock ∧ some k_ ≠ (v4_ : Value).ownBlock) v3_ r4 ∧ Kd.R (Kd.int .i64) 2 w' w.heap.size (fun k_ => some k_ ≠ (v2_ : Value).ownBlock ∧ some k_ ≠ (v3_ : Value).ownBlock) v4_ r5 ∧ Below w.heap.size w w' := by
 have hu27 := Try.underlying27
 have HR0 := Aside0.mk hr0
 have HC0 := Aside0.mk hc0
 clear hr0 hc0
 have HB := a_ (Below.refl w.heap.size w)
 have H : ((spec_l01From.f k l0).bind fun bt503 => ((spec_l05Draw.f k bt503.1 bt503.2.1 bt503.2.2).bind fun bt507 => (some (bt507.1, bt507.2.1, bt507.2.2.1, bt507.2.2.2.1, bt507.2.2.2.2.1)))) = some (r1, r2, r3, r4, r5) := h
 clear h
 replace H := Option.bind_eq_some_iff.mp H
 obtain ⟨⟨t503, t504, t505⟩, A20, H⟩ := H
 replace H : ((spec_l05Draw.f k t503 t504 t505).bind fun bt507 => (some (bt507.1, bt507.2.1, bt507.2.2.1, bt507.2.2.2.1, bt507.2.2.2.2.1))) = some (r1, r2, r3, r4, r5) := H
 have A2 := Aside0.mk A20
 clear A20
 replace H := Option.bind_eq_some_iff.mp H
 obtain ⟨⟨t507, t508, t509, t512, t515, t518, t519, t520⟩, A30, H⟩ := H
 replace H : (some (t507, t508, t509, t512, t515)) = some (r1, r2, r3, r4, r5) := H
 have A3 := Aside0.mk A30
 clear A30
 simp only [Option.some.injEq, Prod.mk.injEq] at H
 obtain ⟨rfl, rfl, rfl, rfl, rfl⟩ := H
 go_enter Try.func57, Try.ntmps57
 go_wp2_with (first | ((with_reducible refine gate_dst (N := 2) rfl ?_); refine box_event ?hg (N := 2) ?hd (cs := #[.int .i64 0, .int .i64 0, .slice none 0 0, .slice none 0 0, .slice none 0 0]) (t := 27) ?hr ?_; (case hd => rfl); (case hg => rfl); (case hr => first | (go_simp; done) | (go_simp; rfl)); intro gb502 hg w4 hbox hb; have BK502 := a_ (hbox); have GW502 := a_ ((z53_ : w.heap.size ≤ gb502)); have GE502 := a_ ((z53_ : w.heap.size ≤ gb502)); replace HB := a_ (below_step z54_ hb); clear hb hbox hg) | ((with_reducible refine gate_callee (f := 54) rfl ?_); refine goesL_ (some 7) rfl rfl Try.func54 (by kernel_rfl) rfl #[.slice A0 l0.length c0] rfl z57_ ?_; (with_reducible refine (spec_l01From.calls k _ _ l0 t503 t504 t505 w _ ?side1 ?side2 ?side3 A2.out).mono ?_); (case side1 => exact (by (repeat (first | (with_reducible first | exact HB.out | apply below_alloc | apply pw_below_drewN | apply below_drew1 | refine below_set ?_ GE502.out) | exact HB.out)); first | done | fail)); (case side2 => exact HR0.out); (case side3 => exact HC0.out); rintro e w5 ⟨g506, rfl, hi, hb, hb2⟩; refine ⟨_, rfl, ?_⟩; replace HB := a_ (hb); have HI506 := a_ (hi); have NB506_502 := a_ (IsS84.ne_blk hi (blk_below (g := gb502) (rb_ BK502.out) hb2) (by decide)); have NB502_506 := a_ (Ne.symm (IsS84.ne_blk hi (blk_below (g := gb502) (rb_ BK502.out) hb2) (by decide))); replace BK502 := a_ (blk_below (g := gb502) (rb_ BK502.out) hb2); (try clear hb); (try clear hb2); (try clear hk); (try clear hi)) | ((with_reducible refine gate_callee (f := 55) rfl ?_); refine goesL_ (some 8) rfl rfl Try.func55 (by kernel_rfl) rfl #[.pointer (some ⟨g506, 0, none⟩)] rfl z57_ ?_; (with_reducible refine (spec_l05Draw.calls k g506 t503 t504 t505 t507 t508 t509 t512 t515 t518 t519 t520 w _ ?side1 ?side2 A3.out).mono ?_); (case side1 => exact z15_); (case side2 => exact z17_); rintro e w6 ⟨v510, v513, v516, rfl, ho0, ho1, ho2, hi, hb, hk⟩; refine ⟨_, rfl, ?_⟩; replace BK502 := a_ (KeepBut.blk hk (g' := gb502) (rb_ BK502.out) NB502_506.out (by simp)); have HO511 := a_ (Kd.R_lower ho0 (below_size z17_)); have HO514 := a_ (Kd.R_lower ho1 (below_size z17_)); have HO517 := a_ (Kd.R_lower ho2 (below_size z17_)); replace HB := a_ (hb); replace HI506 := a_ (hi); (try clear hb); (try clear hb2); (try clear hk); (try clear hi); (try clear ho0); (try clear ho1); (try clear ho2)) | ((with_reducible refine gate_dst (N := 3) rfl ?_); refine box_event ?hg (N := 3) ?hd (cs := #[.int .i64 0, .int .i64 0, .slice none 0 0, .slice none 0 0, .slice none 0 0]) (t := 27) ?hr ?_; (case hd => rfl); (case hg => rfl); (case hr => first | (go_simp; done) | (go_simp; rfl)); intro gb521 hg w7 hbox hb; replace HO511 := a_ (Kd.R_below (ra_ HO511.out) hb); replace HO514 := a_ (Kd.R_below (ra_ HO514.out) hb); replace HO517 := a_ (Kd.R_below (ra_ HO517.out) hb); have BK521 := a_ (hbox); have GW521 := a_ ((by rw [hg]; exact (below_size z17_) : w.heap.size ≤ gb521)); have GE521 := a_ ((by rw [hg]; exact (below_size z17_) : w.heap.size ≤ gb521)); replace HB := a_ (below_step z17_ hb); have NB502_521 := a_ ((by rw [hg]; exact Nat.ne_of_lt (blk_lt (g := gb502) (rb_ BK502.out)) : gb502 ≠ gb521)); have NB521_502 := a_ ((by rw [hg]; exact Nat.ne_of_gt (blk_lt (g := gb502) (rb_ BK502.out)) : gb521 ≠ gb502)); replace BK502 := a_ (blk_below (g := gb502) (rb_ BK502.out) hb); have NB506_521 := a_ ((by rw [hg]; exact Nat.ne_of_lt (IsS84.lt (show IsS84 w _ g506 t503 t519 t520 from z15_)) : g506 ≠ gb521)); have NB521_506 := a_ ((by rw [hg]; exact Nat.ne_of_gt (IsS84.lt (show IsS84 w _ g506 t503 t519 t520 from z15_)) : gb521 ≠ g506)); replace HI506 := a_ (IsS84.below z15_ hb); clear hb hbox hg; have hnb8 := NB521_502.out; have hnc8 := NB502_521.out; have hnb9 := NB521_506.out; have hnc9 := NB506_521.out; obtain ⟨hcz10_0, hcz10_1, hcz10_2, hcz10_3, hcz10_4, hfz10_0, hfz10_1, hfz10_2, hfz10_3, hfz10_4⟩ := cz5_ (w := w7) BK521.out; obtain ⟨Ao11, co11, eo11⟩ := Kd.R_slice HO511.out; subst eo11; obtain ⟨Ao12, co12, eo12⟩ := Kd.R_slice HO514.out; subst eo12; obtain ⟨Ao13, co13, eo13⟩ := Kd.R_slice HO517.out; subst eo13; have hnb14 := NB502_506.out; have hnc14 := NB506_502.out; obtain ⟨hcz15_0, hcz15_1, hcz15_2, hcz15_3, hcz15_4, hfz15_0, hfz15_1, hfz15_2, hfz15_3, hfz15_4⟩ := cz5_ (w := w7) BK502.out))
 refine bodyPost_ret (results_cell_row rfl _ _ gb502 27 #[.int .i64 t507, .int .i64 t508, .slice Ao11 t509.length co11, .slice Ao12 t512.length co12, .slice Ao13 t515.length co13] (0, 0) _ rfl (rb2_ (h := by exact bp5_ (rb2_ (h := by exact bf5_ NB502_521.out BK502.out)))) Try.underlying27 rfl (by kernel_rfl)) rfl ?_
 exact ⟨_, _, _, z55_, by (with_reducible repeat (first | apply Kd.R_alloc | apply Kd.R_drewN | apply Kd.R_drew)); exact Kd.R_mono (Kd.R_far (p := ⟨gb502, 4, none⟩) (Kd.R_far (p := ⟨gb502, 3, none⟩) (Kd.R_far (p := ⟨gb502, 2, none⟩) (Kd.R_far (p := ⟨gb502, 1, none⟩) (Kd.R_far (p := ⟨gb502, 0, none⟩) (Kd.R_far (p := ⟨gb521, 4, none⟩) (Kd.R_far (p := ⟨gb521, 3, none⟩) (Kd.R_far (p := ⟨gb521, 2, none⟩) (Kd.R_far (p := ⟨gb521, 1, none⟩) (Kd.R_far (p := ⟨gb521, 0, none⟩) (Kd.R_types (Kd.R_types HO511.out BK521.out (by decide)) BK502.out (by decide)) (fun _ hk => hk.1.2) (.int .i64 t507)) (fun _ hk => hk.1.2) (.int .i64 t508)) (fun _ hk => hk.1.2) (.slice Ao11 t509.length co11)) (fun _ hk => hk.1.2) (.slice Ao12 t512.length co12)) (fun _ hk => hk.1.2) (.slice Ao13 t515.length co13)) (fun _ hk => hk.2) (.int .i64 t507)) (fun _ hk => hk.2) (.int .i64 t508)) (fun _ hk => hk.2) (.slice Ao11 t509.length co11)) (fun _ hk => hk.2) (.slice Ao12 t512.length co12)) (fun _ hk => hk.2) (.slice Ao13 t515.length co13)) (fun _ hk => ⟨hk.1.1.1, hk.1.1.2⟩), by (with_reducible repeat (first | apply Kd.R_alloc | apply Kd.R_drewN | apply Kd.R_drew)); exact Kd.R_mono (Kd.R_far (p := ⟨gb502, 4, none⟩) (Kd.R_far (p := ⟨gb502, 3, none⟩) (Kd.R_far (p := ⟨gb502, 2, none⟩) (Kd.R_far (p := ⟨gb502, 1, none⟩) (Kd.R_far (p := ⟨gb502, 0, none⟩) (Kd.R_far (p := ⟨gb521, 4, none⟩) (Kd.R_far (p := ⟨gb521, 3, none⟩) (Kd.R_far (p := ⟨gb521, 2, none⟩) (Kd.R_far (p := ⟨gb521, 1, none⟩) (Kd.R_far (p := ⟨gb521, 0, none⟩) (Kd.R_types (Kd.R_types HO514.out BK521.out (by decide)) BK502.out (by decide)) (fun _ hk => hk.1.2) (.int .i64 t507)) (fun _ hk => hk.1.2) (.int .i64 t508)) (fun _ hk => hk.1.2) (.slice Ao11 t509.length co11)) (fun _ hk => hk.1.2) (.slice Ao12 t512.length co12)) (fun _ hk => hk.1.2) (.slice Ao13 t515.length co13)) (fun _ hk => hk.2) (.int .i64 t507)) (fun _ hk => hk.2) (.int .i64 t508)) (fun _ hk => hk.2) (.slice Ao11 t509.length co11)) (fun _ hk => hk.2) (.slice Ao12 t512.length co12)) (fun _ hk => hk.2) (.slice Ao13 t515.length co13)) (fun _ hk => ⟨hk.1.1.1, hk.1.1.2⟩), by (with_reducible repeat (first | apply Kd.R_alloc | apply Kd.R_drewN | apply Kd.R_drew)); exact Kd.R_mono (Kd.R_far (p := ⟨gb502, 4, none⟩) (Kd.R_far (p := ⟨gb502, 3, none⟩) (Kd.R_far (p := ⟨gb502, 2, none⟩) (Kd.R_far (p := ⟨gb502, 1, none⟩) (Kd.R_far (p := ⟨gb502, 0, none⟩) (Kd.R_far (p := ⟨gb521, 4, none⟩) (Kd.R_far (p := ⟨gb521, 3, none⟩) (Kd.R_far (p := ⟨gb521, 2, none⟩) (Kd.R_far (p := ⟨gb521, 1, none⟩) (Kd.R_far (p := ⟨gb521, 0, none⟩) (Kd.R_types (Kd.R_types HO517.out BK521.out (by decide)) BK502.out (by decide)) (fun _ hk => hk.1.2) (.int .i64 t507)) (fun _ hk => hk.1.2) (.int .i64 t508)) (fun _ hk => hk.1.2) (.slice Ao11 t509.length co11)) (fun _ hk => hk.1.2) (.slice Ao12 t512.length co12)) (fun _ hk => hk.1.2) (.slice Ao13 t515.length co13)) (fun _ hk => hk.2) (.int .i64 t507)) (fun _ hk => hk.2) (.int .i64 t508)) (fun _ hk => hk.2) (.slice Ao11 t509.length co11)) (fun _ hk => hk.2) (.slice Ao12 t512.length co12)) (fun _ hk => hk.2) (.slice Ao13 t515.length co13)) (fun _ hk => ⟨hk.1.1.1, hk.1.1.2⟩), by repeat (first | (with_reducible first | exact HB.out | apply below_alloc | apply pw_below_drewN | apply below_drew1 | refine below_set ?_ (IsS84.ge HI506.out) | refine below_set ?_ GE502.out | refine below_set ?_ GE521.out) | exact HB.out)⟩

/-! ### spec_DrawTurnForm: function 24 -/
def spec_DrawTurnForm.f (k : Nat) (l0 : List Int) : Option (Int × Int × List Int × List Int × List Int) := (spec_DrawIsForm.f k l0).bind fun bt523 => (some (bt523.1, bt523.2.1, bt523.2.2.1, bt523.2.2.2.1, bt523.2.2.2.2))
theorem spec_DrawTurnForm.mono : ∀ a0 k, LeO (spec_DrawTurnForm.f k a0) (spec_DrawTurnForm.f (k + 1) a0) := by
 intro a0 k
 unfold spec_DrawTurnForm.f
 repeat' first
   | (with_reducible exact spec_DrawIsForm.mono _ _)
   | (with_reducible exact LeO.refl _)
   | (with_reducible exact LeO.none _)
   | (with_reducible refine LeO.ite ?_ ?_)
   | (with_reducible refine LeO.bind ?_ (fun _ => ?_))
   | exact spec_DrawIsForm.mono _ _
   | exact LeO.none _
   | refine LeO.ite ?_ ?_
   | refine LeO.bind ?_ (fun _ => ?_)
set_option maxHeartbeats 8000000 in
set_option maxRecDepth 100000 in
theorem spec_DrawTurnForm.calls (k : Nat) (A0 : Option Addr) (c0 : Nat) (l0 : List Int) (r1 : Int) (r2 : Int) (r3 : List Int) (r4 : List Int) (r5 : List Int) (w : World) (hr0 : Kd.C (Kd.int .u8) w A0 l0.length l0) (hc0 : l0.length ≤ c0) (h : spec_DrawTurnForm.f k l0 = some (r1, r2, r3, r4, r5)) :
  Calls Try.prog 24 #[.slice A0 l0.length c0] w fun e w' => ∃ v2_ v3_ v4_ : Value, e = .returned (.agg #[.int .i64 r1, .int .i64 r2, v2_, v3_, v4_]) ∧ Kd.R (Kd.int .i64) 2 w' w.heap.size (fun k_ => some k_ ≠ (v3_ : Value).ownBlock ∧ some k_ ≠ (v4_ : Value).ownBlock) v2_ r3 ∧ Kd.R (Kd.int .i64) 2 w' w.heap.size (fun k_ => some k_ ≠ (v2_ : Value).ownBlock ∧ some k_ ≠ (v4_ : Value).ownBlock) v3_ r4 ∧ Kd.R (Kd.int .i64) 2 w' w.heap.size (fun k_ => some k_ ≠ (v2_ : Value).ownBlock ∧ some k_ ≠ (v3_ : Value).ownBlock) v4_ r5 ∧ Below w.heap.size w w' := by
 have hu27 := Try.underlying27
 have HR0 := Aside0.mk hr0
 have HC0 := Aside0.mk hc0
 clear hr0 hc0
 have HB := a_ (Below.refl w.heap.size w)
 have H : ((spec_DrawIsForm.f k l0).bind fun bt523 => (some (bt523.1, bt523.2.1, bt523.2.2.1, bt523.2.2.2.1, bt523.2.2.2.2))) = some (r1, r2, r3, r4, r5) := h
 clear h
 replace H := Option.bind_eq_some_iff.mp H
 obtain ⟨⟨t523, t524, t525, t528, t531⟩, A20, H⟩ := H
 replace H : (some (t523, t524, t525, t528, t531)) = some (r1, r2, r3, r4, r5) := H
 have A2 := Aside0.mk A20
 clear A20
 simp only [Option.some.injEq, Prod.mk.injEq] at H
 obtain ⟨rfl, rfl, rfl, rfl, rfl⟩ := H
 go_enter Try.func24, Try.ntmps24
 go_wp2_with (first | ((with_reducible refine gate_dst (N := 2) rfl ?_); refine box_event ?hg (N := 2) ?hd (cs := #[.int .i64 0, .int .i64 0, .slice none 0 0, .slice none 0 0, .slice none 0 0]) (t := 27) ?hr ?_; (case hd => rfl); (case hg => rfl); (case hr => first | (go_simp; done) | (go_simp; rfl)); intro gb522 hg w3 hbox hb; have BK522 := a_ (hbox); have GW522 := a_ ((z53_ : w.heap.size ≤ gb522)); have GE522 := a_ ((z53_ : w.heap.size ≤ gb522)); replace HB := a_ (below_step z54_ hb); clear hb hbox hg) | ((with_reducible refine gate_callee (f := 57) rfl ?_); refine goesL_ (some 4) rfl rfl Try.func57 (by kernel_rfl) rfl #[.slice A0 l0.length c0] rfl z57_ ?_; (with_reducible refine (spec_DrawIsForm.calls k _ _ l0 t523 t524 t525 t528 t531 _ ?side1 ?side2 A2.out).mono ?_); (case side1 => exact kc_ (Kd.C_below HR0.out HB.out)); (case side2 => exact HC0.out); rintro e w4 ⟨v526, v529, v532, rfl, ho0, ho1, ho2, hb⟩; refine ⟨_, rfl, ?_⟩; have HO527 := a_ (Kd.R_lower ho0 (below_size z48_)); have HO530 := a_ (Kd.R_lower ho1 (below_size z48_)); have HO533 := a_ (Kd.R_lower ho2 (below_size z48_)); replace BK522 := a_ (blk_below (g := gb522) (rb_ BK522.out) hb); replace HB := a_ (below_step z48_ hb); (try clear hb); (try clear hb2); (try clear hk); (try clear hi); (try clear ho0); (try clear ho1); (try clear ho2); obtain ⟨hcz5_0, hcz5_1, hcz5_2, hcz5_3, hcz5_4, hfz5_0, hfz5_1, hfz5_2, hfz5_3, hfz5_4⟩ := cz5_ (w := w4) BK522.out; obtain ⟨Ao6, co6, eo6⟩ := Kd.R_slice HO527.out; subst eo6; obtain ⟨Ao7, co7, eo7⟩ := Kd.R_slice HO530.out; subst eo7; obtain ⟨Ao8, co8, eo8⟩ := Kd.R_slice HO533.out; subst eo8))
 refine bodyPost_ret (results_cell_row rfl _ _ gb522 27 #[.int .i64 t523, .int .i64 t524, .slice Ao6 t525.length co6, .slice Ao7 t528.length co7, .slice Ao8 t531.length co8] (0, 0) _ rfl (rb2_ (h := by exact bp5_ BK522.out)) Try.underlying27 rfl (by kernel_rfl)) rfl ?_
 exact ⟨_, _, _, z55_, by (with_reducible repeat (first | apply Kd.R_alloc | apply Kd.R_drewN | apply Kd.R_drew)); exact Kd.R_mono (rt5_ HO527.out BK522.out) (fun _ hk => ⟨hk.1.1, hk.1.2⟩), by (with_reducible repeat (first | apply Kd.R_alloc | apply Kd.R_drewN | apply Kd.R_drew)); exact Kd.R_mono (rt5_ HO530.out BK522.out) (fun _ hk => ⟨hk.1.1, hk.1.2⟩), by (with_reducible repeat (first | apply Kd.R_alloc | apply Kd.R_drewN | apply Kd.R_drew)); exact Kd.R_mono (rt5_ HO533.out BK522.out) (fun _ hk => ⟨hk.1.1, hk.1.2⟩), z48_⟩

/-! ### laws_likeInts: function 58 -/
def laws_likeInts.l0 : Nat → List Int → List Int → Int → Option (Bool)
 | 0, _, _, _ => none
 | k + 1, x0, x1, x5 => if x5 < (x0.length : Int) then (if 0 ≤ x5 then (if x5 < (x1.length : Int) then (if (rd x0 x5) = (rd x1 x5) then (laws_likeInts.l0 k x0 x1 (wrap64 (x5 + 1))) else (some false)) else (none)) else (none)) else (some true)
def laws_likeInts.f (k : Nat) (l0 : List Int) (l1 : List Int) : Option (Bool) := if (l0.length : Int) = (l1.length : Int) then (laws_likeInts.l0 k l0 l1 0) else (some false)
theorem laws_likeInts.mono_l : ∀ k, (∀ y0 y1 y2, LeO (laws_likeInts.l0 k y0 y1 y2) (laws_likeInts.l0 (k + 1) y0 y1 y2))
 | 0 => fun _ _ _ r h => by simp [laws_likeInts.l0] at h
 | k + 1 => by
  have ih0 := laws_likeInts.mono_l k
  ·intro y0 y1 y2
   unfold laws_likeInts.l0
   repeat' first
   | (with_reducible exact ih0 _ _ _)
   | (with_reducible exact LeO.refl _)
   | (with_reducible exact LeO.none _)
   | (with_reducible refine LeO.ite ?_ ?_)
   | (with_reducible refine LeO.bind ?_ (fun _ => ?_))
   | exact ih0 _ _ _
   | exact LeO.none _
   | refine LeO.ite ?_ ?_
   | refine LeO.bind ?_ (fun _ => ?_)
theorem laws_likeInts.mono : ∀ a0 a1 k, LeO (laws_likeInts.f k a0 a1) (laws_likeInts.f (k + 1) a0 a1) := by
 intro a0 a1 k
 have ih0 := laws_likeInts.mono_l k
 unfold laws_likeInts.f
 repeat' first
   | (with_reducible exact ih0 _ _ _)
   | (with_reducible exact LeO.refl _)
   | (with_reducible exact LeO.none _)
   | (with_reducible refine LeO.ite ?_ ?_)
   | (with_reducible refine LeO.bind ?_ (fun _ => ?_))
   | exact ih0 _ _ _
   | exact LeO.none _
   | refine LeO.ite ?_ ?_
   | refine LeO.bind ?_ (fun _ => ?_)
set_option maxHeartbeats 8000000 in
set_option maxRecDepth 100000 in
theorem laws_likeInts.calls (k : Nat) (A0 : Option Addr) (c0 : Nat) (l0 : List Int) (A1 : Option Addr) (c1 : Nat) (l1 : List Int) (r : Bool) (w : World) (hr0 : Kd.C (Kd.int .i64) w A0 l0.length l0) (hc0 : l0.length ≤ c0) (hr1 : Kd.C (Kd.int .i64) w A1 l1.length l1) (hc1 : l1.length ≤ c1) (h : laws_likeInts.f k l0 l1 = some r) :
  Calls Try.prog 58 #[.slice A0 l0.length c0, .slice A1 l1.length c1] w fun e w' => e = .returned (.bool r) ∧ Drawn0 w w' := by
 have HR0 := Aside0.mk hr0
 have HC0 := Aside0.mk hc0
 clear hr0 hc0
 have HR1 := Aside0.mk hr1
 have HC1 := Aside0.mk hc1
 clear hr1 hc1
 have H : (if (l0.length : Int) = (l1.length : Int) then (laws_likeInts.l0 k l0 l1 0) else (some false)) = some r := h
 clear h
 by_cases c3 : (l0.length : Int) = (l1.length : Int)
 ·rw [if_pos c3] at H
  have c3b0 : ((l0.length : Int) == (l1.length : Int)) = true := beq_iff_eq.mpr c3
  have c3b1 : ((l0.length : Int) != (l1.length : Int)) = false := bne_eq_false_iff_eq.mpr c3
  have c3b2 : (l0.length == l1.length) = true := by first | simpa using c3 | (simp at c3 ⊢; omega)
  clear c3
  have H' := Aside0.mk H
  clear H
  go_enter Try.func58, Try.ntmps58
  go_wp2
  repeat (go_quiet (fail); try go_wp2)
  go_loopg [5] k (fun kq v5 w' => ∃ (x5_1 : Int), v5 = .int .i64 x5_1 ∧ Aside0 (laws_likeInts.l0 kq l0 l1 x5_1 = some r) ∧ Aside0 (kq ≤ k) ∧ Drawn0 w w')
  case atStart => exact ⟨(0), z91_, H', ⟨Nat.le_refl _⟩, z82_⟩
  case round =>
   clear H'
   try clear c1; try clear c3b0; try clear c3b1; try clear c3b2
   obtain ⟨x5_1, rfl, HA, HK1, ⟨m1, rfl⟩⟩ := hrel
   cases gk with
   | zero => exact absurd HA.out (by simp [laws_likeInts.l0])
   | succ k1 =>
    have H := HA.out
    clear HA
    simp only [laws_likeInts.l0] at H
    by_cases c4 : x5_1 < (l0.length : Int)
    ·rw [if_pos c4] at H
     have c4b0 : decide (x5_1 < (l0.length : Int)) = true := decide_eq_true c4
     clear c4
     by_cases c5 : 0 ≤ x5_1
     ·rw [if_pos c5] at H
      have c5b0 : decide (0 ≤ x5_1) = true := decide_eq_true c5
      clear c5
      by_cases c6 : x5_1 < (l1.length : Int)
      ·rw [if_pos c6] at H
       have c6b0 : decide (x5_1 < (l1.length : Int)) = true := decide_eq_true c6
       clear c6
       by_cases c7 : (rd l0 x5_1) = (rd l1 x5_1)
       ·rw [if_pos c7] at H
        have c7b0 : ((rd l0 x5_1) == (rd l1 x5_1)) = true := beq_iff_eq.mpr c7
        have c7b1 : ((rd l0 x5_1) != (rd l1 x5_1)) = false := bne_eq_false_iff_eq.mpr c7
        clear c7
        have H' := Aside0.mk H
        clear H
        have p534 : 0 ≤ (x5_1 : Int) := of_decide_eq_true z90_
        have q534 : x5_1 < (l0.length : Int) := of_decide_eq_true z90_
        obtain ⟨ad534, e534, hx534_0⟩ := Kd.at_int HR0.out x5_1 p534 q534
        cases e534
        replace p534 := eq_true p534
        replace q534 := eq_true q534
        have p535 : 0 ≤ (x5_1 : Int) := of_decide_eq_true z90_
        have q535 : x5_1 < (l1.length : Int) := of_decide_eq_true z90_
        obtain ⟨ad535, e535, hx535_0⟩ := Kd.at_int HR1.out x5_1 p535 q535
        cases e535
        replace p535 := eq_true p535
        replace q535 := eq_true q535
        go_wp2
        repeat (go_quiet (fail); try go_wp2)
        go_roundg k1
        case measure => have := HK1.out; omega
        case rel => exact ⟨(wrap64 (x5_1 + 1)), z91_, H', ⟨z94_⟩, z82_⟩
       ·rw [if_neg c7] at H
        have c7b0 : ((rd l0 x5_1) == (rd l1 x5_1)) = false := beq_eq_false_iff_ne.mpr c7
        have c7b1 : ((rd l0 x5_1) != (rd l1 x5_1)) = true := bne_iff_ne.mpr c7
        obtain rfl := Option.some.inj H
        have p534 : 0 ≤ (x5_1 : Int) := of_decide_eq_true z90_
        have q534 : x5_1 < (l0.length : Int) := of_decide_eq_true z90_
        obtain ⟨ad534, e534, hx534_0⟩ := Kd.at_int HR0.out x5_1 p534 q534
        cases e534
        replace p534 := eq_true p534
        replace q534 := eq_true q534
        have p535 : 0 ≤ (x5_1 : Int) := of_decide_eq_true z90_
        have q535 : x5_1 < (l1.length : Int) := of_decide_eq_true z90_
        obtain ⟨ad535, e535, hx535_0⟩ := Kd.at_int HR1.out x5_1 p535 q535
        cases e535
        replace p535 := eq_true p535
        replace q535 := eq_true q535
        go_wp2
        repeat (go_quiet (fail); try go_wp2)
        go_ret
        exact ⟨z81_, z82_⟩
      ·rw [if_neg c6] at H
       exact absurd H (by simp)
     ·rw [if_neg c5] at H
      exact absurd H (by simp)
    ·rw [if_neg c4] at H
     have c4b0 : decide (x5_1 < (l0.length : Int)) = false := decide_eq_false c4
     clear c4
     obtain rfl := Option.some.inj H
     go_wp2
     repeat (go_quiet (fail); try go_wp2)
     go_ret
     exact ⟨z81_, z82_⟩
 ·rw [if_neg c3] at H
  have c3b0 : ((l0.length : Int) == (l1.length : Int)) = false := beq_eq_false_iff_ne.mpr c3
  have c3b1 : ((l0.length : Int) != (l1.length : Int)) = true := bne_iff_ne.mpr c3
  have c3b2 : (l0.length == l1.length) = false := by first | simpa using c3 | (simp at c3 ⊢; omega)
  obtain rfl := Option.some.inj H
  go_enter Try.func58, Try.ntmps58
  go_wp2
  repeat (go_quiet (fail); try go_wp2)
  go_ret
  exact ⟨z81_, z82_⟩

/-! ### laws_likeForms9: function 25 -/
def laws_likeForms9.f (k : Nat) (a0_0 : Int) (a0_1 : Int) (l0_2 : List Int) (l0_3 : List Int) (l0_4 : List Int) (a1_0 : Int) (a1_1 : Int) (l1_2 : List Int) (l1_3 : List Int) (l1_4 : List Int) : Option (Bool) := if a0_0 = a1_0 then (if a0_1 = a1_1 then ((laws_likeInts.f k l0_2 l1_2).bind fun t538 => (if t538 = true then ((laws_likeInts.f k l0_3 l1_3).bind fun t539 => (if t539 = true then ((laws_likeInts.f k l0_4 l1_4).bind fun t540 => (some t540)) else (some false))) else (some false))) else (some false)) else (some false)
theorem laws_likeForms9.mono : ∀ a0 a1 a2 a3 a4 a5 a6 a7 a8 a9 k, LeO (laws_likeForms9.f k a0 a1 a2 a3 a4 a5 a6 a7 a8 a9) (laws_likeForms9.f (k + 1) a0 a1 a2 a3 a4 a5 a6 a7 a8 a9) := by
 intro a0 a1 a2 a3 a4 a5 a6 a7 a8 a9 k
 unfold laws_likeForms9.f
 repeat' first
   | (with_reducible exact laws_likeInts.mono _ _ _)
   | (with_reducible exact LeO.refl _)
   | (with_reducible exact LeO.none _)
   | (with_reducible refine LeO.ite ?_ ?_)
   | (with_reducible refine LeO.bind ?_ (fun _ => ?_))
   | exact laws_likeInts.mono _ _ _
   | exact LeO.none _
   | refine LeO.ite ?_ ?_
   | refine LeO.bind ?_ (fun _ => ?_)
set_option maxHeartbeats 8000000 in
set_option maxRecDepth 100000 in
theorem laws_likeForms9.calls (k : Nat) (a0_0 : Int) (a0_1 : Int) (A0_2 : Option Addr) (c0_2 : Nat) (l0_2 : List Int) (A0_3 : Option Addr) (c0_3 : Nat) (l0_3 : List Int) (A0_4 : Option Addr) (c0_4 : Nat) (l0_4 : List Int) (a1_0 : Int) (a1_1 : Int) (A1_2 : Option Addr) (c1_2 : Nat) (l1_2 : List Int) (A1_3 : Option Addr) (c1_3 : Nat) (l1_3 : List Int) (A1_4 : Option Addr) (c1_4 : Nat) (l1_4 : List Int) (r : Bool) (w : World) (hr0_2 : Kd.C (Kd.int .i64) w A0_2 l0_2.length l0_2) (hc0_2 : l0_2.length ≤ c0_2) (hr0_3 : Kd.C (Kd.int .i64) w A0_3 l0_3.length l0_3) (hc0_3 : l0_3.length ≤ c0_3) (hr0_4 : Kd.C (Kd.int .i64) w A0_4 l0_4.length l0_4) (hc0_4 : l0_4.length ≤ c0_4) (hr1_2 : Kd.C (Kd.int .i64) w A1_2 l1_2.length l1_2) (hc1_2 : l1_2.length ≤ c1_2) (hr1_3 : Kd.C (Kd.int .i64) w A1_3 l1_3.length l1_3) (hc1_3 : l1_3.length ≤ c1_3) (hr1_4 : Kd.C (Kd.int .i64) w A1_4 l1_4.length l1_4) (hc1_4 : l1_4.length ≤ c1_4) (h : laws_likeForms9.f k a0_0 a0_1 l0_2 l0_3 l0_4 a1_0 a1_1 l1_2 l1_3 l1_4 = some r) :
  Calls Try.prog 25 #[.agg #[.int .i64 a0_0, .int .i64 a0_1, .slice A0_2 l0_2.length c0_2, .slice A0_3 l0_3.length c0_3, .slice A0_4 l0_4.length c0_4], .agg #[.int .i64 a1_0, .int .i64 a1_1, .slice A1_2 l1_2.length c1_2, .slice A1_3 l1_3.length c1_3, .slice A1_4 l1_4.length c1_4]] w fun e w' => e = .returned (.bool r) ∧ Below w.heap.size w w' := by
 have hu27 := Try.underlying27
 have HR0_2 := Aside0.mk hr0_2
 have HC0_2 := Aside0.mk hc0_2
 clear hr0_2 hc0_2
 have HR0_3 := Aside0.mk hr0_3
 have HC0_3 := Aside0.mk hc0_3
 clear hr0_3 hc0_3
 have HR0_4 := Aside0.mk hr0_4
 have HC0_4 := Aside0.mk hc0_4
 clear hr0_4 hc0_4
 have HR1_2 := Aside0.mk hr1_2
 have HC1_2 := Aside0.mk hc1_2
 clear hr1_2 hc1_2
 have HR1_3 := Aside0.mk hr1_3
 have HC1_3 := Aside0.mk hc1_3
 clear hr1_3 hc1_3
 have HR1_4 := Aside0.mk hr1_4
 have HC1_4 := Aside0.mk hc1_4
 clear hr1_4 hc1_4
 have HB := a_ (Below.refl w.heap.size w)
 have H : (if a0_0 = a1_0 then (if a0_1 = a1_1 then ((laws_likeInts.f k l0_2 l1_2).bind fun t538 => (if t538 = true then ((laws_likeInts.f k l0_3 l1_3).bind fun t539 => (if t539 = true then ((laws_likeInts.f k l0_4 l1_4).bind fun t540 => (some t540)) else (some false))) else (some false))) else (some false)) else (some false)) = some r := h
 clear h
 by_cases c3 : a0_0 = a1_0
 ·rw [if_pos c3] at H
  have c3b0 : (a0_0 == a1_0) = true := beq_iff_eq.mpr c3
  have c3b1 : (a0_0 != a1_0) = false := bne_eq_false_iff_eq.mpr c3
  clear c3
  by_cases c4 : a0_1 = a1_1
  ·rw [if_pos c4] at H
   have c4b0 : (a0_1 == a1_1) = true := beq_iff_eq.mpr c4
   have c4b1 : (a0_1 != a1_1) = false := bne_eq_false_iff_eq.mpr c4
   clear c4
   replace H := Option.bind_eq_some_iff.mp H
   obtain ⟨t538, A50, H⟩ := H
   replace H : (if t538 = true then ((laws_likeInts.f k l0_3 l1_3).bind fun t539 => (if t539 = true then ((laws_likeInts.f k l0_4 l1_4).bind fun t540 => (some t540)) else (some false))) else (some false)) = some r := H
   have A5 := Aside0.mk A50
   clear A50
   by_cases c6 : t538 = true
   ·subst c6
    have H1 : ((laws_likeInts.f k l0_3 l1_3).bind fun t539 => (if t539 = true then ((laws_likeInts.f k l0_4 l1_4).bind fun t540 => (some t540)) else (some false))) = some r := by rw [if_pos rfl] at H; exact H
    clear H
    have H := H1
    clear H1
    replace H := Option.bind_eq_some_iff.mp H
    obtain ⟨t539, A70, H⟩ := H
    replace H : (if t539 = true then ((laws_likeInts.f k l0_4 l1_4).bind fun t540 => (some t540)) else (some false)) = some r := H
    have A7 := Aside0.mk A70
    clear A70
    by_cases c8 : t539 = true
    ·subst c8
     have H1 : ((laws_likeInts.f k l0_4 l1_4).bind fun t540 => (some t540)) = some r := by rw [if_pos rfl] at H; exact H
     clear H
     have H := H1
     clear H1
     replace H := Option.bind_eq_some_iff.mp H
     obtain ⟨t540, A90, H⟩ := H
     replace H : (some t540) = some r := H
     have A9 := Aside0.mk A90
     clear A90
     obtain rfl := Option.some.inj H
     go_enter Try.func25, Try.ntmps25
     go_wp2_with (first | ((with_reducible refine gate_dst (N := 2) rfl ?_); refine box_event ?hg (N := 2) ?hd (cs := #[.int .i64 a0_0, .int .i64 a0_1, .slice A0_2 l0_2.length c0_2, .slice A0_3 l0_3.length c0_3, .slice A0_4 l0_4.length c0_4]) (t := 27) ?hr ?_; (case hd => rfl); (case hg => rfl); (case hr => first | (go_simp; done) | (go_simp; rfl)); intro gb536 hg w10 hbox hb; have BK536 := a_ (hbox); have GW536 := a_ ((z53_ : w.heap.size ≤ gb536)); have GE536 := a_ ((z53_ : w.heap.size ≤ gb536)); replace HB := a_ (below_step z54_ hb); clear hb hbox hg) | ((with_reducible refine gate_dst (N := 3) rfl ?_); refine box_event ?hg (N := 3) ?hd (cs := #[.int .i64 a1_0, .int .i64 a1_1, .slice A1_2 l1_2.length c1_2, .slice A1_3 l1_3.length c1_3, .slice A1_4 l1_4.length c1_4]) (t := 27) ?hr ?_; (case hd => rfl); (case hg => rfl); (case hr => first | (go_simp; done) | (go_simp; rfl)); intro gb537 hg w11 hbox hb; have BK537 := a_ (hbox); have GW537 := a_ ((z32_ : w.heap.size ≤ gb537)); have GE537 := a_ ((z32_ : w.heap.size ≤ gb537)); replace HB := a_ (below_step z49_ hb); have NB536_537 := a_ ((z87_ : gb536 ≠ gb537)); have NB537_536 := a_ ((z88_ : gb537 ≠ gb536)); replace BK536 := a_ (blk_below (g := gb536) (rb_ BK536.out) hb); clear hb hbox hg; have hnb12 := NB536_537.out; have hnc12 := NB537_536.out; obtain ⟨hcz13_0, hcz13_1, hcz13_2, hcz13_3, hcz13_4, hfz13_0, hfz13_1, hfz13_2, hfz13_3, hfz13_4⟩ := cz5_ (w := w11) BK536.out; obtain ⟨hcz14_0, hcz14_1, hcz14_2, hcz14_3, hcz14_4, hfz14_0, hfz14_1, hfz14_2, hfz14_3, hfz14_4⟩ := cz5_ (w := w11) BK537.out) | (go_at_call 58; (with_reducible refine (laws_likeInts.calls k _ _ l0_2 _ _ l1_2 true _ ?side1 ?side2 ?side3 ?side4 A5.out).mono ?_); (case side1 => exact kc_ (Kd.C_below HR0_2.out HB.out)); (case side2 => exact HC0_2.out); (case side3 => exact kc_ (Kd.C_below HR1_2.out HB.out)); (case side4 => exact HC1_2.out); rintro e w' ⟨rfl, ⟨nd, rfl⟩⟩) | (go_at_call 58; (with_reducible refine (laws_likeInts.calls k _ _ l0_3 _ _ l1_3 true _ ?side1 ?side2 ?side3 ?side4 A7.out).mono ?_); (case side1 => exact (by (repeat (first | exact (Kd.C_below HR0_3.out z24_) | (with_reducible refine Kd.C_alloc ?_ _) | (with_reducible refine Kd.C_drewN ?_ _) | (with_reducible refine Kd.C_drew ?_))); first | done | fail)); (case side2 => exact HC0_3.out); (case side3 => exact (by (repeat (first | exact (Kd.C_below HR1_3.out z24_) | (with_reducible refine Kd.C_alloc ?_ _) | (with_reducible refine Kd.C_drewN ?_ _) | (with_reducible refine Kd.C_drew ?_))); first | done | fail)); (case side4 => exact HC1_3.out); rintro e w' ⟨rfl, ⟨nd, rfl⟩⟩) | (go_at_call 58; (with_reducible refine (laws_likeInts.calls k _ _ l0_4 _ _ l1_4 t540 _ ?side1 ?side2 ?side3 ?side4 A9.out).mono ?_); (case side1 => exact (by (repeat (first | exact (Kd.C_below HR0_4.out z24_) | (with_reducible refine Kd.C_alloc ?_ _) | (with_reducible refine Kd.C_drewN ?_ _) | (with_reducible refine Kd.C_drew ?_))); first | done | fail)); (case side2 => exact HC0_4.out); (case side3 => exact (by (repeat (first | exact (Kd.C_below HR1_4.out z24_) | (with_reducible refine Kd.C_alloc ?_ _) | (with_reducible refine Kd.C_drewN ?_ _) | (with_reducible refine Kd.C_drew ?_))); first | done | fail)); (case side4 => exact HC1_4.out); rintro e w' ⟨rfl, ⟨nd, rfl⟩⟩))
     go_ret
     exact ⟨z55_, z24_⟩
    ·replace c8 := Bool.eq_false_iff.mpr c8
     subst c8
     have H1 : (some false) = some r := by rw [if_neg (show ¬ (false = true) by decide)] at H; exact H
     clear H
     have H := H1
     clear H1
     obtain rfl := Option.some.inj H
     go_enter Try.func25, Try.ntmps25
     go_wp2_with (first | ((with_reducible refine gate_dst (N := 2) rfl ?_); refine box_event ?hg (N := 2) ?hd (cs := #[.int .i64 a0_0, .int .i64 a0_1, .slice A0_2 l0_2.length c0_2, .slice A0_3 l0_3.length c0_3, .slice A0_4 l0_4.length c0_4]) (t := 27) ?hr ?_; (case hd => rfl); (case hg => rfl); (case hr => first | (go_simp; done) | (go_simp; rfl)); intro gb536 hg w15 hbox hb; have BK536 := a_ (hbox); have GW536 := a_ ((z53_ : w.heap.size ≤ gb536)); have GE536 := a_ ((z53_ : w.heap.size ≤ gb536)); replace HB := a_ (below_step z54_ hb); clear hb hbox hg) | ((with_reducible refine gate_dst (N := 3) rfl ?_); refine box_event ?hg (N := 3) ?hd (cs := #[.int .i64 a1_0, .int .i64 a1_1, .slice A1_2 l1_2.length c1_2, .slice A1_3 l1_3.length c1_3, .slice A1_4 l1_4.length c1_4]) (t := 27) ?hr ?_; (case hd => rfl); (case hg => rfl); (case hr => first | (go_simp; done) | (go_simp; rfl)); intro gb537 hg w16 hbox hb; have BK537 := a_ (hbox); have GW537 := a_ ((z32_ : w.heap.size ≤ gb537)); have GE537 := a_ ((z32_ : w.heap.size ≤ gb537)); replace HB := a_ (below_step z49_ hb); have NB536_537 := a_ ((z87_ : gb536 ≠ gb537)); have NB537_536 := a_ ((z88_ : gb537 ≠ gb536)); replace BK536 := a_ (blk_below (g := gb536) (rb_ BK536.out) hb); clear hb hbox hg; have hnb17 := NB536_537.out; have hnc17 := NB537_536.out; obtain ⟨hcz18_0, hcz18_1, hcz18_2, hcz18_3, hcz18_4, hfz18_0, hfz18_1, hfz18_2, hfz18_3, hfz18_4⟩ := cz5_ (w := w16) BK536.out; obtain ⟨hcz19_0, hcz19_1, hcz19_2, hcz19_3, hcz19_4, hfz19_0, hfz19_1, hfz19_2, hfz19_3, hfz19_4⟩ := cz5_ (w := w16) BK537.out) | (go_at_call 58; (with_reducible refine (laws_likeInts.calls k _ _ l0_2 _ _ l1_2 true _ ?side1 ?side2 ?side3 ?side4 A5.out).mono ?_); (case side1 => exact kc_ (Kd.C_below HR0_2.out HB.out)); (case side2 => exact HC0_2.out); (case side3 => exact kc_ (Kd.C_below HR1_2.out HB.out)); (case side4 => exact HC1_2.out); rintro e w' ⟨rfl, ⟨nd, rfl⟩⟩) | (go_at_call 58; (with_reducible refine (laws_likeInts.calls k _ _ l0_3 _ _ l1_3 false _ ?side1 ?side2 ?side3 ?side4 A7.out).mono ?_); (case side1 => exact (by (repeat (first | exact (Kd.C_below HR0_3.out z24_) | (with_reducible refine Kd.C_alloc ?_ _) | (with_reducible refine Kd.C_drewN ?_ _) | (with_reducible refine Kd.C_drew ?_))); first | done | fail)); (case side2 => exact HC0_3.out); (case side3 => exact (by (repeat (first | exact (Kd.C_below HR1_3.out z24_) | (with_reducible refine Kd.C_alloc ?_ _) | (with_reducible refine Kd.C_drewN ?_ _) | (with_reducible refine Kd.C_drew ?_))); first | done | fail)); (case side4 => exact HC1_3.out); rintro e w' ⟨rfl, ⟨nd, rfl⟩⟩))
     go_ret
     exact ⟨z55_, z24_⟩
   ·replace c6 := Bool.eq_false_iff.mpr c6
    subst c6
    have H1 : (some false) = some r := by rw [if_neg (show ¬ (false = true) by decide)] at H; exact H
    clear H
    have H := H1
    clear H1
    obtain rfl := Option.some.inj H
    go_enter Try.func25, Try.ntmps25
    go_wp2_with (first | ((with_reducible refine gate_dst (N := 2) rfl ?_); refine box_event ?hg (N := 2) ?hd (cs := #[.int .i64 a0_0, .int .i64 a0_1, .slice A0_2 l0_2.length c0_2, .slice A0_3 l0_3.length c0_3, .slice A0_4 l0_4.length c0_4]) (t := 27) ?hr ?_; (case hd => rfl); (case hg => rfl); (case hr => first | (go_simp; done) | (go_simp; rfl)); intro gb536 hg w20 hbox hb; have BK536 := a_ (hbox); have GW536 := a_ ((z53_ : w.heap.size ≤ gb536)); have GE536 := a_ ((z53_ : w.heap.size ≤ gb536)); replace HB := a_ (below_step z54_ hb); clear hb hbox hg) | ((with_reducible refine gate_dst (N := 3) rfl ?_); refine box_event ?hg (N := 3) ?hd (cs := #[.int .i64 a1_0, .int .i64 a1_1, .slice A1_2 l1_2.length c1_2, .slice A1_3 l1_3.length c1_3, .slice A1_4 l1_4.length c1_4]) (t := 27) ?hr ?_; (case hd => rfl); (case hg => rfl); (case hr => first | (go_simp; done) | (go_simp; rfl)); intro gb537 hg w21 hbox hb; have BK537 := a_ (hbox); have GW537 := a_ ((z32_ : w.heap.size ≤ gb537)); have GE537 := a_ ((z32_ : w.heap.size ≤ gb537)); replace HB := a_ (below_step z49_ hb); have NB536_537 := a_ ((z87_ : gb536 ≠ gb537)); have NB537_536 := a_ ((z88_ : gb537 ≠ gb536)); replace BK536 := a_ (blk_below (g := gb536) (rb_ BK536.out) hb); clear hb hbox hg; have hnb22 := NB536_537.out; have hnc22 := NB537_536.out; obtain ⟨hcz23_0, hcz23_1, hcz23_2, hcz23_3, hcz23_4, hfz23_0, hfz23_1, hfz23_2, hfz23_3, hfz23_4⟩ := cz5_ (w := w21) BK536.out; obtain ⟨hcz24_0, hcz24_1, hcz24_2, hcz24_3, hcz24_4, hfz24_0, hfz24_1, hfz24_2, hfz24_3, hfz24_4⟩ := cz5_ (w := w21) BK537.out) | (go_at_call 58; (with_reducible refine (laws_likeInts.calls k _ _ l0_2 _ _ l1_2 false _ ?side1 ?side2 ?side3 ?side4 A5.out).mono ?_); (case side1 => exact kc_ (Kd.C_below HR0_2.out HB.out)); (case side2 => exact HC0_2.out); (case side3 => exact kc_ (Kd.C_below HR1_2.out HB.out)); (case side4 => exact HC1_2.out); rintro e w' ⟨rfl, ⟨nd, rfl⟩⟩))
    go_ret
    exact ⟨z55_, z24_⟩
  ·rw [if_neg c4] at H
   have c4b0 : (a0_1 == a1_1) = false := beq_eq_false_iff_ne.mpr c4
   have c4b1 : (a0_1 != a1_1) = true := bne_iff_ne.mpr c4
   obtain rfl := Option.some.inj H
   go_enter Try.func25, Try.ntmps25
   go_wp2_with (first | ((with_reducible refine gate_dst (N := 2) rfl ?_); refine box_event ?hg (N := 2) ?hd (cs := #[.int .i64 a0_0, .int .i64 a0_1, .slice A0_2 l0_2.length c0_2, .slice A0_3 l0_3.length c0_3, .slice A0_4 l0_4.length c0_4]) (t := 27) ?hr ?_; (case hd => rfl); (case hg => rfl); (case hr => first | (go_simp; done) | (go_simp; rfl)); intro gb536 hg w25 hbox hb; have BK536 := a_ (hbox); have GW536 := a_ ((z53_ : w.heap.size ≤ gb536)); have GE536 := a_ ((z53_ : w.heap.size ≤ gb536)); replace HB := a_ (below_step z54_ hb); clear hb hbox hg) | ((with_reducible refine gate_dst (N := 3) rfl ?_); refine box_event ?hg (N := 3) ?hd (cs := #[.int .i64 a1_0, .int .i64 a1_1, .slice A1_2 l1_2.length c1_2, .slice A1_3 l1_3.length c1_3, .slice A1_4 l1_4.length c1_4]) (t := 27) ?hr ?_; (case hd => rfl); (case hg => rfl); (case hr => first | (go_simp; done) | (go_simp; rfl)); intro gb537 hg w26 hbox hb; have BK537 := a_ (hbox); have GW537 := a_ ((z32_ : w.heap.size ≤ gb537)); have GE537 := a_ ((z32_ : w.heap.size ≤ gb537)); replace HB := a_ (below_step z49_ hb); have NB536_537 := a_ ((z87_ : gb536 ≠ gb537)); have NB537_536 := a_ ((z88_ : gb537 ≠ gb536)); replace BK536 := a_ (blk_below (g := gb536) (rb_ BK536.out) hb); clear hb hbox hg; have hnb27 := NB536_537.out; have hnc27 := NB537_536.out; obtain ⟨hcz28_0, hcz28_1, hcz28_2, hcz28_3, hcz28_4, hfz28_0, hfz28_1, hfz28_2, hfz28_3, hfz28_4⟩ := cz5_ (w := w26) BK536.out; obtain ⟨hcz29_0, hcz29_1, hcz29_2, hcz29_3, hcz29_4, hfz29_0, hfz29_1, hfz29_2, hfz29_3, hfz29_4⟩ := cz5_ (w := w26) BK537.out))
   go_ret
   exact ⟨z55_, z24_⟩
 ·rw [if_neg c3] at H
  have c3b0 : (a0_0 == a1_0) = false := beq_eq_false_iff_ne.mpr c3
  have c3b1 : (a0_0 != a1_0) = true := bne_iff_ne.mpr c3
  obtain rfl := Option.some.inj H
  go_enter Try.func25, Try.ntmps25
  go_wp2_with (first | ((with_reducible refine gate_dst (N := 2) rfl ?_); refine box_event ?hg (N := 2) ?hd (cs := #[.int .i64 a0_0, .int .i64 a0_1, .slice A0_2 l0_2.length c0_2, .slice A0_3 l0_3.length c0_3, .slice A0_4 l0_4.length c0_4]) (t := 27) ?hr ?_; (case hd => rfl); (case hg => rfl); (case hr => first | (go_simp; done) | (go_simp; rfl)); intro gb536 hg w30 hbox hb; have BK536 := a_ (hbox); have GW536 := a_ ((z53_ : w.heap.size ≤ gb536)); have GE536 := a_ ((z53_ : w.heap.size ≤ gb536)); replace HB := a_ (below_step z54_ hb); clear hb hbox hg) | ((with_reducible refine gate_dst (N := 3) rfl ?_); refine box_event ?hg (N := 3) ?hd (cs := #[.int .i64 a1_0, .int .i64 a1_1, .slice A1_2 l1_2.length c1_2, .slice A1_3 l1_3.length c1_3, .slice A1_4 l1_4.length c1_4]) (t := 27) ?hr ?_; (case hd => rfl); (case hg => rfl); (case hr => first | (go_simp; done) | (go_simp; rfl)); intro gb537 hg w31 hbox hb; have BK537 := a_ (hbox); have GW537 := a_ ((z32_ : w.heap.size ≤ gb537)); have GE537 := a_ ((z32_ : w.heap.size ≤ gb537)); replace HB := a_ (below_step z49_ hb); have NB536_537 := a_ ((z87_ : gb536 ≠ gb537)); have NB537_536 := a_ ((z88_ : gb537 ≠ gb536)); replace BK536 := a_ (blk_below (g := gb536) (rb_ BK536.out) hb); clear hb hbox hg; have hnb32 := NB536_537.out; have hnc32 := NB537_536.out; obtain ⟨hcz33_0, hcz33_1, hcz33_2, hcz33_3, hcz33_4, hfz33_0, hfz33_1, hfz33_2, hfz33_3, hfz33_4⟩ := cz5_ (w := w31) BK536.out; obtain ⟨hcz34_0, hcz34_1, hcz34_2, hcz34_3, hcz34_4, hfz34_0, hfz34_1, hfz34_2, hfz34_3, hfz34_4⟩ := cz5_ (w := w31) BK537.out))
  go_ret
  exact ⟨z55_, z24_⟩

end Go.Proofs.Ytkpidjmhdagkfaa.QFnPagePlaces
-- halved
