-- Written by own_print.py of this session's repo over the kit's print (its output, turned at some places).
import Derived.Test.YtkpidjmhdagkfaaQFnPagePlacesx0
import Derived.Test.YtkpidjmhdagkfaaQFnPagePlacesx2
import Derived.Test.YtkpidjmhdagkfaaQFnPagePlacesx6
namespace Go.Proofs.Ytkpidjmhdagkfaa.QFnPagePlaces
open Go.RowKit Go.Proofs.YtkpidjmhdagkfaaW.PrintWords Go.Proofs.YtkpidjmhdagkfaaW.PrintLast Go.Proofs.YtkpidjmhdagkfaaW.PrintMore
attribute [local go_sem] max2_int min2_int max_two min_two max_three min_three max_four min_four   -- for this text's walks alone
set_option linter.unusedVariables false
set_option linter.unusedSimpArgs false

/-! ### impl_TurnForm: function 17 -/
mutual
def impl_TurnForm.l0 : Nat → Int → Int → Int → Int → List Int → List Int → List Int → Int → Int → List Int → List Int → List Int → Option (Int × Int × List Int × List Int × List Int × Int)
 | 0, _, _, _, _, _, _, _, _, _, _, _, _ => none
 | k + 1, x23, x24, x191000, x191001, x191002, x191003, x191004, x200000, x200001, x200002, x200003, x200004 => if x24 < x23 then (impl_TurnForm.l1 k x24 x23 x24 x191000 0 x191000 x191001 x191002 x191003 x191004 x200000 x200001 x200002 x200003 x200004) else (some (x200000, x200001, x200002, x200003, x200004, 0))
def impl_TurnForm.l1 : Nat → Int → Int → Int → Int → Int → Int → Int → List Int → List Int → List Int → Int → Int → List Int → List Int → List Int → Option (Int × Int × List Int × List Int × List Int × Int)
 | 0, _, _, _, _, _, _, _, _, _, _, _, _, _, _, _ => none
 | k + 1, x5, x23, x24, x28, x29, x191000, x191001, x191002, x191003, x191004, x200000, x200001, x200002, x200003, x200004 => if x29 < x28 then ((impl_backPlace.f x191000 x29 x5).bind fun t200 => (if 0 ≤ t200 then (if t200 < (x191004.length : Int) then (if x200004.length < 17592186044416 then (impl_TurnForm.l1 k x5 x23 x24 x28 (wrap64 (x29 + 1)) x191000 x191001 x191002 x191003 x191004 x200000 x200001 x200002 x200003 (x200004 ++ [rd x191004 t200])) else (none)) else (none)) else (none))) else (impl_TurnForm.l0 k x23 (wrap64 (x24 + 1)) x191000 x191001 x191002 x191003 x191004 x200000 x200001 x200002 x200003 x200004)
end
def impl_TurnForm.f (k : Nat) (a0_0 : Int) (a0_1 : Int) (l0_2 : List Int) (l0_3 : List Int) (l0_4 : List Int) : Option (Int × Int × List Int × List Int × List Int × Int) := (impl_IsForm.f k a0_0 a0_1 l0_2 l0_3 l0_4).bind fun t192 => (if t192 = true then ((slices_Clone_int64_int64.f l0_3).bind fun t193 => ((slices_Clone_int64_int64.f l0_2).bind fun t196 => (impl_TurnForm.l0 k a0_1 0 a0_0 a0_1 l0_2 l0_3 l0_4 a0_0 a0_1 t193 t196 ([] : List Int)))) else (some (0, 0, ([] : List Int), ([] : List Int), ([] : List Int), 1)))
theorem impl_TurnForm.mono_l : ∀ k, (∀ y0 y1 y2 y3 y4 y5 y6 y7 y8 y9 y10 y11, LeO (impl_TurnForm.l0 k y0 y1 y2 y3 y4 y5 y6 y7 y8 y9 y10 y11) (impl_TurnForm.l0 (k + 1) y0 y1 y2 y3 y4 y5 y6 y7 y8 y9 y10 y11)) ∧ (∀ y0 y1 y2 y3 y4 y5 y6 y7 y8 y9 y10 y11 y12 y13 y14, LeO (impl_TurnForm.l1 k y0 y1 y2 y3 y4 y5 y6 y7 y8 y9 y10 y11 y12 y13 y14) (impl_TurnForm.l1 (k + 1) y0 y1 y2 y3 y4 y5 y6 y7 y8 y9 y10 y11 y12 y13 y14))
 | 0 => ⟨fun _ _ _ _ _ _ _ _ _ _ _ _ r h => by simp [impl_TurnForm.l0] at h, fun _ _ _ _ _ _ _ _ _ _ _ _ _ _ _ r h => by simp [impl_TurnForm.l1] at h⟩
 | k + 1 => by
  obtain ⟨ih0, ih1⟩ := impl_TurnForm.mono_l k
  refine ⟨?_, ?_⟩
  ·intro y0 y1 y2 y3 y4 y5 y6 y7 y8 y9 y10 y11
   unfold impl_TurnForm.l0
   repeat' first
   | (with_reducible exact ih0 _ _ _ _ _ _ _ _ _ _ _ _)
   | (with_reducible exact ih1 _ _ _ _ _ _ _ _ _ _ _ _ _ _ _)
   | (with_reducible exact impl_IsForm.mono _ _ _ _ _ _)
   | (with_reducible exact LeO.refl _)
   | (with_reducible exact LeO.none _)
   | (with_reducible refine LeO.ite ?_ ?_)
   | (with_reducible refine LeO.bind ?_ (fun _ => ?_))
   | exact ih0 _ _ _ _ _ _ _ _ _ _ _ _
   | exact ih1 _ _ _ _ _ _ _ _ _ _ _ _ _ _ _
   | exact impl_IsForm.mono _ _ _ _ _ _
   | exact LeO.none _
   | refine LeO.ite ?_ ?_
   | refine LeO.bind ?_ (fun _ => ?_)
  ·intro y0 y1 y2 y3 y4 y5 y6 y7 y8 y9 y10 y11 y12 y13 y14
   unfold impl_TurnForm.l1
   repeat' first
   | (with_reducible exact ih0 _ _ _ _ _ _ _ _ _ _ _ _)
   | (with_reducible exact ih1 _ _ _ _ _ _ _ _ _ _ _ _ _ _ _)
   | (with_reducible exact impl_IsForm.mono _ _ _ _ _ _)
   | (with_reducible exact LeO.refl _)
   | (with_reducible exact LeO.none _)
   | (with_reducible refine LeO.ite ?_ ?_)
   | (with_reducible refine LeO.bind ?_ (fun _ => ?_))
   | exact ih0 _ _ _ _ _ _ _ _ _ _ _ _
   | exact ih1 _ _ _ _ _ _ _ _ _ _ _ _ _ _ _
   | exact impl_IsForm.mono _ _ _ _ _ _
   | exact LeO.none _
   | refine LeO.ite ?_ ?_
   | refine LeO.bind ?_ (fun _ => ?_)
theorem impl_TurnForm.mono : ∀ a0 a1 a2 a3 a4 k, LeO (impl_TurnForm.f k a0 a1 a2 a3 a4) (impl_TurnForm.f (k + 1) a0 a1 a2 a3 a4) := by
 intro a0 a1 a2 a3 a4 k
 obtain ⟨ih0, ih1⟩ := impl_TurnForm.mono_l k
 unfold impl_TurnForm.f
 repeat' first
   | (with_reducible exact ih0 _ _ _ _ _ _ _ _ _ _ _ _)
   | (with_reducible exact ih1 _ _ _ _ _ _ _ _ _ _ _ _ _ _ _)
   | (with_reducible exact impl_IsForm.mono _ _ _ _ _ _)
   | (with_reducible exact LeO.refl _)
   | (with_reducible exact LeO.none _)
   | (with_reducible refine LeO.ite ?_ ?_)
   | (with_reducible refine LeO.bind ?_ (fun _ => ?_))
   | exact ih0 _ _ _ _ _ _ _ _ _ _ _ _
   | exact ih1 _ _ _ _ _ _ _ _ _ _ _ _ _ _ _
   | exact impl_IsForm.mono _ _ _ _ _ _
   | exact LeO.none _
   | refine LeO.ite ?_ ?_
   | refine LeO.bind ?_ (fun _ => ?_)
def impl_TurnForm.T3 : Bool × List (List Nat × List Nat) := (true, [([], []), ([0], [0]), ([], []), ([2], [2]), ([], []), ([4], [4]), ([5], [5]), ([], []), ([7], [7]), ([8, 6], [8]), ([1, 3, 6, 9], [1, 3, 6, 9]), ([], []), ([11, 10, 9, 0, 1, 2, 3, 4, 5, 6, 7, 8, 9, 10, 11], [10, 11])])
def impl_TurnForm.B3 : List Nat := [0, 1, 0, 4, 0, 16, 48, 0, 128, 496, 1023, 0, 4095]
theorem impl_TurnForm.tab3 : rtab .any (opsOf Try.f17 3) = impl_TurnForm.T3 := by kernel_rfl
theorem impl_TurnForm.bits3 : waitsOk impl_TurnForm.T3.2 impl_TurnForm.B3 = true := by kernel_rfl
def impl_TurnForm.T10 : Bool × List (List Nat × List Nat) := (true, [([], []), ([0], [0]), ([], []), ([2], [2]), ([], []), ([4], [4]), ([], []), ([], []), ([5, 6, 7], [5, 6, 7]), ([3, 8], [3, 8]), ([9], [9]), ([10], [10]), ([1, 11, 8], [1, 11]), ([0, 1, 2, 3, 4, 5, 6, 7, 8, 9, 10, 11, 12], []), ([13, 12, 12, 0, 1, 2, 3, 4, 5, 6, 7, 8, 9, 10, 11, 12], [12, 13])])
def impl_TurnForm.B10 : List Nat := [0, 1, 0, 4, 0, 16, 0, 0, 240, 508, 1020, 2044, 4095, 8191, 16383]
theorem impl_TurnForm.tab10 : rtab .any (opsOf Try.f17 10) = impl_TurnForm.T10 := by kernel_rfl
theorem impl_TurnForm.bits10 : waitsOk impl_TurnForm.T10.2 impl_TurnForm.B10 = true := by kernel_rfl
set_option maxHeartbeats 8000000 in
set_option maxRecDepth 100000 in
theorem impl_TurnForm.calls (k : Nat) (a0_0 : Int) (a0_1 : Int) (A0_2 : Option Addr) (c0_2 : Nat) (l0_2 : List Int) (A0_3 : Option Addr) (c0_3 : Nat) (l0_3 : List Int) (A0_4 : Option Addr) (c0_4 : Nat) (l0_4 : List Int) (r1 : Int) (r2 : Int) (r3 : List Int) (r4 : List Int) (r5 : List Int) (r6 : Int) (w : World) (hr0_2 : Kd.C (Kd.int .i64) w A0_2 l0_2.length l0_2) (hc0_2 : l0_2.length ≤ c0_2) (hr0_3 : Kd.C (Kd.int .i64) w A0_3 l0_3.length l0_3) (hc0_3 : l0_3.length ≤ c0_3) (hr0_4 : Kd.C (Kd.int .i64) w A0_4 l0_4.length l0_4) (hc0_4 : l0_4.length ≤ c0_4) (h : impl_TurnForm.f k a0_0 a0_1 l0_2 l0_3 l0_4 = some (r1, r2, r3, r4, r5, r6)) :
  Calls Try.prog 17 #[.agg #[.int .i64 a0_0, .int .i64 a0_1, .slice A0_2 l0_2.length c0_2, .slice A0_3 l0_3.length c0_3, .slice A0_4 l0_4.length c0_4]] w fun e w' => ∃ v2_ v3_ v4_ : Value, e = .returned (.tuple #[.agg #[.int .i64 r1, .int .i64 r2, v2_, v3_, v4_], .int .i64 r6]) ∧ Kd.R (Kd.int .i64) 2 w' w.heap.size (fun k_ => some k_ ≠ (v3_ : Value).ownBlock ∧ some k_ ≠ (v4_ : Value).ownBlock) v2_ r3 ∧ Kd.R (Kd.int .i64) 2 w' w.heap.size (fun k_ => some k_ ≠ (v2_ : Value).ownBlock ∧ some k_ ≠ (v4_ : Value).ownBlock) v3_ r4 ∧ Kd.R (Kd.int .i64) 2 w' w.heap.size (fun k_ => some k_ ≠ (v2_ : Value).ownBlock ∧ some k_ ≠ (v3_ : Value).ownBlock) v4_ r5 ∧ Below w.heap.size w w' := by
 have hu27 := Try.underlying27
 have HR0_2 := Aside0.mk hr0_2
 have HC0_2 := Aside0.mk hc0_2
 clear hr0_2 hc0_2
 have HR0_3 := Aside0.mk hr0_3
 have HC0_3 := Aside0.mk hc0_3
 clear hr0_3 hc0_3
 have HR0_4 := Aside0.mk hr0_4
 have HC0_4 := Aside0.mk hc0_4
 clear hr0_4 hc0_4
 have HB := a_ (Below.refl w.heap.size w)
 have H : ((impl_IsForm.f k a0_0 a0_1 l0_2 l0_3 l0_4).bind fun t192 => (if t192 = true then ((slices_Clone_int64_int64.f l0_3).bind fun t193 => ((slices_Clone_int64_int64.f l0_2).bind fun t196 => (impl_TurnForm.l0 k a0_1 0 a0_0 a0_1 l0_2 l0_3 l0_4 a0_0 a0_1 t193 t196 ([] : List Int)))) else (some (0, 0, ([] : List Int), ([] : List Int), ([] : List Int), 1)))) = some (r1, r2, r3, r4, r5, r6) := h
 clear h
 replace H := Option.bind_eq_some_iff.mp H
 obtain ⟨t192, A20, H⟩ := H
 replace H : (if t192 = true then ((slices_Clone_int64_int64.f l0_3).bind fun t193 => ((slices_Clone_int64_int64.f l0_2).bind fun t196 => (impl_TurnForm.l0 k a0_1 0 a0_0 a0_1 l0_2 l0_3 l0_4 a0_0 a0_1 t193 t196 ([] : List Int)))) else (some (0, 0, ([] : List Int), ([] : List Int), ([] : List Int), 1))) = some (r1, r2, r3, r4, r5, r6) := H
 have A2 := Aside0.mk A20
 clear A20
 by_cases c3 : t192 = true
 ·subst c3
  have H1 : ((slices_Clone_int64_int64.f l0_3).bind fun t193 => ((slices_Clone_int64_int64.f l0_2).bind fun t196 => (impl_TurnForm.l0 k a0_1 0 a0_0 a0_1 l0_2 l0_3 l0_4 a0_0 a0_1 t193 t196 ([] : List Int)))) = some (r1, r2, r3, r4, r5, r6) := by rw [if_pos rfl] at H; exact H
  clear H
  have H := H1
  clear H1
  replace H := Option.bind_eq_some_iff.mp H
  obtain ⟨t193, A40, H⟩ := H
  replace H : ((slices_Clone_int64_int64.f l0_2).bind fun t196 => (impl_TurnForm.l0 k a0_1 0 a0_0 a0_1 l0_2 l0_3 l0_4 a0_0 a0_1 t193 t196 ([] : List Int))) = some (r1, r2, r3, r4, r5, r6) := H
  have A4 := Aside0.mk A40
  clear A40
  replace H := Option.bind_eq_some_iff.mp H
  obtain ⟨t196, A50, H⟩ := H
  replace H : (impl_TurnForm.l0 k a0_1 0 a0_0 a0_1 l0_2 l0_3 l0_4 a0_0 a0_1 t193 t196 ([] : List Int)) = some (r1, r2, r3, r4, r5, r6) := H
  have A5 := Aside0.mk A50
  clear A50
  have H' := Aside0.mk H
  clear H
  go_enter Try.func17, Try.ntmps17
  try go_wp2_with (first | ((with_reducible refine gate_dst (N := 1) rfl ?_); refine box_event ?hg (N := 1) ?hd (cs := #[.int .i64 a0_0, .int .i64 a0_1, .slice A0_2 l0_2.length c0_2, .slice A0_3 l0_3.length c0_3, .slice A0_4 l0_4.length c0_4]) (t := 27) ?hr ?_; (case hd => rfl); (case hg => rfl); (case hr => first | (go_simp; done) | (go_simp; rfl)); intro gb190 hg w6 hbox hb; have BK190 := a_ (hbox); have GW190 := a_ ((z53_ : w.heap.size ≤ gb190)); have GE190 := a_ ((z53_ : w.heap.size ≤ gb190)); replace HB := a_ (below_step z54_ hb); clear hb hbox hg) | ((with_reducible refine gate_dst (N := 2) rfl ?_); refine box_event ?hg (N := 2) ?hd (cs := #[.int .i64 0, .int .i64 0, .slice none 0 0, .slice none 0 0, .slice none 0 0]) (t := 27) ?hr ?_; (case hd => rfl); (case hg => rfl); (case hr => first | (go_simp; done) | (go_simp; rfl)); intro gb191 hg w7 hbox hb; have BK191 := a_ (hbox); have GW191 := a_ ((z30_ : w.heap.size ≤ gb191)); have GE191 := a_ ((z30_ : w.heap.size ≤ gb191)); replace HB := a_ (below_step z44_ hb); have NB190_191 := a_ ((z83_ : gb190 ≠ gb191)); have NB191_190 := a_ ((z84_ : gb191 ≠ gb190)); replace BK190 := a_ (blk_below (g := gb190) (rb_ BK190.out) hb); clear hb hbox hg; have hnb8 := NB190_191.out; have hnc8 := NB191_190.out; obtain ⟨hcz9_0, hcz9_1, hcz9_2, hcz9_3, hcz9_4, hfz9_0, hfz9_1, hfz9_2, hfz9_3, hfz9_4⟩ := cz5_ (w := w7) BK190.out) | ((with_reducible refine gate_callee (f := 12) rfl ?_); refine goesL_ (some 8) rfl rfl Try.func12 (by kernel_rfl) rfl #[.agg #[.int .i64 a0_0, .int .i64 a0_1, .slice A0_2 l0_2.length c0_2, .slice A0_3 l0_3.length c0_3, .slice A0_4 l0_4.length c0_4]] rfl z57_ ?_; (with_reducible refine (impl_IsForm.calls k a0_0 a0_1 (fun k_ => k_ < w.heap.size) _ _ l0_2 (fun k_ => k_ < w.heap.size) _ _ l0_3 _ _ l0_4 true _ ?side1 ?side2 ?side3 ?side4 A2.out).mono ?_); (case side1 => exact Kd.V_mk HC0_2.out (Kd.F_below (Kd.C_F (Kd.heap_int .i64) HR0_2.out) z22_)); (case side2 => exact Kd.V_mk HC0_3.out (Kd.F_below (Kd.C_F (Kd.heap_int .i64) HR0_3.out) z22_)); (case side3 => exact kc_ (Kd.C_below HR0_4.out HB.out)); (case side4 => exact HC0_4.out); rintro e w10 ⟨rfl, hb⟩; refine ⟨_, rfl, ?_⟩; replace BK190 := a_ (blk_below (g := gb190) (rb_ BK190.out) hb); replace BK191 := a_ (blk_below (g := gb191) (rb_ BK191.out) hb); replace HB := a_ (below_step z22_ hb); (try clear hb); (try clear hb2); (try clear hk); (try clear hi)))
  replace BK190 := a_ (blk_drew BK190.out)
  replace BK191 := a_ (blk_drew BK191.out)
  replace HB := a_ (below_drew1 HB.out)
  refine start_ (n := 13) (S := fun w' => w'.cell? ⟨gb190, 0, none⟩ = some (.int .i64 a0_0) ∧ w'.cell? ⟨gb190, 1, none⟩ = some (.int .i64 a0_1) ∧ w'.cell? ⟨gb190, 2, none⟩ = some (.slice A0_2 l0_2.length c0_2) ∧ w'.cell? ⟨gb190, 3, none⟩ = some (.slice A0_3 l0_3.length c0_3) ∧ w'.cell? ⟨gb190, 4, none⟩ = some (.slice A0_4 l0_4.length c0_4)) (ds := []) #[false, false, false, false, false, false, false, false, false, false, false, false, false] (by kernel_rfl) rfl rfl ⟨(blk_cell BK190.out 0).trans rfl, (blk_cell BK190.out 1).trans rfl, (blk_cell BK190.out 2).trans rfl, (blk_cell BK190.out 3).trans rfl, (blk_cell BK190.out 4).trans rfl⟩ (fun hHeld => ?_); refine with_tabW impl_TurnForm.tab3 impl_TurnForm.bits3 (fun HT_ HW_ => ?_)
  generalize w10.drew = w11 at BK190 BK191 HB hHeld ⊢
  refine pu_ (i := 0) (N := some 11) (bs_ 13 1) ?_
  refine pu_ (i := 2) (N := some 13) (bs_ 13 5) ?_
  refine pu_ (i := 4) (N := some 15) (bs_ 13 21) ?_
  refine pu_ (i := 7) (N := some 18) (bs_ 13 149) ?_
  refine tk5_ (i := 1) (N := some 12) (bs_ 13 151) hHeld ?_
  refine tk5_ (i := 3) (N := some 14) (bs_ 13 159) hHeld ?_
  refine tk5_ (i := 5) (N := some 16) (bs_ 13 191) hHeld ?_
  refine tk5_ (i := 8) (N := some 19) (bs_ 13 447) hHeld ?_
  refine join_ (σ := Value × Value × Nat) 1 #[true, true, true, true, true, true, true, true, true, true, true, true, false] (fun s_ => [(17, s_.1), (20, s_.2.1), (4, .pointer (some ⟨s_.2.2, 0, none⟩)), (21, .agg #[.int .i64 a0_0, .int .i64 a0_1, s_.1, s_.2.1, .slice none 0 0])]) (fun s_ w' => (w'.cell? ⟨gb190, 0, none⟩ = some (.int .i64 a0_0) ∧ w'.cell? ⟨gb190, 1, none⟩ = some (.int .i64 a0_1) ∧ w'.cell? ⟨gb190, 2, none⟩ = some (.slice A0_2 l0_2.length c0_2) ∧ w'.cell? ⟨gb190, 3, none⟩ = some (.slice A0_3 l0_3.length c0_3) ∧ w'.cell? ⟨gb190, 4, none⟩ = some (.slice A0_4 l0_4.length c0_4)) ∧ (Kd.R (Kd.int .i64) 2 w' w.heap.size (fun k_ => some k_ ≠ (s_.2.1 : Value).ownBlock) s_.1 t193) ∧ (Kd.R (Kd.int .i64) 2 w' w.heap.size (fun k_ => some k_ ≠ (s_.1 : Value).ownBlock) s_.2.1 t196) ∧ (w'.heap[gb190]? = some (.cells #[.int .i64 a0_0, .int .i64 a0_1, .slice A0_2 l0_2.length c0_2, .slice A0_3 l0_3.length c0_3, .slice A0_4 l0_4.length c0_4] 27 (0, 0))) ∧ (w'.heap[gb191]? = some (.cells #[.int .i64 0, .int .i64 0, .slice none 0 0, .slice none 0 0, .slice none 0 0] 27 (0, 0))) ∧ (w'.heap[s_.2.2]? = some (.cells #[.int .i64 0, .int .i64 0, .slice none 0 0, .slice none 0 0, .slice none 0 0] 27 (0, 0))) ∧ (w.heap.size ≤ s_.2.2) ∧ (w.heap.size ≤ s_.2.2) ∧ (gb190 ≠ s_.2.2) ∧ (s_.2.2 ≠ gb190) ∧ (gb191 ≠ s_.2.2) ∧ (s_.2.2 ≠ gb191) ∧ (Below w.heap.size w w')) ?_ ?_
  rotate_left
  ·intro hCont
   refine two_ (i := 6) (j := 11) (Ni := some 17) (Nj := some 4) #[true, true, true, true, true, true, true, true, true, false, false, false, false] #[true, true, true, true, true, true, false, true, true, false, false, true, false] rfl rfl rfl rfl (two_of HT_.out (by kernel_rfl)) (by decide) (by decide) (fun K hK => ?_) (fun K hK => ?_)
   ·skip
    refine goes_ Try.func48 (by kernel_rfl) rfl #[.slice A0_3 l0_3.length c0_3] (by rfl) rfl rfl z57_ ?_
    with_reducible refine (slices_Clone_int64_int64.calls _ _ l0_3 t193 _ ?side1 ?side2 A4.out).mono ?_
    (case side1 => exact kc_ (Kd.C_below HR0_3.out HB.out))
    (case side2 => exact HC0_3.out)
    rintro e w12 ⟨v194, rfl, ho0, hb⟩
    refine ⟨_, rfl, ?_⟩
    have HO195 := a_ (Kd.R_lower ho0 (below_size z22_))
    replace BK190 := a_ (blk_below (g := gb190) (rb_ BK190.out) hb)
    replace BK191 := a_ (blk_below (g := gb191) (rb_ BK191.out) hb)
    replace HB := a_ (below_step z22_ hb)
    (try clear hb)
    (try clear hb2)
    (try clear hk)
    (try clear hi)
    (try clear ho0)
    refine hK.out _ _ ⟨(blk_cell BK190.out 0).trans rfl, (blk_cell BK190.out 1).trans rfl, (blk_cell BK190.out 2).trans rfl, (blk_cell BK190.out 3).trans rfl, (blk_cell BK190.out 4).trans rfl⟩ (fun hHeld => ?_)
    clear hK K
    refine nm_ ?_
    refine two_ (i := 9) (j := 11) (Ni := some 20) (Nj := some 4) #[true, true, true, true, true, true, true, true, true, true, false, false, false] #[true, true, true, true, true, true, true, true, true, false, false, true, false] rfl rfl rfl rfl (two_of HT_.out (by kernel_rfl)) (by decide) (by decide) (fun K hK => ?_) (fun K hK => ?_)
    ·skip
     refine goes_ Try.func48 (by kernel_rfl) rfl #[.slice A0_2 l0_2.length c0_2] (by rfl) rfl rfl z57_ ?_
     with_reducible refine (slices_Clone_int64_int64.calls _ _ l0_2 t196 _ ?side1 ?side2 A5.out).mono ?_
     (case side1 => exact kc_ (Kd.C_below HR0_2.out HB.out))
     (case side2 => exact HC0_2.out)
     rintro e w13 ⟨v197, rfl, ho0, hb⟩
     refine ⟨_, rfl, ?_⟩
     have HO198 := a_ (Kd.R_lower (Kd.R_new' ho0 (Kd.R_lt (ra_ HO195.out))) (below_size z22_))
     replace HO195 := a_ (Kd.R_elder' (ra_ HO195.out) (Kd.R_base ho0) hb)
     replace BK190 := a_ (blk_below (g := gb190) (rb_ BK190.out) hb)
     replace BK191 := a_ (blk_below (g := gb191) (rb_ BK191.out) hb)
     replace HB := a_ (below_step z22_ hb)
     (try clear hb)
     (try clear hb2)
     (try clear hk)
     (try clear hi)
     (try clear ho0)
     obtain ⟨Ao14, co14, eo14⟩ := Kd.R_slice HO198.out
     (first | subst eo14 | (injection eo14 with f1_ f2_ f3_; have f4_ := f1_.symm; have f5_ := f3_.symm; clear f1_ f2_ f3_; subst f4_; subst f5_))
     obtain ⟨Ao15, co15, eo15⟩ := Kd.R_slice HO195.out
     (first | subst eo15 | (injection eo15 with f1_ f2_ f3_; have f4_ := f1_.symm; have f5_ := f3_.symm; clear f1_ f2_ f3_; subst f4_; subst f5_))
     refine hK.out _ _ ⟨(blk_cell BK190.out 0).trans rfl, (blk_cell BK190.out 1).trans rfl, (blk_cell BK190.out 2).trans rfl, (blk_cell BK190.out 3).trans rfl, (blk_cell BK190.out 4).trans rfl⟩ (fun hHeld => ?_)
     clear hK K
     refine nm_ ?_
     refine pu_ (i := 10) (N := some 21) (bs_ 13 2047) ?_
     refine one_ (i := 11) (N := some 4) (bs_ 13 4095) rfl rfl (one_of HT_.out (by kernel_rfl)) (by decide) (fun K hK => ?_)
     refine box_step ?hg (N := 4) ?hd (cs := #[.int .i64 0, .int .i64 0, .slice none 0 0, .slice none 0 0, .slice none 0 0]) (t := 27) ?hr ?_; (case hd => rfl); (case hg => rfl); (case hr => first | (go_simp; done) | (go_simp; rfl))
     intro gb199 hg w16 hbox hb
     replace HO195 := a_ (Kd.R_below (ra_ HO195.out) hb)
     replace HO198 := a_ (Kd.R_below (ra_ HO198.out) hb)
     have BK199 := a_ (hbox)
     have GW199 := a_ ((z18_ : w.heap.size ≤ gb199))
     have GE199 := a_ ((z18_ : w.heap.size ≤ gb199))
     replace HB := a_ (below_step z22_ hb)
     have NB190_199 := a_ ((z83_ : gb190 ≠ gb199))
     have NB199_190 := a_ ((z84_ : gb199 ≠ gb190))
     replace BK190 := a_ (blk_below (g := gb190) (rb_ BK190.out) hb)
     have NB191_199 := a_ ((by rw [hg]; exact Nat.ne_of_lt (blk_lt (g := gb191) (rb_ BK191.out)) : gb191 ≠ gb199))
     have NB199_191 := a_ ((by rw [hg]; exact Nat.ne_of_gt (blk_lt (g := gb191) (rb_ BK191.out)) : gb199 ≠ gb191))
     replace BK191 := a_ (blk_below (g := gb191) (rb_ BK191.out) hb)
     clear hb hbox hg
     refine hK.out _ _ ⟨(blk_cell BK190.out 0).trans rfl, (blk_cell BK190.out 1).trans rfl, (blk_cell BK190.out 2).trans rfl, (blk_cell BK190.out 3).trans rfl, (blk_cell BK190.out 4).trans rfl⟩ (fun hHeld => ?_)
     clear hK K
     refine nm_ ?_
     exact norm_ (by simp only [putAll, Act.put, List.setIfInBounds_toArray, List.set_cons_zero, List.set_cons_succ]) (hCont (.slice Ao15 t193.length co15, .slice Ao14 t196.length co14, gb199) _ ⟨hHeld, (rc_ (h := by exact Kd.R_mono HO195.out (fun _ hk => hk.2))), (rc_ (h := by exact Kd.R_mono HO198.out (fun _ hk => hk.2))), (rb_ BK190.out), (rb_ BK191.out), (rb_ BK199.out), GW199.out, GE199.out, NB190_199.out, NB199_190.out, NB191_199.out, NB199_191.out, z9_⟩)
    ·skip
     refine box_step ?hg (N := 4) ?hd (cs := #[.int .i64 0, .int .i64 0, .slice none 0 0, .slice none 0 0, .slice none 0 0]) (t := 27) ?hr ?_; (case hd => rfl); (case hg => rfl); (case hr => first | (go_simp; done) | (go_simp; rfl))
     intro gb199 hg w13 hbox hb
     replace HO195 := a_ (Kd.R_below (ra_ HO195.out) hb)
     have BK199 := a_ (hbox)
     have GW199 := a_ ((z18_ : w.heap.size ≤ gb199))
     have GE199 := a_ ((z18_ : w.heap.size ≤ gb199))
     replace HB := a_ (below_step z22_ hb)
     have NB190_199 := a_ ((z83_ : gb190 ≠ gb199))
     have NB199_190 := a_ ((z84_ : gb199 ≠ gb190))
     replace BK190 := a_ (blk_below (g := gb190) (rb_ BK190.out) hb)
     have NB191_199 := a_ ((by rw [hg]; exact Nat.ne_of_lt (blk_lt (g := gb191) (rb_ BK191.out)) : gb191 ≠ gb199))
     have NB199_191 := a_ ((by rw [hg]; exact Nat.ne_of_gt (blk_lt (g := gb191) (rb_ BK191.out)) : gb199 ≠ gb191))
     replace BK191 := a_ (blk_below (g := gb191) (rb_ BK191.out) hb)
     clear hb hbox hg
     refine hK.out _ _ ⟨(blk_cell BK190.out 0).trans rfl, (blk_cell BK190.out 1).trans rfl, (blk_cell BK190.out 2).trans rfl, (blk_cell BK190.out 3).trans rfl, (blk_cell BK190.out 4).trans rfl⟩ (fun hHeld => ?_)
     clear hK K
     refine nm_ ?_
     refine one_ (i := 9) (N := some 20) (bs_ 13 3071) rfl rfl (one_of HT_.out (by kernel_rfl)) (by decide) (fun K hK => ?_)
     refine goes_ Try.func48 (by kernel_rfl) rfl #[.slice A0_2 l0_2.length c0_2] (by rfl) rfl rfl z57_ ?_
     with_reducible refine (slices_Clone_int64_int64.calls _ _ l0_2 t196 _ ?side1 ?side2 A5.out).mono ?_
     (case side1 => exact kc_ (Kd.C_below HR0_2.out HB.out))
     (case side2 => exact HC0_2.out)
     rintro e w14 ⟨v197, rfl, ho0, hb⟩
     refine ⟨_, rfl, ?_⟩
     have HO198 := a_ (Kd.R_lower (Kd.R_new' ho0 (Kd.R_lt (ra_ HO195.out))) (below_size z9_))
     replace HO195 := a_ (Kd.R_elder' (ra_ HO195.out) (Kd.R_base ho0) hb)
     replace BK190 := a_ (blk_below (g := gb190) (rb_ BK190.out) hb)
     replace BK191 := a_ (blk_below (g := gb191) (rb_ BK191.out) hb)
     replace BK199 := a_ (blk_below (g := gb199) (rb_ BK199.out) hb)
     replace HB := a_ (below_step z9_ hb)
     (try clear hb)
     (try clear hb2)
     (try clear hk)
     (try clear hi)
     (try clear ho0)
     obtain ⟨Ao15, co15, eo15⟩ := Kd.R_slice HO198.out
     (first | subst eo15 | (injection eo15 with f1_ f2_ f3_; have f4_ := f1_.symm; have f5_ := f3_.symm; clear f1_ f2_ f3_; subst f4_; subst f5_))
     obtain ⟨Ao16, co16, eo16⟩ := Kd.R_slice HO195.out
     (first | subst eo16 | (injection eo16 with f1_ f2_ f3_; have f4_ := f1_.symm; have f5_ := f3_.symm; clear f1_ f2_ f3_; subst f4_; subst f5_))
     refine hK.out _ _ ⟨(blk_cell BK190.out 0).trans rfl, (blk_cell BK190.out 1).trans rfl, (blk_cell BK190.out 2).trans rfl, (blk_cell BK190.out 3).trans rfl, (blk_cell BK190.out 4).trans rfl⟩ (fun hHeld => ?_)
     clear hK K
     refine nm_ ?_
     refine pu_ (i := 10) (N := some 21) (bs_ 13 4095) ?_
     exact norm_ (by simp only [putAll, Act.put, List.setIfInBounds_toArray, List.set_cons_zero, List.set_cons_succ]) (hCont (.slice Ao16 t193.length co16, .slice Ao15 t196.length co15, gb199) _ ⟨hHeld, (rc_ (h := by exact Kd.R_mono HO195.out (fun _ hk => hk.2))), (rc_ (h := by exact Kd.R_mono HO198.out (fun _ hk => hk.2))), (rb_ BK190.out), (rb_ BK191.out), (rb_ BK199.out), GW199.out, GE199.out, NB190_199.out, NB199_190.out, NB191_199.out, NB199_191.out, z9_⟩)
   ·skip
    refine box_step ?hg (N := 4) ?hd (cs := #[.int .i64 0, .int .i64 0, .slice none 0 0, .slice none 0 0, .slice none 0 0]) (t := 27) ?hr ?_; (case hd => rfl); (case hg => rfl); (case hr => first | (go_simp; done) | (go_simp; rfl))
    intro gb199 hg w12 hbox hb
    have BK199 := a_ (hbox)
    have GW199 := a_ ((z18_ : w.heap.size ≤ gb199))
    have GE199 := a_ ((z18_ : w.heap.size ≤ gb199))
    replace HB := a_ (below_step z22_ hb)
    have NB190_199 := a_ ((z83_ : gb190 ≠ gb199))
    have NB199_190 := a_ ((z84_ : gb199 ≠ gb190))
    replace BK190 := a_ (blk_below (g := gb190) (rb_ BK190.out) hb)
    have NB191_199 := a_ ((by rw [hg]; exact Nat.ne_of_lt (blk_lt (g := gb191) (rb_ BK191.out)) : gb191 ≠ gb199))
    have NB199_191 := a_ ((by rw [hg]; exact Nat.ne_of_gt (blk_lt (g := gb191) (rb_ BK191.out)) : gb199 ≠ gb191))
    replace BK191 := a_ (blk_below (g := gb191) (rb_ BK191.out) hb)
    clear hb hbox hg
    refine hK.out _ _ ⟨(blk_cell BK190.out 0).trans rfl, (blk_cell BK190.out 1).trans rfl, (blk_cell BK190.out 2).trans rfl, (blk_cell BK190.out 3).trans rfl, (blk_cell BK190.out 4).trans rfl⟩ (fun hHeld => ?_)
    clear hK K
    refine nm_ ?_
    refine one_ (i := 6) (N := some 17) (bs_ 13 2559) rfl rfl (one_of HT_.out (by kernel_rfl)) (by decide) (fun K hK => ?_)
    refine goes_ Try.func48 (by kernel_rfl) rfl #[.slice A0_3 l0_3.length c0_3] (by rfl) rfl rfl z57_ ?_
    with_reducible refine (slices_Clone_int64_int64.calls _ _ l0_3 t193 _ ?side1 ?side2 A4.out).mono ?_
    (case side1 => exact kc_ (Kd.C_below HR0_3.out HB.out))
    (case side2 => exact HC0_3.out)
    rintro e w13 ⟨v194, rfl, ho0, hb⟩
    refine ⟨_, rfl, ?_⟩
    have HO195 := a_ (Kd.R_lower ho0 (below_size z9_))
    replace BK190 := a_ (blk_below (g := gb190) (rb_ BK190.out) hb)
    replace BK191 := a_ (blk_below (g := gb191) (rb_ BK191.out) hb)
    replace BK199 := a_ (blk_below (g := gb199) (rb_ BK199.out) hb)
    replace HB := a_ (below_step z9_ hb)
    (try clear hb)
    (try clear hb2)
    (try clear hk)
    (try clear hi)
    (try clear ho0)
    refine hK.out _ _ ⟨(blk_cell BK190.out 0).trans rfl, (blk_cell BK190.out 1).trans rfl, (blk_cell BK190.out 2).trans rfl, (blk_cell BK190.out 3).trans rfl, (blk_cell BK190.out 4).trans rfl⟩ (fun hHeld => ?_)
    clear hK K
    refine nm_ ?_
    refine one_ (i := 9) (N := some 20) (bs_ 13 3071) rfl rfl (one_of HT_.out (by kernel_rfl)) (by decide) (fun K hK => ?_)
    refine goes_ Try.func48 (by kernel_rfl) rfl #[.slice A0_2 l0_2.length c0_2] (by rfl) rfl rfl z57_ ?_
    with_reducible refine (slices_Clone_int64_int64.calls _ _ l0_2 t196 _ ?side1 ?side2 A5.out).mono ?_
    (case side1 => exact kc_ (Kd.C_below HR0_2.out HB.out))
    (case side2 => exact HC0_2.out)
    rintro e w14 ⟨v197, rfl, ho0, hb⟩
    refine ⟨_, rfl, ?_⟩
    have HO198 := a_ (Kd.R_lower (Kd.R_new' ho0 (Kd.R_lt (ra_ HO195.out))) (below_size z9_))
    replace HO195 := a_ (Kd.R_elder' (ra_ HO195.out) (Kd.R_base ho0) hb)
    replace BK190 := a_ (blk_below (g := gb190) (rb_ BK190.out) hb)
    replace BK191 := a_ (blk_below (g := gb191) (rb_ BK191.out) hb)
    replace BK199 := a_ (blk_below (g := gb199) (rb_ BK199.out) hb)
    replace HB := a_ (below_step z9_ hb)
    (try clear hb)
    (try clear hb2)
    (try clear hk)
    (try clear hi)
    (try clear ho0)
    obtain ⟨Ao15, co15, eo15⟩ := Kd.R_slice HO198.out
    (first | subst eo15 | (injection eo15 with f1_ f2_ f3_; have f4_ := f1_.symm; have f5_ := f3_.symm; clear f1_ f2_ f3_; subst f4_; subst f5_))
    obtain ⟨Ao16, co16, eo16⟩ := Kd.R_slice HO195.out
    (first | subst eo16 | (injection eo16 with f1_ f2_ f3_; have f4_ := f1_.symm; have f5_ := f3_.symm; clear f1_ f2_ f3_; subst f4_; subst f5_))
    refine hK.out _ _ ⟨(blk_cell BK190.out 0).trans rfl, (blk_cell BK190.out 1).trans rfl, (blk_cell BK190.out 2).trans rfl, (blk_cell BK190.out 3).trans rfl, (blk_cell BK190.out 4).trans rfl⟩ (fun hHeld => ?_)
    clear hK K
    refine nm_ ?_
    refine pu_ (i := 10) (N := some 21) (bs_ 13 4095) ?_
    exact norm_ (by simp only [putAll, Act.put, List.setIfInBounds_toArray, List.set_cons_zero, List.set_cons_succ]) (hCont (.slice Ao16 t193.length co16, .slice Ao15 t196.length co15, gb199) _ ⟨hHeld, (rc_ (h := by exact Kd.R_mono HO195.out (fun _ hk => hk.2))), (rc_ (h := by exact Kd.R_mono HO198.out (fun _ hk => hk.2))), (rb_ BK190.out), (rb_ BK191.out), (rb_ BK199.out), GW199.out, GE199.out, NB190_199.out, NB199_190.out, NB191_199.out, NB199_191.out, z9_⟩)
  rintro ⟨v194, v197, gb199⟩ w17 ⟨hS_, h0_, h1_, h2_, h3_, h4_, h5_, h6_, h7_, h8_, h9_, h10_, h11_⟩
  have n0_ : Aside0 (Kd.R (Kd.int .i64) 2 w17 w.heap.size (fun k_ => some k_ ≠ (v197 : Value).ownBlock) v194 t193) := ⟨h0_⟩
  have n1_ : Aside0 (Kd.R (Kd.int .i64) 2 w17 w.heap.size (fun k_ => some k_ ≠ (v194 : Value).ownBlock) v197 t196) := ⟨h1_⟩
  have n2_ : Aside0 (w17.heap[gb190]? = some (.cells #[.int .i64 a0_0, .int .i64 a0_1, .slice A0_2 l0_2.length c0_2, .slice A0_3 l0_3.length c0_3, .slice A0_4 l0_4.length c0_4] 27 (0, 0))) := ⟨h2_⟩
  have n3_ : Aside0 (w17.heap[gb191]? = some (.cells #[.int .i64 0, .int .i64 0, .slice none 0 0, .slice none 0 0, .slice none 0 0] 27 (0, 0))) := ⟨h3_⟩
  have n4_ : Aside0 (w17.heap[gb199]? = some (.cells #[.int .i64 0, .int .i64 0, .slice none 0 0, .slice none 0 0, .slice none 0 0] 27 (0, 0))) := ⟨h4_⟩
  have n5_ : Aside0 (w.heap.size ≤ gb199) := ⟨h5_⟩
  have n6_ : Aside0 (w.heap.size ≤ gb199) := ⟨h6_⟩
  have n7_ : Aside0 (gb190 ≠ gb199) := ⟨h7_⟩
  have n8_ : Aside0 (gb199 ≠ gb190) := ⟨h8_⟩
  have n9_ : Aside0 (gb191 ≠ gb199) := ⟨h9_⟩
  have n10_ : Aside0 (gb199 ≠ gb191) := ⟨h10_⟩
  have n11_ : Aside0 (Below w.heap.size w w17) := ⟨h11_⟩
  clear BK190; clear BK191; clear HB
  clear h0_ h1_ h2_ h3_ h4_ h5_ h6_ h7_ h8_ h9_ h10_ h11_
  have HO195 := n0_
  have HO198 := n1_
  have BK190 := n2_
  have BK191 := n3_
  have BK199 := n4_
  have GW199 := n5_
  have GE199 := n6_
  have NB190_199 := n7_
  have NB199_190 := n8_
  have NB191_199 := n9_
  have NB199_191 := n10_
  have HB := n11_
  clear n0_ n1_ n2_ n3_ n4_ n5_ n6_ n7_ n8_ n9_ n10_ n11_
  have hHeld : w17.cell? ⟨gb190, 0, none⟩ = some (.int .i64 a0_0) ∧ w17.cell? ⟨gb190, 1, none⟩ = some (.int .i64 a0_1) ∧ w17.cell? ⟨gb190, 2, none⟩ = some (.slice A0_2 l0_2.length c0_2) ∧ w17.cell? ⟨gb190, 3, none⟩ = some (.slice A0_3 l0_3.length c0_3) ∧ w17.cell? ⟨gb190, 4, none⟩ = some (.slice A0_4 l0_4.length c0_4) := hS_
  obtain ⟨Ao18, co18, eo18⟩ := Kd.R_slice HO198.out
  (first | subst eo18 | (injection eo18 with f1_ f2_ f3_; have f4_ := f1_.symm; have f5_ := f3_.symm; clear f1_ f2_ f3_; subst f4_; subst f5_))
  obtain ⟨Ao19, co19, eo19⟩ := Kd.R_slice HO195.out
  (first | subst eo19 | (injection eo19 with f1_ f2_ f3_; have f4_ := f1_.symm; have f5_ := f3_.symm; clear f1_ f2_ f3_; subst f4_; subst f5_))
  refine norm_ (a' := ?_) ?_ ?_
  rotate_left
  ·simp only [putAll, Act.put, List.setIfInBounds_toArray, List.set_cons_zero, List.set_cons_succ]
   rfl
  refine one_ (i := 12) (N := none) (bs_ 13 8191) rfl rfl (one_of HT_.out (by kernel_rfl)) (by decide) (fun K hK => ?_)
  have hs20 : w17.cell? ⟨gb199, 0, none⟩ = some (.int .i64 0) := (blk_cell BK199.out 0).trans rfl
  have hfs20 := blk_frozen BK199.out 0
  have hns20_0 := NB190_199.out
  have hns20_1 := NB191_199.out
  have hms20_0 := NB199_190.out
  have hms20_1 := NB199_191.out
  have hs21 : w17.cell? ⟨gb199, 1, none⟩ = some (.int .i64 0) := (blk_cell BK199.out 1).trans rfl
  have hfs21 := blk_frozen BK199.out 1
  have hns21_0 := NB190_199.out
  have hns21_1 := NB191_199.out
  have hms21_0 := NB199_190.out
  have hms21_1 := NB199_191.out
  have hs22 : w17.cell? ⟨gb199, 2, none⟩ = some (.slice none 0 0) := (blk_cell BK199.out 2).trans rfl
  have hfs22 := blk_frozen BK199.out 2
  have hns22_0 := NB190_199.out
  have hns22_1 := NB191_199.out
  have hms22_0 := NB199_190.out
  have hms22_1 := NB199_191.out
  have hs23 : w17.cell? ⟨gb199, 3, none⟩ = some (.slice none 0 0) := (blk_cell BK199.out 3).trans rfl
  have hfs23 := blk_frozen BK199.out 3
  have hns23_0 := NB190_199.out
  have hns23_1 := NB191_199.out
  have hms23_0 := NB199_190.out
  have hms23_1 := NB199_191.out
  have hs24 : w17.cell? ⟨gb199, 4, none⟩ = some (.slice none 0 0) := (blk_cell BK199.out 4).trans rfl
  have hfs24 := blk_frozen BK199.out 4
  have hns24_0 := NB190_199.out
  have hns24_1 := NB191_199.out
  have hms24_0 := NB199_190.out
  have hms24_1 := NB199_191.out
  refine skip_ (w1 := ?_) (by rfl) rfl ?_ ?_
  rotate_left
  ·go_simp
   rfl
  refine hK.out _ _ ⟨((cell_far (p := ⟨gb199, _, none⟩) NB190_199.out _).trans (((cell_far (p := ⟨gb199, _, none⟩) NB190_199.out _).trans (((cell_far (p := ⟨gb199, _, none⟩) NB190_199.out _).trans (((cell_far (p := ⟨gb199, _, none⟩) NB190_199.out _).trans (((cell_far (p := ⟨gb199, _, none⟩) NB190_199.out _).trans (hHeld.1)))))))))), ((cell_far (p := ⟨gb199, _, none⟩) NB190_199.out _).trans (((cell_far (p := ⟨gb199, _, none⟩) NB190_199.out _).trans (((cell_far (p := ⟨gb199, _, none⟩) NB190_199.out _).trans (((cell_far (p := ⟨gb199, _, none⟩) NB190_199.out _).trans (((cell_far (p := ⟨gb199, _, none⟩) NB190_199.out _).trans (hHeld.2.1)))))))))), ((cell_far (p := ⟨gb199, _, none⟩) NB190_199.out _).trans (((cell_far (p := ⟨gb199, _, none⟩) NB190_199.out _).trans (((cell_far (p := ⟨gb199, _, none⟩) NB190_199.out _).trans (((cell_far (p := ⟨gb199, _, none⟩) NB190_199.out _).trans (((cell_far (p := ⟨gb199, _, none⟩) NB190_199.out _).trans (hHeld.2.2.1)))))))))), ((cell_far (p := ⟨gb199, _, none⟩) NB190_199.out _).trans (((cell_far (p := ⟨gb199, _, none⟩) NB190_199.out _).trans (((cell_far (p := ⟨gb199, _, none⟩) NB190_199.out _).trans (((cell_far (p := ⟨gb199, _, none⟩) NB190_199.out _).trans (((cell_far (p := ⟨gb199, _, none⟩) NB190_199.out _).trans (hHeld.2.2.2.1)))))))))), ((cell_far (p := ⟨gb199, _, none⟩) NB190_199.out _).trans (((cell_far (p := ⟨gb199, _, none⟩) NB190_199.out _).trans (((cell_far (p := ⟨gb199, _, none⟩) NB190_199.out _).trans (((cell_far (p := ⟨gb199, _, none⟩) NB190_199.out _).trans (((cell_far (p := ⟨gb199, _, none⟩) NB190_199.out _).trans (hHeld.2.2.2.2))))))))))⟩ (fun hHeld => ?_)
  clear hK K
  refine done_ (done_of HT_.out (by kernel_rfl)) ?_
  have hnb25 := NB190_199.out
  have hnc25 := NB199_190.out
  obtain ⟨hcz26_0, hcz26_1, hcz26_2, hcz26_3, hcz26_4, hfz26_0, hfz26_1, hfz26_2, hfz26_3, hfz26_4⟩ := cz5_ (w := w17) BK190.out
  try go_wp2
  go_loopg [24] k (fun kq v24 w' => ∃ (x24_1 : Int) (x200004_1 : List Int) (u200004 : Value), v24 = .int .i64 x24_1 ∧ Aside0 (impl_TurnForm.l0 kq a0_1 x24_1 a0_0 a0_1 l0_2 l0_3 l0_4 a0_0 a0_1 t193 t196 x200004_1 = some (r1, r2, r3, r4, r5, r6)) ∧ Aside0 (kq ≤ k) ∧ Aside0 (Kd.R (Kd.int .i64) 2 w' w.heap.size (fun k_ => nb_ k_ Ao18 t196.length co18 ∧ some k_ ≠ (u200004 : Value).ownBlock) (.slice Ao19 t193.length co19) t193) ∧ Aside0 (Kd.R (Kd.int .i64) 2 w' w.heap.size (fun k_ => nb_ k_ Ao19 t193.length co19 ∧ some k_ ≠ (u200004 : Value).ownBlock) (.slice Ao18 t196.length co18) t196) ∧ Aside0 (Kd.R (Kd.int .i64) 2 w' w.heap.size (fun k_ => nb_ k_ Ao19 t193.length co19 ∧ nb_ k_ Ao18 t196.length co18) u200004 x200004_1) ∧ Aside0 (w'.heap[gb190]? = some (.cells #[.int .i64 a0_0, .int .i64 a0_1, (.slice A0_2 l0_2.length c0_2), (.slice A0_3 l0_3.length c0_3), (.slice A0_4 l0_4.length c0_4)] 27 (0, 0))) ∧ Aside0 (w'.heap[gb191]? = some (.cells #[.int .i64 0, .int .i64 0, (.slice none 0 0), (.slice none 0 0), (.slice none 0 0)] 27 (0, 0))) ∧ Aside0 (w'.heap[gb199]? = some (.cells #[.int .i64 a0_0, .int .i64 a0_1, (.slice Ao19 t193.length co19), (.slice Ao18 t196.length co18), u200004] 27 (0, 0))) ∧ Aside0 (Below w.heap.size w w'))
  case atStart => exact ⟨(0), (([] : List Int)), (.slice none 0 0), z91_, H', ⟨Nat.le_refl _⟩, ⟨by (with_reducible repeat (first | apply Kd.R_alloc | apply Kd.R_drewN | apply Kd.R_drew)); exact Kd.R_mono (rt5_ HO195.out BK199.out) (fun _ hk => ⟨hk.1, (by simp [Value.ownBlock])⟩)⟩, ⟨by (with_reducible repeat (first | apply Kd.R_alloc | apply Kd.R_drewN | apply Kd.R_drew)); exact Kd.R_mono (rt5_ HO198.out BK199.out) (fun _ hk => ⟨hk.1, (by simp [Value.ownBlock])⟩)⟩, ⟨z56_⟩, ⟨(rb2_ (h := by exact bf5_ NB190_199.out BK190.out))⟩, ⟨(rb2_ (h := by exact bf5_ NB191_199.out BK191.out))⟩, ⟨(rb2_ (h := by exact bp5_ BK199.out))⟩, ⟨z9_⟩⟩
  case round =>
   clear H'
   try clear c3; try clear hcz26_0 hcz26_1 hcz26_2 hcz26_3 hcz26_4; try clear hcz9_0 hcz9_1 hcz9_2 hcz9_3 hcz9_4; try clear hfz26_0 hfz26_1 hfz26_2 hfz26_3 hfz26_4; try clear hfz9_0 hfz9_1 hfz9_2 hfz9_3 hfz9_4
   obtain ⟨x24_1, x200004_1, u200004, rfl, HA, HK1, HO_200002, HO_200003, HO_200004, BK190, BK191, BK199, HB⟩ := hrel
   cases gk with
   | zero => exact absurd HA.out (by simp [impl_TurnForm.l0])
   | succ k1 =>
    have H := HA.out
    clear HA
    simp only [impl_TurnForm.l0] at H
    by_cases c27 : x24_1 < a0_1
    ·rw [if_pos c27] at H
     have c27b0 : decide (x24_1 < a0_1) = true := decide_eq_true c27
     clear c27
     have H' := Aside0.mk H
     clear H
     have hnb28 := NB190_191.out
     have hnc28 := NB191_190.out
     have hnb29 := NB190_199.out
     have hnc29 := NB199_190.out
     obtain ⟨hcz30_0, hcz30_1, hcz30_2, hcz30_3, hcz30_4, hfz30_0, hfz30_1, hfz30_2, hfz30_3, hfz30_4⟩ := cz5_ (w := wr) BK190.out
     go_wp2
     go_loopg [29] k1 (fun kq v29 w' => ∃ (x29_2 : Int) (x200004_2 : List Int) (u200004 : Value), v29 = .int .i64 x29_2 ∧ Aside0 (impl_TurnForm.l1 kq x24_1 a0_1 x24_1 a0_0 x29_2 a0_0 a0_1 l0_2 l0_3 l0_4 a0_0 a0_1 t193 t196 x200004_2 = some (r1, r2, r3, r4, r5, r6)) ∧ Aside0 (kq ≤ k1) ∧ Aside0 (Kd.R (Kd.int .i64) 2 w' w.heap.size (fun k_ => nb_ k_ Ao18 t196.length co18 ∧ some k_ ≠ (u200004 : Value).ownBlock) (.slice Ao19 t193.length co19) t193) ∧ Aside0 (Kd.R (Kd.int .i64) 2 w' w.heap.size (fun k_ => nb_ k_ Ao19 t193.length co19 ∧ some k_ ≠ (u200004 : Value).ownBlock) (.slice Ao18 t196.length co18) t196) ∧ Aside0 (Kd.R (Kd.int .i64) 2 w' w.heap.size (fun k_ => nb_ k_ Ao19 t193.length co19 ∧ nb_ k_ Ao18 t196.length co18) u200004 x200004_2) ∧ Aside0 (w'.heap[gb190]? = some (.cells #[.int .i64 a0_0, .int .i64 a0_1, (.slice A0_2 l0_2.length c0_2), (.slice A0_3 l0_3.length c0_3), (.slice A0_4 l0_4.length c0_4)] 27 (0, 0))) ∧ Aside0 (w'.heap[gb191]? = some (.cells #[.int .i64 0, .int .i64 0, (.slice none 0 0), (.slice none 0 0), (.slice none 0 0)] 27 (0, 0))) ∧ Aside0 (w'.heap[gb199]? = some (.cells #[.int .i64 a0_0, .int .i64 a0_1, (.slice Ao19 t193.length co19), (.slice Ao18 t196.length co18), u200004] 27 (0, 0))) ∧ Aside0 (Below w.heap.size w w'))
     case atStart => exact ⟨(0), (x200004_1), (u200004), z91_, H', ⟨Nat.le_refl _⟩, ⟨by (with_reducible repeat (first | apply Kd.R_alloc | apply Kd.R_drewN | apply Kd.R_drew)); exact HO_200002.out⟩, ⟨by (with_reducible repeat (first | apply Kd.R_alloc | apply Kd.R_drewN | apply Kd.R_drew)); exact HO_200003.out⟩, ⟨by (with_reducible repeat (first | apply Kd.R_alloc | apply Kd.R_drewN | apply Kd.R_drew)); exact HO_200004.out⟩, ⟨by (with_reducible repeat (first | refine blk_drewN ?_ _ | refine blk_drew ?_ | refine blk_alloc ?_ _)); exact BK190.out⟩, ⟨by (with_reducible repeat (first | refine blk_drewN ?_ _ | refine blk_drew ?_ | refine blk_alloc ?_ _)); exact BK191.out⟩, ⟨by (with_reducible repeat (first | refine blk_drewN ?_ _ | refine blk_drew ?_ | refine blk_alloc ?_ _)); exact BK199.out⟩, ⟨z9_⟩⟩
     case round =>
      clear H'
      try clear c27b0; try clear hcz30_0 hcz30_1 hcz30_2 hcz30_3 hcz30_4; try clear hfz30_0 hfz30_1 hfz30_2 hfz30_3 hfz30_4
      obtain ⟨x29_2, x200004_2, u200004, rfl, HA, HK2, HO_200002, HO_200003, HO_200004, BK190, BK191, BK199, HB⟩ := hrel
      cases gk with
      | zero => exact absurd HA.out (by simp [impl_TurnForm.l1])
      | succ k2 =>
       have H := HA.out
       clear HA
       simp only [impl_TurnForm.l1] at H
       by_cases c31 : x29_2 < a0_0
       ·rw [if_pos c31] at H
        have c31b0 : decide (x29_2 < a0_0) = true := decide_eq_true c31
        clear c31
        replace H := Option.bind_eq_some_iff.mp H
        obtain ⟨t200, A320, H⟩ := H
        replace H : (if 0 ≤ t200 then (if t200 < (l0_4.length : Int) then (if x200004_2.length < 17592186044416 then (impl_TurnForm.l1 k2 x24_1 a0_1 x24_1 a0_0 (wrap64 (x29_2 + 1)) a0_0 a0_1 l0_2 l0_3 l0_4 a0_0 a0_1 t193 t196 (x200004_2 ++ [rd l0_4 t200])) else (none)) else (none)) else (none)) = some (r1, r2, r3, r4, r5, r6) := H
        have A32 := Aside0.mk A320
        clear A320
        by_cases c33 : 0 ≤ t200
        ·rw [if_pos c33] at H
         have c33b0 : decide (0 ≤ t200) = true := decide_eq_true c33
         clear c33
         by_cases c34 : t200 < (l0_4.length : Int)
         ·rw [if_pos c34] at H
          have c34b0 : decide (t200 < (l0_4.length : Int)) = true := decide_eq_true c34
          clear c34
          by_cases c35 : x200004_2.length < 17592186044416
          ·rw [if_pos c35] at H
           have LMc35 := Aside0.mk c35
           clear c35
           obtain ⟨y202, hy202⟩ : ∃ y_ : List Int, y_ = (x200004_2 ++ [rd l0_4 t200]) := ⟨_, rfl⟩
           replace H : (impl_TurnForm.l1 k2 x24_1 a0_1 x24_1 a0_0 (wrap64 (x29_2 + 1)) a0_0 a0_1 l0_2 l0_3 l0_4 a0_0 a0_1 t193 t196 y202) = some (r1, r2, r3, r4, r5, r6) := rh_ hy202 H
           have Ny202 := Aside0.mk hy202
           clear hy202
           have H' := Aside0.mk H
           clear H
           try go_wp2
           replace HO_200002 := a_ (Kd.R_drew HO_200002.out)
           replace HO_200003 := a_ (Kd.R_drew HO_200003.out)
           replace HO_200004 := a_ (Kd.R_drew HO_200004.out)
           replace BK190 := a_ (blk_drew BK190.out)
           replace BK191 := a_ (blk_drew BK191.out)
           replace BK199 := a_ (blk_drew BK199.out)
           replace HB := a_ (below_drew1 HB.out)
           have p201 : 0 ≤ (t200 : Int) := of_decide_eq_true z90_
           have q201 : t200 < (l0_4.length : Int) := of_decide_eq_true z90_
           obtain ⟨ad201, e201, hx201_0⟩ := Kd.at_int HR0_4.out t200 p201 q201
           have hw201_0 := hx201_0
           cases e201
           replace hx201_0 := (HB.out.cell (World.block_lt_of_cell? _ _ hx201_0)).trans hx201_0
           replace p201 := eq_true p201
           replace q201 := eq_true q201
           refine start_ (n := 15) (S := fun w' => w'.cell? ⟨gb199, 0, none⟩ = some (.int .i64 a0_0) ∧ w'.cell? ⟨gb199, 1, none⟩ = some (.int .i64 a0_1) ∧ w'.cell? ⟨gb199, 2, none⟩ = some (.slice Ao19 t193.length co19) ∧ w'.cell? ⟨gb199, 3, none⟩ = some (.slice Ao18 t196.length co18) ∧ w'.cell? ⟨gb199, 4, none⟩ = some (u200004) ∧ w'.cell? ⟨gb190, 0, none⟩ = some (.int .i64 a0_0) ∧ w'.cell? ⟨gb190, 1, none⟩ = some (.int .i64 a0_1) ∧ w'.cell? ⟨gb190, 2, none⟩ = some (.slice A0_2 l0_2.length c0_2) ∧ w'.cell? ⟨gb190, 3, none⟩ = some (.slice A0_3 l0_3.length c0_3) ∧ w'.cell? ⟨gb190, 4, none⟩ = some (.slice (some ad201) l0_4.length c0_4) ∧ w'.cell? (ad201.add (t200).toNat) = some (.int .i64 (rd l0_4 t200))) (ds := [14]) #[false, false, false, false, false, false, false, false, false, false, false, false, false, false, false] (by kernel_rfl) rfl rfl ⟨(blk_cell BK199.out 0).trans rfl, (blk_cell BK199.out 1).trans rfl, (blk_cell BK199.out 2).trans rfl, (blk_cell BK199.out 3).trans rfl, (blk_cell BK199.out 4).trans rfl, (blk_cell BK190.out 0).trans rfl, (blk_cell BK190.out 1).trans rfl, (blk_cell BK190.out 2).trans rfl, (blk_cell BK190.out 3).trans rfl, (blk_cell BK190.out 4).trans rfl, ((HB.out.cell (World.block_lt_of_cell? _ _ hw201_0)).trans hw201_0)⟩ (fun hHeld => ?_); refine with_tabW impl_TurnForm.tab10 impl_TurnForm.bits10 (fun HT_ HW_ => ?_)
           generalize wr.drew = w36 at HO_200002 HO_200003 HO_200004 BK190 BK191 BK199 HB hx201_0 hHeld ⊢
           refine pu_ (i := 0) (N := some 32) (bs_ 15 1) ?_
           refine pu_ (i := 2) (N := some 34) (bs_ 15 5) ?_
           refine pu_ (i := 4) (N := some 36) (bs_ 15 21) ?_
           refine pu_ (i := 6) (N := some 38) (bs_ 15 85) ?_
           refine pu_ (i := 7) (N := some 39) (bs_ 15 213) ?_
           refine tk11_ (i := 1) (N := some 33) (bs_ 15 215) hHeld ?_
           refine tk11_ (i := 3) (N := some 35) (bs_ 15 223) hHeld ?_
           refine tk11_ (i := 5) (N := some 37) (bs_ 15 255) hHeld ?_
           refine one_ (i := 8) (N := some 40) (bs_ 15 511) rfl rfl (one_of HT_.out (by kernel_rfl)) (by decide) (fun K hK => ?_)
           refine goes_ Try.func49 (by kernel_rfl) rfl #[.int .i64 a0_0, .int .i64 x29_2, .int .i64 x24_1] (by rfl) rfl rfl z57_ ?_
           with_reducible refine (impl_backPlace.calls a0_0 x29_2 x24_1 t200 _ A32.out).mono ?_
           rintro e w' ⟨rfl, ⟨nd, rfl⟩⟩
           refine ⟨_, rfl, ?_⟩
           refine hK.out _ _ ⟨(blk_cell BK199.out 0).trans rfl, (blk_cell BK199.out 1).trans rfl, (blk_cell BK199.out 2).trans rfl, (blk_cell BK199.out 3).trans rfl, (blk_cell BK199.out 4).trans rfl, (blk_cell BK190.out 0).trans rfl, (blk_cell BK190.out 1).trans rfl, (blk_cell BK190.out 2).trans rfl, (blk_cell BK190.out 3).trans rfl, (blk_cell BK190.out 4).trans rfl, ((HB.out.cell (World.block_lt_of_cell? _ _ hw201_0)).trans hw201_0)⟩ (fun hHeld => ?_)
           clear hK K
           refine nm_ ?_
           refine pu_ (i := 9) (N := some 41) (bs_ 15 1023) ?_
           refine tk11_ (i := 10) (N := some 42) (bs_ 15 2047) hHeld ?_
           refine one_ (i := 11) (N := some 43) (bs_ 15 4095) rfl rfl (one_of HT_.out (by kernel_rfl)) (by decide) (fun K hK => ?_)
           refine value_ (w1 := ?_) (v := ?_) (by rfl) rfl ?_ ?_
           rotate_left 2
           ·go_simp
            constructor
            ·rfl
            ·rfl
           refine hK.out _ _ ⟨(blk_cell (blk_alloc BK199.out _) 0).trans rfl, (blk_cell (blk_alloc BK199.out _) 1).trans rfl, (blk_cell (blk_alloc BK199.out _) 2).trans rfl, (blk_cell (blk_alloc BK199.out _) 3).trans rfl, (blk_cell (blk_alloc BK199.out _) 4).trans rfl, (blk_cell (blk_alloc BK190.out _) 0).trans rfl, (blk_cell (blk_alloc BK190.out _) 1).trans rfl, (blk_cell (blk_alloc BK190.out _) 2).trans rfl, (blk_cell (blk_alloc BK190.out _) 3).trans rfl, (blk_cell (blk_alloc BK190.out _) 4).trans rfl, (World.cell?_alloc_lt _ _ _ (World.block_lt_of_cell? _ _ (((HB.out.cell (World.block_lt_of_cell? _ _ hw201_0)).trans hw201_0)))).trans (((HB.out.cell (World.block_lt_of_cell? _ _ hw201_0)).trans hw201_0))⟩ (fun hHeld => ?_)
           clear hK K
           refine nm_ ?_
           refine one_ (i := 12) (N := some 44) (bs_ 15 8191) rfl rfl (one_of HT_.out (by kernel_rfl)) (by decide) (fun K hK => ?_)
           refine Kd.R_append_step (Kd.int .i64) (w0 := w) w.heap.size (by rfl) (.tmp 33) (.tmp 43) 22 2 (.int .i64 0) 8 rfl Try.underlying22 info2 rfl (by decide) (by omega) u200004 x200004_2 (rd l0_4 t200) [.int .i64 (rd l0_4 t200)] (fun k_ => nb_ k_ Ao19 t193.length co19 ∧ nb_ k_ Ao18 t196.length co18) (fun _ => False) rfl rfl ?aP (fun _ hk => hk.elim) ?aF ?aO ?aB ?aS ?aL ?_
           (case aP => exact rfl)
           (case aB => exact z9_)
           (case aF => exact (fun k_ hk => ⟨Kd.fresh' (Kd.R_lt (ra_ HO_200002.out)) k_ hk, Kd.fresh' (Kd.R_lt (ra_ HO_200003.out)) k_ hk⟩))
           (case aO => exact (ra_ HO_200004.out))
           (case aS => exact (below_size z9_))
           (case aL => have := LMc35.out; omega)
           intro v203 w37 ho hb hg hat
           rw [← Ny202.out] at ho
           replace HO_200002 := a_ (Kd.R_after (ok := (fun k_ => nb_ k_ Ao18 t196.length co18)) (ra_ HO_200002.out) hg hat)
           replace HO_200003 := a_ (Kd.R_after (ok := (fun k_ => nb_ k_ Ao19 t193.length co19)) (ra_ HO_200003.out) hg hat)
           replace BK190 := a_ (blk_grown (g := gb190) (rb_ BK190.out) hg (Kd.R_ne HO_200004.out BK190.out (by decide)))
           replace BK191 := a_ (blk_grown (g := gb191) (rb_ BK191.out) hg (Kd.R_ne HO_200004.out BK191.out (by decide)))
           replace BK199 := a_ (blk_grown (g := gb199) (rb_ BK199.out) hg (Kd.R_ne HO_200004.out BK199.out (by decide)))
           replace HB := a_ (hb)
           have HO204 := a_ (ho)
           clear HO_200004
           clear ho hb hg hat
           obtain ⟨Ao38, co38, eo38⟩ := Kd.R_slice HO204.out
           (first | subst eo38 | (injection eo38 with f1_ f2_ f3_; have f4_ := f1_.symm; have f5_ := f3_.symm; clear f1_ f2_ f3_; subst f4_; subst f5_))
           refine hK.out _ _ ⟨(blk_cell BK199.out 0).trans rfl, (blk_cell BK199.out 1).trans rfl, (blk_cell BK199.out 2).trans rfl, (blk_cell BK199.out 3).trans rfl, (blk_cell BK199.out 4).trans rfl, (blk_cell BK190.out 0).trans rfl, (blk_cell BK190.out 1).trans rfl, (blk_cell BK190.out 2).trans rfl, (blk_cell BK190.out 3).trans rfl, (blk_cell BK190.out 4).trans rfl, ((HB.out.cell (World.block_lt_of_cell? _ _ hw201_0)).trans hw201_0)⟩ (fun hHeld => ?_)
           clear hK K
           refine nm_ ?_
           refine pu_ (i := 13) (N := some 45) (bs_ 15 16383) ?_
           refine last_ (i := 14) (N := none) (bs_ 15 32767) rfl rfl (one_of HT_.out (by kernel_rfl)) (by decide) (fun K hK => ?_)
           have hs39 : w37.cell? ⟨gb199, 4, none⟩ = some (u200004) := (blk_cell BK199.out 4).trans rfl
           have hfs39 := blk_frozen BK199.out 4
           have hns39_0 := NB190_199.out
           have hns39_1 := NB191_199.out
           have hms39_0 := NB199_190.out
           have hms39_1 := NB199_191.out
           refine skip_ (w1 := ?_) (by rfl) rfl ?_ ?_
           rotate_left
           ·go_simp
            rfl
           refine hK.out _ _ ?_
           clear hK K
           refine done_ (done_of HT_.out (by kernel_rfl)) ?_
           try go_wp2
           go_roundg k2
           case measure => have := HK1.out; have := HK2.out; omega
           case rel => exact ⟨(wrap64 (x29_2 + 1)), (y202), (.slice Ao38 y202.length co38), z91_, H', ⟨z92_⟩, ⟨by (with_reducible repeat (first | apply Kd.R_alloc | apply Kd.R_drewN | apply Kd.R_drew)); exact Kd.R_mono (Kd.R_far (p := ⟨gb199, 4, none⟩) (Kd.R_types HO_200002.out BK199.out (by decide)) (fun _ hk => hk.2) (.slice Ao38 y202.length co38)) (fun _ hk => ⟨hk.1.1, hk.1.2⟩)⟩, ⟨by (with_reducible repeat (first | apply Kd.R_alloc | apply Kd.R_drewN | apply Kd.R_drew)); exact Kd.R_mono (Kd.R_far (p := ⟨gb199, 4, none⟩) (Kd.R_types HO_200003.out BK199.out (by decide)) (fun _ hk => hk.2) (.slice Ao38 y202.length co38)) (fun _ hk => ⟨hk.1.1, hk.1.2⟩)⟩, ⟨by (with_reducible repeat (first | apply Kd.R_alloc | apply Kd.R_drewN | apply Kd.R_drew)); exact Kd.R_mono (Kd.R_far (p := ⟨gb199, 4, none⟩) (Kd.R_types HO204.out BK199.out (by decide)) (fun _ hk => hk.2) (.slice Ao38 y202.length co38)) (fun _ hk => ⟨hk.1.1, hk.1.2⟩)⟩, ⟨(rb2_ (h := by exact bf1_ NB190_199.out BK190.out))⟩, ⟨(rb2_ (h := by exact bf1_ NB191_199.out BK191.out))⟩, ⟨by (with_reducible repeat (first | refine blk_drewN ?_ _ | refine blk_drew ?_ | refine blk_alloc ?_ _)); refine blk_put (cs := #[.int .i64 a0_0, .int .i64 a0_1, .slice Ao19 t193.length co19, .slice Ao18 t196.length co18, u200004]) ?_ 4 _ rfl; (with_reducible repeat (first | refine blk_drewN ?_ _ | refine blk_drew ?_ | refine blk_alloc ?_ _)); exact BK199.out⟩, ⟨z9_⟩⟩
          ·rw [if_neg c35] at H
           exact absurd H (by simp)
         ·rw [if_neg c34] at H
          exact absurd H (by simp)
        ·rw [if_neg c33] at H
         exact absurd H (by simp)
       ·rw [if_neg c31] at H
        have c31b0 : decide (x29_2 < a0_0) = false := decide_eq_false c31
        clear c31
        have H' := Aside0.mk H
        clear H
        go_wp2
        go_roundg k2
        case measure => have := HK1.out; have := HK2.out; omega
        case rel => exact ⟨(wrap64 (x24_1 + 1)), (x200004_2), (u200004), z91_, H', ⟨z92_⟩, ⟨by (with_reducible repeat (first | apply Kd.R_alloc | apply Kd.R_drewN | apply Kd.R_drew)); exact HO_200002.out⟩, ⟨by (with_reducible repeat (first | apply Kd.R_alloc | apply Kd.R_drewN | apply Kd.R_drew)); exact HO_200003.out⟩, ⟨by (with_reducible repeat (first | apply Kd.R_alloc | apply Kd.R_drewN | apply Kd.R_drew)); exact HO_200004.out⟩, ⟨by (with_reducible repeat (first | refine blk_drewN ?_ _ | refine blk_drew ?_ | refine blk_alloc ?_ _)); exact BK190.out⟩, ⟨by (with_reducible repeat (first | refine blk_drewN ?_ _ | refine blk_drew ?_ | refine blk_alloc ?_ _)); exact BK191.out⟩, ⟨by (with_reducible repeat (first | refine blk_drewN ?_ _ | refine blk_drew ?_ | refine blk_alloc ?_ _)); exact BK199.out⟩, ⟨z9_⟩⟩
    ·rw [if_neg c27] at H
     have c27b0 : decide (x24_1 < a0_1) = false := decide_eq_false c27
     clear c27
     simp only [Option.some.injEq, Prod.mk.injEq] at H
     obtain ⟨rfl, rfl, rfl, rfl, rfl, rfl⟩ := H
     have hnb40 := NB199_190.out
     have hnc40 := NB190_199.out
     have hnb41 := NB199_191.out
     have hnc41 := NB191_199.out
     obtain ⟨hcz42_0, hcz42_1, hcz42_2, hcz42_3, hcz42_4, hfz42_0, hfz42_1, hfz42_2, hfz42_3, hfz42_4⟩ := cz5_ (w := wr) BK199.out
     have hnb43 := NB191_190.out
     have hnc43 := NB190_191.out
     obtain ⟨hcz44_0, hcz44_1, hcz44_2, hcz44_3, hcz44_4, hfz44_0, hfz44_1, hfz44_2, hfz44_3, hfz44_4⟩ := cz5_ (w := wr) BK191.out
     obtain ⟨Ao45, co45, eo45⟩ := Kd.R_slice HO_200004.out
     subst eo45
     go_wp2
     refine bodyPost_ret (results_ct rfl _ _ gb191 27 #[.int .i64 a0_0, .int .i64 a0_1, .slice Ao19 t193.length co19, .slice Ao18 t196.length co18, .slice Ao45 x200004_1.length co45] (0, 0) _ rfl (rb2_ (h := by exact bp5_ BK191.out)) Try.underlying27 rfl (by kernel_rfl)) rfl ?_
     exact ⟨_, _, _, z55_, by (with_reducible repeat (first | apply Kd.R_alloc | apply Kd.R_drewN | apply Kd.R_drew)); exact Kd.R_mono (rt5_ HO_200002.out BK191.out) (fun _ hk => ⟨hk.1.1, hk.1.2⟩), by (with_reducible repeat (first | apply Kd.R_alloc | apply Kd.R_drewN | apply Kd.R_drew)); exact Kd.R_mono (rt5_ HO_200003.out BK191.out) (fun _ hk => ⟨hk.1.1, hk.1.2⟩), by (with_reducible repeat (first | apply Kd.R_alloc | apply Kd.R_drewN | apply Kd.R_drew)); exact Kd.R_mono (rt5_ HO_200004.out BK191.out) (fun _ hk => ⟨hk.1.1, hk.1.2⟩), z9_⟩
 ·replace c3 := Bool.eq_false_iff.mpr c3
  subst c3
  have H1 : (some (0, 0, ([] : List Int), ([] : List Int), ([] : List Int), 1)) = some (r1, r2, r3, r4, r5, r6) := by rw [if_neg (show ¬ (false = true) by decide)] at H; exact H
  clear H
  have H := H1
  clear H1
  simp only [Option.some.injEq, Prod.mk.injEq] at H
  obtain ⟨rfl, rfl, rfl, rfl, rfl, rfl⟩ := H
  go_enter Try.func17, Try.ntmps17
  go_wp2_with (first | ((with_reducible refine gate_dst (N := 1) rfl ?_); refine box_event ?hg (N := 1) ?hd (cs := #[.int .i64 a0_0, .int .i64 a0_1, .slice A0_2 l0_2.length c0_2, .slice A0_3 l0_3.length c0_3, .slice A0_4 l0_4.length c0_4]) (t := 27) ?hr ?_; (case hd => rfl); (case hg => rfl); (case hr => first | (go_simp; done) | (go_simp; rfl)); intro gb190 hg w46 hbox hb; have BK190 := a_ (hbox); have GW190 := a_ ((z53_ : w.heap.size ≤ gb190)); have GE190 := a_ ((z53_ : w.heap.size ≤ gb190)); replace HB := a_ (below_step z54_ hb); clear hb hbox hg) | ((with_reducible refine gate_dst (N := 2) rfl ?_); refine box_event ?hg (N := 2) ?hd (cs := #[.int .i64 0, .int .i64 0, .slice none 0 0, .slice none 0 0, .slice none 0 0]) (t := 27) ?hr ?_; (case hd => rfl); (case hg => rfl); (case hr => first | (go_simp; done) | (go_simp; rfl)); intro gb191 hg w47 hbox hb; have BK191 := a_ (hbox); have GW191 := a_ ((z30_ : w.heap.size ≤ gb191)); have GE191 := a_ ((z30_ : w.heap.size ≤ gb191)); replace HB := a_ (below_step z44_ hb); have NB190_191 := a_ ((z83_ : gb190 ≠ gb191)); have NB191_190 := a_ ((z84_ : gb191 ≠ gb190)); replace BK190 := a_ (blk_below (g := gb190) (rb_ BK190.out) hb); clear hb hbox hg; have hnb48 := NB190_191.out; have hnc48 := NB191_190.out; obtain ⟨hcz49_0, hcz49_1, hcz49_2, hcz49_3, hcz49_4, hfz49_0, hfz49_1, hfz49_2, hfz49_3, hfz49_4⟩ := cz5_ (w := w47) BK190.out) | ((with_reducible refine gate_callee (f := 12) rfl ?_); refine goesL_ (some 8) rfl rfl Try.func12 (by kernel_rfl) rfl #[.agg #[.int .i64 a0_0, .int .i64 a0_1, .slice A0_2 l0_2.length c0_2, .slice A0_3 l0_3.length c0_3, .slice A0_4 l0_4.length c0_4]] rfl z57_ ?_; (with_reducible refine (impl_IsForm.calls k a0_0 a0_1 (fun k_ => k_ < w.heap.size) _ _ l0_2 (fun k_ => k_ < w.heap.size) _ _ l0_3 _ _ l0_4 false _ ?side1 ?side2 ?side3 ?side4 A2.out).mono ?_); (case side1 => exact Kd.V_mk HC0_2.out (Kd.F_below (Kd.C_F (Kd.heap_int .i64) HR0_2.out) z22_)); (case side2 => exact Kd.V_mk HC0_3.out (Kd.F_below (Kd.C_F (Kd.heap_int .i64) HR0_3.out) z22_)); (case side3 => exact kc_ (Kd.C_below HR0_4.out HB.out)); (case side4 => exact HC0_4.out); rintro e w50 ⟨rfl, hb⟩; refine ⟨_, rfl, ?_⟩; replace BK190 := a_ (blk_below (g := gb190) (rb_ BK190.out) hb); replace BK191 := a_ (blk_below (g := gb191) (rb_ BK191.out) hb); replace HB := a_ (below_step z22_ hb); (try clear hb); (try clear hb2); (try clear hk); (try clear hi); obtain ⟨hcz51_0, hcz51_1, hcz51_2, hcz51_3, hcz51_4, hfz51_0, hfz51_1, hfz51_2, hfz51_3, hfz51_4⟩ := cz5_ (w := w50) BK191.out))
  refine bodyPost_ret (results_ct rfl _ _ gb191 27 #[.int .i64 0, .int .i64 0, .slice none 0 0, .slice none 0 0, .slice none 0 0] (0, 0) _ rfl (rb2_ (h := by exact bp5_ BK191.out)) Try.underlying27 rfl (by kernel_rfl)) rfl ?_
  exact ⟨_, _, _, z55_, z56_, z56_, z56_, z22_⟩

end Go.Proofs.Ytkpidjmhdagkfaa.QFnPagePlaces
-- halved
