-- Written by own_print.py of this session's repo over the kit's print (its output, turned at some places).
import Derived.Test.YtkpidjmhdagkfaaQFnPagePlacesx0
import Derived.Test.YtkpidjmhdagkfaaQFnPagePlacesx12
namespace Go.Proofs.Ytkpidjmhdagkfaa.QFnPagePlaces
open Go.RowKit Go.Proofs.YtkpidjmhdagkfaaW.PrintWords Go.Proofs.YtkpidjmhdagkfaaW.PrintLast Go.Proofs.YtkpidjmhdagkfaaW.PrintMore
attribute [local go_sem] max2_int min2_int max_two min_two max_three min_three max_four min_four   -- for this text's walks alone
set_option linter.unusedVariables false
set_option linter.unusedSimpArgs false

/-! ### spec_l05Form: function 87 -/
mutual
def spec_l05Form.l0 : Nat → Int → List (S102) → Int → Int → Int → List Int → List Int → List Int → Option (Int × Int × List Int × List Int × List Int)
 | 0, _, _, _, _, _, _, _, _ => none
 | k + 1, x0, x9, x10, x387000, x387001, x387002, x387003, x387004 => if x10 < (x9.length : Int) then (if 0 ≤ x10 then ((spec_l04Down.f ((rd_T102 x9 x10).f0) ((rd_T102 x9 x10).f1) ((rd_T102 x9 x10).f2) ((rd_T102 x9 x10).f3)).bind fun t392 => (if t392 = true then (spec_l05Form.j1 k x0 x9 x10 (wrap64 ((wrap64 (2 * x10)) + 2)) (wrap64 ((wrap64 (2 * x10)) + 1)) x387000 x387001 x387002 x387003 x387004 ((rd_T102 x9 x10).f0) ((rd_T102 x9 x10).f1) ((rd_T102 x9 x10).f2) ((rd_T102 x9 x10).f3)) else (spec_l05Form.j1 k x0 x9 x10 (wrap64 ((wrap64 (2 * x10)) + 1)) (wrap64 ((wrap64 (2 * x10)) + 2)) x387000 x387001 x387002 x387003 x387004 ((rd_T102 x9 x10).f0) ((rd_T102 x9 x10).f1) ((rd_T102 x9 x10).f2) ((rd_T102 x9 x10).f3)))) else (none)) else (some (x387000, x387001, x387002, x387003, x387004))
def spec_l05Form.j1 : Nat → Int → List (S102) → Int → Int → Int → Int → Int → List Int → List Int → List Int → Int → Int → Bool → Bool → Option (Int × Int × List Int × List Int × List Int)
 | 0, _, _, _, _, _, _, _, _, _, _, _, _, _, _ => none
 | k + 1, x0, x9, x10, x12, x13, x387000, x387001, x387002, x387003, x387004, x392000, x392001, x392002, x392003 => if 0 ≤ (wrap64 ((wrap64 (x392001 * x0)) + x392000)) then (if (wrap64 ((wrap64 (x392001 * x0)) + x392000)) < (x387002.length : Int) then ((some (x387002.set ((wrap64 ((wrap64 (x392001 * x0)) + x392000)) : Int).toNat x12 : List Int)).bind fun y393 => (if 0 ≤ (wrap64 ((wrap64 ((wrap64 ((wrap64 (x392001 * x0)) + x0)) - 1)) - x392000)) then (if (wrap64 ((wrap64 ((wrap64 ((wrap64 (x392001 * x0)) + x0)) - 1)) - x392000)) < (x387003.length : Int) then ((some (x387003.set ((wrap64 ((wrap64 ((wrap64 ((wrap64 (x392001 * x0)) + x0)) - 1)) - x392000)) : Int).toNat x13 : List Int)).bind fun y394 => (if x392003 = true then (if (wrap64 ((wrap64 (x392001 * x0)) + x392000)) < (x387004.length : Int) then (spec_l05Form.l0 k x0 x9 (wrap64 (x10 + 1)) x387000 x387001 y393 y394 (x387004.set ((wrap64 ((wrap64 (x392001 * x0)) + x392000)) : Int).toNat 1)) else (none)) else (spec_l05Form.l0 k x0 x9 (wrap64 (x10 + 1)) x387000 x387001 y393 y394 x387004))) else (none)) else (none))) else (none)) else (none)
end
def spec_l05Form.f (k : Nat) (a0 : Int) (a1 : Int) (a2 : ByteArray) : Option (Int × Int × List Int × List Int × List Int) := if 0 ≤ (wrap64 (a0 * a1)) then (if (wrap64 (a0 * a1) : Int).toNat ≤ 35184372088832 then ((spec_l04Leaves.f k a0 a1 a2).bind fun t387 => (spec_l05Form.l0 k a0 t387 0 a0 a1 (List.replicate (wrap64 (a0 * a1) : Int).toNat 0) (List.replicate (wrap64 (a0 * a1) : Int).toNat 0) (List.replicate (wrap64 (a0 * a1) : Int).toNat 0))) else (none)) else (none)
theorem spec_l05Form.mono_l : ∀ k, (∀ y0 y1 y2 y3 y4 y5 y6 y7, LeO (spec_l05Form.l0 k y0 y1 y2 y3 y4 y5 y6 y7) (spec_l05Form.l0 (k + 1) y0 y1 y2 y3 y4 y5 y6 y7)) ∧ (∀ y0 y1 y2 y3 y4 y5 y6 y7 y8 y9 y10 y11 y12 y13, LeO (spec_l05Form.j1 k y0 y1 y2 y3 y4 y5 y6 y7 y8 y9 y10 y11 y12 y13) (spec_l05Form.j1 (k + 1) y0 y1 y2 y3 y4 y5 y6 y7 y8 y9 y10 y11 y12 y13))
 | 0 => ⟨fun _ _ _ _ _ _ _ _ r h => by simp [spec_l05Form.l0] at h, fun _ _ _ _ _ _ _ _ _ _ _ _ _ _ r h => by simp [spec_l05Form.j1] at h⟩
 | k + 1 => by
  obtain ⟨ih0, ih1⟩ := spec_l05Form.mono_l k
  refine ⟨?_, ?_⟩
  ·intro y0 y1 y2 y3 y4 y5 y6 y7
   unfold spec_l05Form.l0
   repeat' first
   | (with_reducible exact ih0 _ _ _ _ _ _ _ _)
   | (with_reducible exact ih1 _ _ _ _ _ _ _ _ _ _ _ _ _ _)
   | (with_reducible exact spec_l04Leaves.mono _ _ _ _)
   | (with_reducible exact LeO.refl _)
   | (with_reducible exact LeO.none _)
   | (with_reducible refine LeO.ite ?_ ?_)
   | (with_reducible refine LeO.bind ?_ (fun _ => ?_))
   | exact ih0 _ _ _ _ _ _ _ _
   | exact ih1 _ _ _ _ _ _ _ _ _ _ _ _ _ _
   | exact spec_l04Leaves.mono _ _ _ _
   | exact LeO.none _
   | refine LeO.ite ?_ ?_
   | refine LeO.bind ?_ (fun _ => ?_)
  ·intro y0 y1 y2 y3 y4 y5 y6 y7 y8 y9 y10 y11 y12 y13
   unfold spec_l05Form.j1
   repeat' first
   | (with_reducible exact ih0 _ _ _ _ _ _ _ _)
   | (with_reducible exact ih1 _ _ _ _ _ _ _ _ _ _ _ _ _ _)
   | (with_reducible exact spec_l04Leaves.mono _ _ _ _)
   | (with_reducible exact LeO.refl _)
   | (with_reducible exact LeO.none _)
   | (with_reducible refine LeO.ite ?_ ?_)
   | (with_reducible refine LeO.bind ?_ (fun _ => ?_))
   | exact ih0 _ _ _ _ _ _ _ _
   | exact ih1 _ _ _ _ _ _ _ _ _ _ _ _ _ _
   | exact spec_l04Leaves.mono _ _ _ _
   | exact LeO.none _
   | refine LeO.ite ?_ ?_
   | refine LeO.bind ?_ (fun _ => ?_)
theorem spec_l05Form.mono : ∀ a0 a1 a2 k, LeO (spec_l05Form.f k a0 a1 a2) (spec_l05Form.f (k + 1) a0 a1 a2) := by
 intro a0 a1 a2 k
 obtain ⟨ih0, ih1⟩ := spec_l05Form.mono_l k
 unfold spec_l05Form.f
 repeat' first
   | (with_reducible exact ih0 _ _ _ _ _ _ _ _)
   | (with_reducible exact ih1 _ _ _ _ _ _ _ _ _ _ _ _ _ _)
   | (with_reducible exact spec_l04Leaves.mono _ _ _ _)
   | (with_reducible exact LeO.refl _)
   | (with_reducible exact LeO.none _)
   | (with_reducible refine LeO.ite ?_ ?_)
   | (with_reducible refine LeO.bind ?_ (fun _ => ?_))
   | exact ih0 _ _ _ _ _ _ _ _
   | exact ih1 _ _ _ _ _ _ _ _ _ _ _ _ _ _
   | exact spec_l04Leaves.mono _ _ _ _
   | exact LeO.none _
   | refine LeO.ite ?_ ?_
   | refine LeO.bind ?_ (fun _ => ?_)
def spec_l05Form.T2 : Bool × List (List Nat × List Nat) := (true, [([], []), ([], []), ([], []), ([2, 2], [2]), ([], []), ([4, 4], [4]), ([], []), ([6, 6], [6]), ([0, 1, 3, 5, 7], [0, 1, 3, 5, 7]), ([], []), ([9, 8, 0, 1, 2, 3, 4, 5, 6, 7, 8, 9], [8, 9])])
def spec_l05Form.B2 : List Nat := [0, 0, 0, 4, 0, 16, 0, 64, 255, 0, 1023]
theorem spec_l05Form.tab2 : rtab .any (opsOf Try.f87 2) = spec_l05Form.T2 := by kernel_rfl
theorem spec_l05Form.bits2 : waitsOk spec_l05Form.T2.2 spec_l05Form.B2 = true := by kernel_rfl
set_option maxHeartbeats 8000000 in
set_option maxRecDepth 100000 in
theorem spec_l05Form.calls (k : Nat) (a0 : Int) (a1 : Int) (a2 : ByteArray) (r1 : Int) (r2 : Int) (r3 : List Int) (r4 : List Int) (r5 : List Int) (w : World) (h : spec_l05Form.f k a0 a1 a2 = some (r1, r2, r3, r4, r5)) :
  Calls Try.prog 87 #[.int .i64 a0, .int .i64 a1, .string a2] w fun e w' => ∃ v2_ v3_ v4_ : Value, e = .returned (.agg #[.int .i64 r1, .int .i64 r2, v2_, v3_, v4_]) ∧ Kd.R (Kd.int .i64) 2 w' w.heap.size (fun k_ => some k_ ≠ (v3_ : Value).ownBlock ∧ some k_ ≠ (v4_ : Value).ownBlock) v2_ r3 ∧ Kd.R (Kd.int .i64) 2 w' w.heap.size (fun k_ => some k_ ≠ (v2_ : Value).ownBlock ∧ some k_ ≠ (v4_ : Value).ownBlock) v3_ r4 ∧ Kd.R (Kd.int .i64) 2 w' w.heap.size (fun k_ => some k_ ≠ (v2_ : Value).ownBlock ∧ some k_ ≠ (v3_ : Value).ownBlock) v4_ r5 ∧ Below w.heap.size w w' := by
 have hu27 := Try.underlying27
 have hu102 := Try.underlying102
 have HB := a_ (Below.refl w.heap.size w)
 have H : (if 0 ≤ (wrap64 (a0 * a1)) then (if (wrap64 (a0 * a1) : Int).toNat ≤ 35184372088832 then ((spec_l04Leaves.f k a0 a1 a2).bind fun t387 => (spec_l05Form.l0 k a0 t387 0 a0 a1 (List.replicate (wrap64 (a0 * a1) : Int).toNat 0) (List.replicate (wrap64 (a0 * a1) : Int).toNat 0) (List.replicate (wrap64 (a0 * a1) : Int).toNat 0))) else (none)) else (none)) = some (r1, r2, r3, r4, r5) := h
 clear h
 obtain ⟨ji4, hji4⟩ : ∃ j_ : Int, (wrap64 (a0 * a1)) = j_ := ⟨_, rfl⟩
 replace H : (if 0 ≤ (ji4) then (if (ji4 : Int).toNat ≤ 35184372088832 then ((spec_l04Leaves.f k a0 a1 a2).bind fun t387 => (spec_l05Form.l0 k a0 t387 0 a0 a1 (List.replicate (ji4 : Int).toNat 0) (List.replicate (ji4 : Int).toNat 0) (List.replicate (ji4 : Int).toNat 0))) else (none)) else (none)) = some (r1, r2, r3, r4, r5) := by first | (rw [hji4] at H; exact H) | (simp only [hji4] at H ⊢; exact H)
 have hji4w : (IntKind.i64.wrap (a0 * a1)) = ji4 := (i64_w _).trans hji4
 by_cases c5 : 0 ≤ (ji4)
 ·rw [if_pos c5] at H
  have c5b0 := eq_true c5
  have c5b1 : decide (0 ≤ (ji4)) = true := decide_eq_true c5
  clear c5
  by_cases c6 : (ji4 : Int).toNat ≤ 35184372088832
  ·rw [if_pos c6] at H
   have c6b0 := eq_true c6
   have c6b1 : decide ((ji4 : Int).toNat ≤ 35184372088832) = true := decide_eq_true c6
   clear c6
   obtain ⟨y377, hy377⟩ : ∃ y_ : List Int, y_ = (List.replicate (ji4 : Int).toNat 0) := ⟨_, rfl⟩
   replace H : ((spec_l04Leaves.f k a0 a1 a2).bind fun t387 => (spec_l05Form.l0 k a0 t387 0 a0 a1 y377 (List.replicate (ji4 : Int).toNat 0) (List.replicate (ji4 : Int).toNat 0))) = some (r1, r2, r3, r4, r5) := rh_ hy377 H
   have Ny377 := Aside0.mk hy377
   clear hy377
   obtain ⟨y380, hy380⟩ : ∃ y_ : List Int, y_ = (List.replicate (ji4 : Int).toNat 0) := ⟨_, rfl⟩
   replace H : ((spec_l04Leaves.f k a0 a1 a2).bind fun t387 => (spec_l05Form.l0 k a0 t387 0 a0 a1 y377 y380 (List.replicate (ji4 : Int).toNat 0))) = some (r1, r2, r3, r4, r5) := rh_ hy380 H
   have Ny380 := Aside0.mk hy380
   clear hy380
   obtain ⟨y383, hy383⟩ : ∃ y_ : List Int, y_ = (List.replicate (ji4 : Int).toNat 0) := ⟨_, rfl⟩
   replace H : ((spec_l04Leaves.f k a0 a1 a2).bind fun t387 => (spec_l05Form.l0 k a0 t387 0 a0 a1 y377 y380 y383)) = some (r1, r2, r3, r4, r5) := rh_ hy383 H
   have Ny383 := Aside0.mk hy383
   clear hy383
   replace H := Option.bind_eq_some_iff.mp H
   obtain ⟨t387, A70, H⟩ := H
   replace H : (spec_l05Form.l0 k a0 t387 0 a0 a1 y377 y380 y383) = some (r1, r2, r3, r4, r5) := H
   have A7 := Aside0.mk A70
   clear A70
   have H' := Aside0.mk H
   clear H
   go_enter Try.func87, Try.ntmps87
   try go_wp2_with (first | ((with_reducible refine gate_dst (N := 6) rfl ?_); refine box_event ?hg (N := 6) ?hd (cs := #[.int .i64 0, .int .i64 0, .slice none 0 0, .slice none 0 0, .slice none 0 0]) (t := 27) ?hr ?_; (case hd => rfl); (case hg => rfl); (case hr => first | (go_simp; done) | (go_simp; rfl)); intro gb376 hg w8 hbox hb; have BK376 := a_ (hbox); have GW376 := a_ ((z53_ : w.heap.size ≤ gb376)); have GE376 := a_ ((z53_ : w.heap.size ≤ gb376)); replace HB := a_ (below_step z54_ hb); clear hb hbox hg))
   replace BK376 := a_ (blk_drew BK376.out)
   replace HB := a_ (below_drew1 HB.out)
   refine start_ (n := 11) (S := fun w' => True) (ds := []) #[false, false, false, false, false, false, false, false, false, false, false] (by kernel_rfl) rfl rfl trivial (fun hHeld => ?_); refine with_tabW spec_l05Form.tab2 spec_l05Form.bits2 (fun HT_ HW_ => ?_)
   generalize w8.drew = w9 at BK376 HB hHeld ⊢
   refine pu_ (i := 0) (N := some 17) (bs_ 11 1) ?_
   refine pu_ (i := 1) (N := some 18) (bs_ 11 3) ?_
   refine pu_ (i := 2) (N := some 19) (bs_ 11 7) ?_
   refine pu_ (i := 4) (N := some 21) (bs_ 11 23) ?_
   refine pu_ (i := 6) (N := some 23) (bs_ 11 87) ?_
   refine join_ (σ := Value × Value × Value × Nat) 1 #[true, true, true, true, true, true, true, true, true, true, false] (fun s_ => [(20, s_.1), (22, s_.2.1), (24, s_.2.2.1), (8, .pointer (some ⟨s_.2.2.2, 0, none⟩)), (25, .agg #[.int .i64 a0, .int .i64 a1, s_.1, s_.2.1, s_.2.2.1])]) (fun s_ w' => (Kd.R (Kd.int .i64) 2 w' w.heap.size (fun k_ => some k_ ≠ (s_.2.1 : Value).ownBlock ∧ some k_ ≠ (s_.2.2.1 : Value).ownBlock) s_.1 y377) ∧ (Kd.R (Kd.int .i64) 2 w' w.heap.size (fun k_ => some k_ ≠ (s_.1 : Value).ownBlock ∧ some k_ ≠ (s_.2.2.1 : Value).ownBlock) s_.2.1 y380) ∧ (Kd.R (Kd.int .i64) 2 w' w.heap.size (fun k_ => some k_ ≠ (s_.1 : Value).ownBlock ∧ some k_ ≠ (s_.2.1 : Value).ownBlock) s_.2.2.1 y383) ∧ (w'.heap[gb376]? = some (.cells #[.int .i64 0, .int .i64 0, .slice none 0 0, .slice none 0 0, .slice none 0 0] 27 (0, 0))) ∧ (w'.heap[s_.2.2.2]? = some (.cells #[.int .i64 0, .int .i64 0, .slice none 0 0, .slice none 0 0, .slice none 0 0] 27 (0, 0))) ∧ (w.heap.size ≤ s_.2.2.2) ∧ (w.heap.size ≤ s_.2.2.2) ∧ (gb376 ≠ s_.2.2.2) ∧ (s_.2.2.2 ≠ gb376) ∧ (Below w.heap.size w w')) ?_ ?_
   rotate_left
   ·intro hJ3_5_7_9
    refine join_ (σ := Value × Value × Value) 2 #[true, true, true, true, true, true, true, true, true, false, false] (fun s_ => [(20, s_.1), (22, s_.2.1), (24, s_.2.2), (25, .agg #[.int .i64 a0, .int .i64 a1, s_.1, s_.2.1, s_.2.2])]) (fun s_ w' => (Kd.R (Kd.int .i64) 2 w' w.heap.size (fun k_ => some k_ ≠ (s_.2.1 : Value).ownBlock ∧ some k_ ≠ (s_.2.2 : Value).ownBlock) s_.1 y377) ∧ (Kd.R (Kd.int .i64) 2 w' w.heap.size (fun k_ => some k_ ≠ (s_.1 : Value).ownBlock ∧ some k_ ≠ (s_.2.2 : Value).ownBlock) s_.2.1 y380) ∧ (Kd.R (Kd.int .i64) 2 w' w.heap.size (fun k_ => some k_ ≠ (s_.1 : Value).ownBlock ∧ some k_ ≠ (s_.2.1 : Value).ownBlock) s_.2.2 y383) ∧ (w'.heap[gb376]? = some (.cells #[.int .i64 0, .int .i64 0, .slice none 0 0, .slice none 0 0, .slice none 0 0] 27 (0, 0))) ∧ (Below w.heap.size w w')) ?_ ?_
    rotate_left
    ·intro hJ3_5_7
     refine join_ (σ := Value × Value × Nat) 3 #[true, true, true, true, true, true, true, false, false, true, false] (fun s_ => [(20, s_.1), (22, s_.2.1), (8, .pointer (some ⟨s_.2.2, 0, none⟩))]) (fun s_ w' => (Kd.R (Kd.int .i64) 2 w' w.heap.size (fun k_ => some k_ ≠ (s_.2.1 : Value).ownBlock) s_.1 y377) ∧ (Kd.R (Kd.int .i64) 2 w' w.heap.size (fun k_ => some k_ ≠ (s_.1 : Value).ownBlock) s_.2.1 y380) ∧ (w'.heap[gb376]? = some (.cells #[.int .i64 0, .int .i64 0, .slice none 0 0, .slice none 0 0, .slice none 0 0] 27 (0, 0))) ∧ (w'.heap[s_.2.2]? = some (.cells #[.int .i64 0, .int .i64 0, .slice none 0 0, .slice none 0 0, .slice none 0 0] 27 (0, 0))) ∧ (w.heap.size ≤ s_.2.2) ∧ (w.heap.size ≤ s_.2.2) ∧ (gb376 ≠ s_.2.2) ∧ (s_.2.2 ≠ gb376) ∧ (Below w.heap.size w w')) ?_ ?_
     rotate_left
     ·intro hJ3_5_9
      refine join_ (σ := Value × Value × Nat) 3 #[true, true, true, true, true, false, true, true, false, true, false] (fun s_ => [(20, s_.1), (24, s_.2.1), (8, .pointer (some ⟨s_.2.2, 0, none⟩))]) (fun s_ w' => (Kd.R (Kd.int .i64) 2 w' w.heap.size (fun k_ => some k_ ≠ (s_.2.1 : Value).ownBlock) s_.1 y377) ∧ (Kd.R (Kd.int .i64) 2 w' w.heap.size (fun k_ => some k_ ≠ (s_.1 : Value).ownBlock) s_.2.1 y383) ∧ (w'.heap[gb376]? = some (.cells #[.int .i64 0, .int .i64 0, .slice none 0 0, .slice none 0 0, .slice none 0 0] 27 (0, 0))) ∧ (w'.heap[s_.2.2]? = some (.cells #[.int .i64 0, .int .i64 0, .slice none 0 0, .slice none 0 0, .slice none 0 0] 27 (0, 0))) ∧ (w.heap.size ≤ s_.2.2) ∧ (w.heap.size ≤ s_.2.2) ∧ (gb376 ≠ s_.2.2) ∧ (s_.2.2 ≠ gb376) ∧ (Below w.heap.size w w')) ?_ ?_
      rotate_left
      ·intro hJ3_7_9
       refine join_ (σ := Value × Value × Nat) 3 #[true, true, true, false, true, true, true, true, false, true, false] (fun s_ => [(22, s_.1), (24, s_.2.1), (8, .pointer (some ⟨s_.2.2, 0, none⟩))]) (fun s_ w' => (Kd.R (Kd.int .i64) 2 w' w.heap.size (fun k_ => some k_ ≠ (s_.2.1 : Value).ownBlock) s_.1 y380) ∧ (Kd.R (Kd.int .i64) 2 w' w.heap.size (fun k_ => some k_ ≠ (s_.1 : Value).ownBlock) s_.2.1 y383) ∧ (w'.heap[gb376]? = some (.cells #[.int .i64 0, .int .i64 0, .slice none 0 0, .slice none 0 0, .slice none 0 0] 27 (0, 0))) ∧ (w'.heap[s_.2.2]? = some (.cells #[.int .i64 0, .int .i64 0, .slice none 0 0, .slice none 0 0, .slice none 0 0] 27 (0, 0))) ∧ (w.heap.size ≤ s_.2.2) ∧ (w.heap.size ≤ s_.2.2) ∧ (gb376 ≠ s_.2.2) ∧ (s_.2.2 ≠ gb376) ∧ (Below w.heap.size w w')) ?_ ?_
       rotate_left
       ·intro hJ5_7_9
        refine join_ (σ := Value × Value) 4 #[true, true, true, true, true, true, true, false, false, false, false] (fun s_ => [(20, s_.1), (22, s_.2)]) (fun s_ w' => (Kd.R (Kd.int .i64) 2 w' w.heap.size (fun k_ => some k_ ≠ (s_.2 : Value).ownBlock) s_.1 y377) ∧ (Kd.R (Kd.int .i64) 2 w' w.heap.size (fun k_ => some k_ ≠ (s_.1 : Value).ownBlock) s_.2 y380) ∧ (w'.heap[gb376]? = some (.cells #[.int .i64 0, .int .i64 0, .slice none 0 0, .slice none 0 0, .slice none 0 0] 27 (0, 0))) ∧ (Below w.heap.size w w')) ?_ ?_
        rotate_left
        ·intro hJ3_5
         refine join_ (σ := Value × Value) 4 #[true, true, true, true, true, false, true, true, false, false, false] (fun s_ => [(20, s_.1), (24, s_.2)]) (fun s_ w' => (Kd.R (Kd.int .i64) 2 w' w.heap.size (fun k_ => some k_ ≠ (s_.2 : Value).ownBlock) s_.1 y377) ∧ (Kd.R (Kd.int .i64) 2 w' w.heap.size (fun k_ => some k_ ≠ (s_.1 : Value).ownBlock) s_.2 y383) ∧ (w'.heap[gb376]? = some (.cells #[.int .i64 0, .int .i64 0, .slice none 0 0, .slice none 0 0, .slice none 0 0] 27 (0, 0))) ∧ (Below w.heap.size w w')) ?_ ?_
         rotate_left
         ·intro hJ3_7
          refine join_ (σ := Value × Nat) 4 #[true, true, true, true, true, false, true, false, false, true, false] (fun s_ => [(20, s_.1), (8, .pointer (some ⟨s_.2, 0, none⟩))]) (fun s_ w' => (Kd.R (Kd.int .i64) 2 w' w.heap.size (fun _ => True) s_.1 y377) ∧ (w'.heap[gb376]? = some (.cells #[.int .i64 0, .int .i64 0, .slice none 0 0, .slice none 0 0, .slice none 0 0] 27 (0, 0))) ∧ (w'.heap[s_.2]? = some (.cells #[.int .i64 0, .int .i64 0, .slice none 0 0, .slice none 0 0, .slice none 0 0] 27 (0, 0))) ∧ (w.heap.size ≤ s_.2) ∧ (w.heap.size ≤ s_.2) ∧ (gb376 ≠ s_.2) ∧ (s_.2 ≠ gb376) ∧ (Below w.heap.size w w')) ?_ ?_
          rotate_left
          ·intro hJ3_9
           refine join_ (σ := Value × Value) 4 #[true, true, true, false, true, true, true, true, false, false, false] (fun s_ => [(22, s_.1), (24, s_.2)]) (fun s_ w' => (Kd.R (Kd.int .i64) 2 w' w.heap.size (fun k_ => some k_ ≠ (s_.2 : Value).ownBlock) s_.1 y380) ∧ (Kd.R (Kd.int .i64) 2 w' w.heap.size (fun k_ => some k_ ≠ (s_.1 : Value).ownBlock) s_.2 y383) ∧ (w'.heap[gb376]? = some (.cells #[.int .i64 0, .int .i64 0, .slice none 0 0, .slice none 0 0, .slice none 0 0] 27 (0, 0))) ∧ (Below w.heap.size w w')) ?_ ?_
           rotate_left
           ·intro hJ5_7
            refine join_ (σ := Value × Nat) 4 #[true, true, true, false, true, true, true, false, false, true, false] (fun s_ => [(22, s_.1), (8, .pointer (some ⟨s_.2, 0, none⟩))]) (fun s_ w' => (Kd.R (Kd.int .i64) 2 w' w.heap.size (fun _ => True) s_.1 y380) ∧ (w'.heap[gb376]? = some (.cells #[.int .i64 0, .int .i64 0, .slice none 0 0, .slice none 0 0, .slice none 0 0] 27 (0, 0))) ∧ (w'.heap[s_.2]? = some (.cells #[.int .i64 0, .int .i64 0, .slice none 0 0, .slice none 0 0, .slice none 0 0] 27 (0, 0))) ∧ (w.heap.size ≤ s_.2) ∧ (w.heap.size ≤ s_.2) ∧ (gb376 ≠ s_.2) ∧ (s_.2 ≠ gb376) ∧ (Below w.heap.size w w')) ?_ ?_
            rotate_left
            ·intro hJ5_9
             refine join_ (σ := Value × Nat) 4 #[true, true, true, false, true, false, true, true, false, true, false] (fun s_ => [(24, s_.1), (8, .pointer (some ⟨s_.2, 0, none⟩))]) (fun s_ w' => (Kd.R (Kd.int .i64) 2 w' w.heap.size (fun _ => True) s_.1 y383) ∧ (w'.heap[gb376]? = some (.cells #[.int .i64 0, .int .i64 0, .slice none 0 0, .slice none 0 0, .slice none 0 0] 27 (0, 0))) ∧ (w'.heap[s_.2]? = some (.cells #[.int .i64 0, .int .i64 0, .slice none 0 0, .slice none 0 0, .slice none 0 0] 27 (0, 0))) ∧ (w.heap.size ≤ s_.2) ∧ (w.heap.size ≤ s_.2) ∧ (gb376 ≠ s_.2) ∧ (s_.2 ≠ gb376) ∧ (Below w.heap.size w w')) ?_ ?_
             rotate_left
             ·intro hJ7_9
              refine join_ (σ := Value) 5 #[true, true, true, true, true, false, true, false, false, false, false] (fun s_ => [(20, s_)]) (fun s_ w' => (Kd.R (Kd.int .i64) 2 w' w.heap.size (fun _ => True) s_ y377) ∧ (w'.heap[gb376]? = some (.cells #[.int .i64 0, .int .i64 0, .slice none 0 0, .slice none 0 0, .slice none 0 0] 27 (0, 0))) ∧ (Below w.heap.size w w')) ?_ ?_
              rotate_left
              ·intro hJ3
               refine join_ (σ := Value) 5 #[true, true, true, false, true, true, true, false, false, false, false] (fun s_ => [(22, s_)]) (fun s_ w' => (Kd.R (Kd.int .i64) 2 w' w.heap.size (fun _ => True) s_ y380) ∧ (w'.heap[gb376]? = some (.cells #[.int .i64 0, .int .i64 0, .slice none 0 0, .slice none 0 0, .slice none 0 0] 27 (0, 0))) ∧ (Below w.heap.size w w')) ?_ ?_
               rotate_left
               ·intro hJ5
                refine join_ (σ := Value) 5 #[true, true, true, false, true, false, true, true, false, false, false] (fun s_ => [(24, s_)]) (fun s_ w' => (Kd.R (Kd.int .i64) 2 w' w.heap.size (fun _ => True) s_ y383) ∧ (w'.heap[gb376]? = some (.cells #[.int .i64 0, .int .i64 0, .slice none 0 0, .slice none 0 0, .slice none 0 0] 27 (0, 0))) ∧ (Below w.heap.size w w')) ?_ ?_
                rotate_left
                ·intro hJ7
                 refine join_ (σ := Nat) 5 #[true, true, true, false, true, false, true, false, false, true, false] (fun s_ => [(8, .pointer (some ⟨s_, 0, none⟩))]) (fun s_ w' => (w'.heap[gb376]? = some (.cells #[.int .i64 0, .int .i64 0, .slice none 0 0, .slice none 0 0, .slice none 0 0] 27 (0, 0))) ∧ (w'.heap[s_]? = some (.cells #[.int .i64 0, .int .i64 0, .slice none 0 0, .slice none 0 0, .slice none 0 0] 27 (0, 0))) ∧ (w.heap.size ≤ s_) ∧ (w.heap.size ≤ s_) ∧ (gb376 ≠ s_) ∧ (s_ ≠ gb376) ∧ (Below w.heap.size w w')) ?_ ?_
                 rotate_left
                 ·intro hJ9
                  refine four_ (i := 3) (j := 5) (k := 7) (m := 9) (Ni := some 20) (Nj := some 22) (Nk := some 24) (Nm := some 8) #[true, true, true, true, true, false, true, false, false, false, false] #[true, true, true, false, true, true, true, false, false, false, false] #[true, true, true, false, true, false, true, true, false, false, false] #[true, true, true, false, true, false, true, false, false, true, false] rfl rfl rfl rfl rfl rfl rfl rfl (four_of HT_.out (by kernel_rfl)) (by decide) (by decide) (by decide) (by decide) (fun K hK => ?_) (fun K hK => ?_) (fun K hK => ?_) (fun K hK => ?_)
                  ·skip
                   refine Kd.R_make_step (Kd.int .i64) _ 2 (by rfl) (N := 20) rfl 22 _ _ rfl ji4 rfl rfl Try.underlying22 (.int .i64 0) 8 info2 rfl (by decide) (by omega) 0 (ok := fun _ => True) (okp := fun _ => True) rfl (fun _ hk => hk) trivial (of_decide_eq_true z90_) (Nat.le_trans (Nat.mul_le_mul_right _ (of_decide_eq_true z90_ : ji4.toNat ≤ 35184372088832)) (by omega)) (Below.refl _ _) (Nat.le_refl _) ?_
                   intro v378 w10 ho11 hb hg_ hnew_
                   clear hg_ hnew_
                   (first | rw [← Ny377.out] at ho11 | (simp only [Int.reduceToNat] at ho11; rw [← Ny377.out] at ho11))
                   have HO379 := a_ (Kd.R_lower ho11 (below_size z46_))
                   replace BK376 := a_ (blk_below (g := gb376) (rb_ BK376.out) hb)
                   replace HB := a_ (below_step z46_ hb)
                   clear hb ho11
                   refine hK.out _ _ trivial (fun hHeld => ?_)
                   clear hK K
                   refine nm_ ?_
                   exact norm_ z26_ (hJ3 (v378) _ ⟨(ra_ HO379.out), (rb_ BK376.out), z46_⟩)
                  ·skip
                   refine Kd.R_make_step (Kd.int .i64) _ 2 (by rfl) (N := 22) rfl 22 _ _ rfl ji4 rfl rfl Try.underlying22 (.int .i64 0) 8 info2 rfl (by decide) (by omega) 0 (ok := fun _ => True) (okp := fun _ => True) rfl (fun _ hk => hk) trivial (of_decide_eq_true z90_) (Nat.le_trans (Nat.mul_le_mul_right _ (of_decide_eq_true z90_ : ji4.toNat ≤ 35184372088832)) (by omega)) (Below.refl _ _) (Nat.le_refl _) ?_
                   intro v381 w10 ho11 hb hg_ hnew_
                   clear hg_ hnew_
                   (first | rw [← Ny380.out] at ho11 | (simp only [Int.reduceToNat] at ho11; rw [← Ny380.out] at ho11))
                   have HO382 := a_ (Kd.R_lower ho11 (below_size z46_))
                   replace BK376 := a_ (blk_below (g := gb376) (rb_ BK376.out) hb)
                   replace HB := a_ (below_step z46_ hb)
                   clear hb ho11
                   refine hK.out _ _ trivial (fun hHeld => ?_)
                   clear hK K
                   refine nm_ ?_
                   exact norm_ z26_ (hJ5 (v381) _ ⟨(ra_ HO382.out), (rb_ BK376.out), z46_⟩)
                  ·skip
                   refine Kd.R_make_step (Kd.int .i64) _ 2 (by rfl) (N := 24) rfl 22 _ _ rfl ji4 rfl rfl Try.underlying22 (.int .i64 0) 8 info2 rfl (by decide) (by omega) 0 (ok := fun _ => True) (okp := fun _ => True) rfl (fun _ hk => hk) trivial (of_decide_eq_true z90_) (Nat.le_trans (Nat.mul_le_mul_right _ (of_decide_eq_true z90_ : ji4.toNat ≤ 35184372088832)) (by omega)) (Below.refl _ _) (Nat.le_refl _) ?_
                   intro v384 w10 ho11 hb hg_ hnew_
                   clear hg_ hnew_
                   (first | rw [← Ny383.out] at ho11 | (simp only [Int.reduceToNat] at ho11; rw [← Ny383.out] at ho11))
                   have HO385 := a_ (Kd.R_lower ho11 (below_size z46_))
                   replace BK376 := a_ (blk_below (g := gb376) (rb_ BK376.out) hb)
                   replace HB := a_ (below_step z46_ hb)
                   clear hb ho11
                   refine hK.out _ _ trivial (fun hHeld => ?_)
                   clear hK K
                   refine nm_ ?_
                   exact norm_ z26_ (hJ7 (v384) _ ⟨(ra_ HO385.out), (rb_ BK376.out), z46_⟩)
                  ·skip
                   refine box_step ?hg (N := 8) ?hd (cs := #[.int .i64 0, .int .i64 0, .slice none 0 0, .slice none 0 0, .slice none 0 0]) (t := 27) ?hr ?_; (case hd => rfl); (case hg => rfl); (case hr => first | (go_simp; done) | (go_simp; rfl))
                   intro gb386 hg w10 hbox hb
                   have BK386 := a_ (hbox)
                   have GW386 := a_ ((z31_ : w.heap.size ≤ gb386))
                   have GE386 := a_ ((z31_ : w.heap.size ≤ gb386))
                   replace HB := a_ (below_step z46_ hb)
                   have NB376_386 := a_ ((z85_ : gb376 ≠ gb386))
                   have NB386_376 := a_ ((z86_ : gb386 ≠ gb376))
                   replace BK376 := a_ (blk_below (g := gb376) (rb_ BK376.out) hb)
                   clear hb hbox hg
                   refine hK.out _ _ trivial (fun hHeld => ?_)
                   clear hK K
                   refine nm_ ?_
                   exact norm_ z26_ (hJ9 (gb386) _ ⟨(rb_ BK376.out), (rb_ BK386.out), GW386.out, GE386.out, NB376_386.out, NB386_376.out, z23_⟩)
                 ·skip
                  rintro gb386 w11 ⟨h0_, h1_, h2_, h3_, h4_, h5_, h6_⟩
                  have n0_ : Aside0 (w11.heap[gb376]? = some (.cells #[.int .i64 0, .int .i64 0, .slice none 0 0, .slice none 0 0, .slice none 0 0] 27 (0, 0))) := ⟨h0_⟩
                  have n1_ : Aside0 (w11.heap[gb386]? = some (.cells #[.int .i64 0, .int .i64 0, .slice none 0 0, .slice none 0 0, .slice none 0 0] 27 (0, 0))) := ⟨h1_⟩
                  have n2_ : Aside0 (w.heap.size ≤ gb386) := ⟨h2_⟩
                  have n3_ : Aside0 (w.heap.size ≤ gb386) := ⟨h3_⟩
                  have n4_ : Aside0 (gb376 ≠ gb386) := ⟨h4_⟩
                  have n5_ : Aside0 (gb386 ≠ gb376) := ⟨h5_⟩
                  have n6_ : Aside0 (Below w.heap.size w w11) := ⟨h6_⟩
                  clear BK376; clear HB
                  clear h0_ h1_ h2_ h3_ h4_ h5_ h6_
                  have BK376 := n0_
                  have BK386 := n1_
                  have GW386 := n2_
                  have GE386 := n3_
                  have NB376_386 := n4_
                  have NB386_376 := n5_
                  have HB := n6_
                  clear n0_ n1_ n2_ n3_ n4_ n5_ n6_
                  have hHeld := trivial
                  refine norm_ (a' := ?_) ?_ ?_
                  rotate_left
                  ·simp only [putAll, Act.put, List.setIfInBounds_toArray, List.set_cons_zero, List.set_cons_succ]
                   rfl
                  refine three_ (i := 3) (j := 5) (k := 7) (Ni := some 20) (Nj := some 22) (Nk := some 24) #[true, true, true, true, true, false, true, false, false, true, false] #[true, true, true, false, true, true, true, false, false, true, false] #[true, true, true, false, true, false, true, true, false, true, false] rfl rfl rfl rfl rfl rfl (three_of HT_.out (by kernel_rfl)) (by decide) (by decide) (by decide) (fun K hK => ?_) (fun K hK => ?_) (fun K hK => ?_)
                  ·skip
                   refine Kd.R_make_step (Kd.int .i64) _ 2 (by rfl) (N := 20) rfl 22 _ _ rfl ji4 rfl rfl Try.underlying22 (.int .i64 0) 8 info2 rfl (by decide) (by omega) 0 (ok := fun _ => True) (okp := fun _ => True) rfl (fun _ hk => hk) trivial (of_decide_eq_true z90_) (Nat.le_trans (Nat.mul_le_mul_right _ (of_decide_eq_true z90_ : ji4.toNat ≤ 35184372088832)) (by omega)) (Below.refl _ _) (Nat.le_refl _) ?_
                   intro v378 w12 ho13 hb hg_ hnew_
                   clear hg_ hnew_
                   (first | rw [← Ny377.out] at ho13 | (simp only [Int.reduceToNat] at ho13; rw [← Ny377.out] at ho13))
                   have HO379 := a_ (Kd.R_lower ho13 (below_size z23_))
                   replace BK376 := a_ (blk_below (g := gb376) (rb_ BK376.out) hb)
                   replace BK386 := a_ (blk_below (g := gb386) (rb_ BK386.out) hb)
                   replace HB := a_ (below_step z23_ hb)
                   clear hb ho13
                   refine hK.out _ _ trivial (fun hHeld => ?_)
                   clear hK K
                   refine nm_ ?_
                   exact norm_ z26_ (hJ3_9 (v378, gb386) _ ⟨(ra_ HO379.out), (rb_ BK376.out), (rb_ BK386.out), GW386.out, GE386.out, NB376_386.out, NB386_376.out, z23_⟩)
                  ·skip
                   refine Kd.R_make_step (Kd.int .i64) _ 2 (by rfl) (N := 22) rfl 22 _ _ rfl ji4 rfl rfl Try.underlying22 (.int .i64 0) 8 info2 rfl (by decide) (by omega) 0 (ok := fun _ => True) (okp := fun _ => True) rfl (fun _ hk => hk) trivial (of_decide_eq_true z90_) (Nat.le_trans (Nat.mul_le_mul_right _ (of_decide_eq_true z90_ : ji4.toNat ≤ 35184372088832)) (by omega)) (Below.refl _ _) (Nat.le_refl _) ?_
                   intro v381 w12 ho13 hb hg_ hnew_
                   clear hg_ hnew_
                   (first | rw [← Ny380.out] at ho13 | (simp only [Int.reduceToNat] at ho13; rw [← Ny380.out] at ho13))
                   have HO382 := a_ (Kd.R_lower ho13 (below_size z23_))
                   replace BK376 := a_ (blk_below (g := gb376) (rb_ BK376.out) hb)
                   replace BK386 := a_ (blk_below (g := gb386) (rb_ BK386.out) hb)
                   replace HB := a_ (below_step z23_ hb)
                   clear hb ho13
                   refine hK.out _ _ trivial (fun hHeld => ?_)
                   clear hK K
                   refine nm_ ?_
                   exact norm_ z26_ (hJ5_9 (v381, gb386) _ ⟨(ra_ HO382.out), (rb_ BK376.out), (rb_ BK386.out), GW386.out, GE386.out, NB376_386.out, NB386_376.out, z23_⟩)
                  ·skip
                   refine Kd.R_make_step (Kd.int .i64) _ 2 (by rfl) (N := 24) rfl 22 _ _ rfl ji4 rfl rfl Try.underlying22 (.int .i64 0) 8 info2 rfl (by decide) (by omega) 0 (ok := fun _ => True) (okp := fun _ => True) rfl (fun _ hk => hk) trivial (of_decide_eq_true z90_) (Nat.le_trans (Nat.mul_le_mul_right _ (of_decide_eq_true z90_ : ji4.toNat ≤ 35184372088832)) (by omega)) (Below.refl _ _) (Nat.le_refl _) ?_
                   intro v384 w12 ho13 hb hg_ hnew_
                   clear hg_ hnew_
                   (first | rw [← Ny383.out] at ho13 | (simp only [Int.reduceToNat] at ho13; rw [← Ny383.out] at ho13))
                   have HO385 := a_ (Kd.R_lower ho13 (below_size z23_))
                   replace BK376 := a_ (blk_below (g := gb376) (rb_ BK376.out) hb)
                   replace BK386 := a_ (blk_below (g := gb386) (rb_ BK386.out) hb)
                   replace HB := a_ (below_step z23_ hb)
                   clear hb ho13
                   refine hK.out _ _ trivial (fun hHeld => ?_)
                   clear hK K
                   refine nm_ ?_
                   exact norm_ z26_ (hJ7_9 (v384, gb386) _ ⟨(ra_ HO385.out), (rb_ BK376.out), (rb_ BK386.out), GW386.out, GE386.out, NB376_386.out, NB386_376.out, z23_⟩)
                ·skip
                 rintro v384 w12 ⟨h0_, h1_, h2_⟩
                 have n0_ : Aside0 (Kd.R (Kd.int .i64) 2 w12 w.heap.size (fun _ => True) v384 y383) := ⟨h0_⟩
                 have n1_ : Aside0 (w12.heap[gb376]? = some (.cells #[.int .i64 0, .int .i64 0, .slice none 0 0, .slice none 0 0, .slice none 0 0] 27 (0, 0))) := ⟨h1_⟩
                 have n2_ : Aside0 (Below w.heap.size w w12) := ⟨h2_⟩
                 clear BK376; clear HB
                 clear h0_ h1_ h2_
                 have HO385 := n0_
                 have BK376 := n1_
                 have HB := n2_
                 clear n0_ n1_ n2_
                 have hHeld := trivial
                 refine norm_ (a' := ?_) ?_ ?_
                 rotate_left
                 ·simp only [putAll, Act.put, List.setIfInBounds_toArray, List.set_cons_zero, List.set_cons_succ]
                  rfl
                 refine three_ (i := 3) (j := 5) (k := 9) (Ni := some 20) (Nj := some 22) (Nk := some 8) #[true, true, true, true, true, false, true, true, false, false, false] #[true, true, true, false, true, true, true, true, false, false, false] #[true, true, true, false, true, false, true, true, false, true, false] rfl rfl rfl rfl rfl rfl (three_of HT_.out (by kernel_rfl)) (by decide) (by decide) (by decide) (fun K hK => ?_) (fun K hK => ?_) (fun K hK => ?_)
                 ·skip
                  refine Kd.R_make_step (Kd.int .i64) _ 2 (by rfl) (N := 20) rfl 22 _ _ rfl ji4 rfl rfl Try.underlying22 (.int .i64 0) 8 info2 rfl (by decide) (by omega) 0 (ok := fun _ => True) (okp := fun _ => True) rfl (fun _ hk => hk) trivial (of_decide_eq_true z90_) (Nat.le_trans (Nat.mul_le_mul_right _ (of_decide_eq_true z90_ : ji4.toNat ≤ 35184372088832)) (by omega)) (Below.refl _ _) (Nat.le_refl _) ?_
                  intro v378 w13 ho14 hb hg_ hnew_
                  clear hg_ hnew_
                  (first | rw [← Ny377.out] at ho14 | (simp only [Int.reduceToNat] at ho14; rw [← Ny377.out] at ho14))
                  have HO379 := a_ (Kd.R_lower (Kd.R_new' ho14 (Kd.R_lt (ra_ HO385.out))) (below_size z46_))
                  replace HO385 := a_ (Kd.R_elder' (ra_ HO385.out) (Kd.R_base ho14) hb)
                  replace BK376 := a_ (blk_below (g := gb376) (rb_ BK376.out) hb)
                  replace HB := a_ (below_step z46_ hb)
                  clear hb ho14
                  refine hK.out _ _ trivial (fun hHeld => ?_)
                  clear hK K
                  refine nm_ ?_
                  exact norm_ z26_ (hJ3_7 (v378, v384) _ ⟨(rc_ (h := by exact Kd.R_mono HO379.out (fun _ hk => hk.2))), (rc_ (h := by exact Kd.R_mono HO385.out (fun _ hk => hk.2))), (rb_ BK376.out), z46_⟩)
                 ·skip
                  refine Kd.R_make_step (Kd.int .i64) _ 2 (by rfl) (N := 22) rfl 22 _ _ rfl ji4 rfl rfl Try.underlying22 (.int .i64 0) 8 info2 rfl (by decide) (by omega) 0 (ok := fun _ => True) (okp := fun _ => True) rfl (fun _ hk => hk) trivial (of_decide_eq_true z90_) (Nat.le_trans (Nat.mul_le_mul_right _ (of_decide_eq_true z90_ : ji4.toNat ≤ 35184372088832)) (by omega)) (Below.refl _ _) (Nat.le_refl _) ?_
                  intro v381 w13 ho14 hb hg_ hnew_
                  clear hg_ hnew_
                  (first | rw [← Ny380.out] at ho14 | (simp only [Int.reduceToNat] at ho14; rw [← Ny380.out] at ho14))
                  have HO382 := a_ (Kd.R_lower (Kd.R_new' ho14 (Kd.R_lt (ra_ HO385.out))) (below_size z46_))
                  replace HO385 := a_ (Kd.R_elder' (ra_ HO385.out) (Kd.R_base ho14) hb)
                  replace BK376 := a_ (blk_below (g := gb376) (rb_ BK376.out) hb)
                  replace HB := a_ (below_step z46_ hb)
                  clear hb ho14
                  refine hK.out _ _ trivial (fun hHeld => ?_)
                  clear hK K
                  refine nm_ ?_
                  exact norm_ z26_ (hJ5_7 (v381, v384) _ ⟨(rc_ (h := by exact Kd.R_mono HO382.out (fun _ hk => hk.2))), (rc_ (h := by exact Kd.R_mono HO385.out (fun _ hk => hk.2))), (rb_ BK376.out), z46_⟩)
                 ·skip
                  refine box_step ?hg (N := 8) ?hd (cs := #[.int .i64 0, .int .i64 0, .slice none 0 0, .slice none 0 0, .slice none 0 0]) (t := 27) ?hr ?_; (case hd => rfl); (case hg => rfl); (case hr => first | (go_simp; done) | (go_simp; rfl))
                  intro gb386 hg w13 hbox hb
                  replace HO385 := a_ (Kd.R_below (ra_ HO385.out) hb)
                  have BK386 := a_ (hbox)
                  have GW386 := a_ ((z31_ : w.heap.size ≤ gb386))
                  have GE386 := a_ ((z31_ : w.heap.size ≤ gb386))
                  replace HB := a_ (below_step z46_ hb)
                  have NB376_386 := a_ ((z85_ : gb376 ≠ gb386))
                  have NB386_376 := a_ ((z86_ : gb386 ≠ gb376))
                  replace BK376 := a_ (blk_below (g := gb376) (rb_ BK376.out) hb)
                  clear hb hbox hg
                  refine hK.out _ _ trivial (fun hHeld => ?_)
                  clear hK K
                  refine nm_ ?_
                  exact norm_ z26_ (hJ7_9 (v384, gb386) _ ⟨(ra_ HO385.out), (rb_ BK376.out), (rb_ BK386.out), GW386.out, GE386.out, NB376_386.out, NB386_376.out, z23_⟩)
               ·skip
                rintro v381 w12 ⟨h0_, h1_, h2_⟩
                have n0_ : Aside0 (Kd.R (Kd.int .i64) 2 w12 w.heap.size (fun _ => True) v381 y380) := ⟨h0_⟩
                have n1_ : Aside0 (w12.heap[gb376]? = some (.cells #[.int .i64 0, .int .i64 0, .slice none 0 0, .slice none 0 0, .slice none 0 0] 27 (0, 0))) := ⟨h1_⟩
                have n2_ : Aside0 (Below w.heap.size w w12) := ⟨h2_⟩
                clear BK376; clear HB
                clear h0_ h1_ h2_
                have HO382 := n0_
                have BK376 := n1_
                have HB := n2_
                clear n0_ n1_ n2_
                have hHeld := trivial
                refine norm_ (a' := ?_) ?_ ?_
                rotate_left
                ·simp only [putAll, Act.put, List.setIfInBounds_toArray, List.set_cons_zero, List.set_cons_succ]
                 rfl
                refine three_ (i := 3) (j := 7) (k := 9) (Ni := some 20) (Nj := some 24) (Nk := some 8) #[true, true, true, true, true, true, true, false, false, false, false] #[true, true, true, false, true, true, true, true, false, false, false] #[true, true, true, false, true, true, true, false, false, true, false] rfl rfl rfl rfl rfl rfl (three_of HT_.out (by kernel_rfl)) (by decide) (by decide) (by decide) (fun K hK => ?_) (fun K hK => ?_) (fun K hK => ?_)
                ·skip
                 refine Kd.R_make_step (Kd.int .i64) _ 2 (by rfl) (N := 20) rfl 22 _ _ rfl ji4 rfl rfl Try.underlying22 (.int .i64 0) 8 info2 rfl (by decide) (by omega) 0 (ok := fun _ => True) (okp := fun _ => True) rfl (fun _ hk => hk) trivial (of_decide_eq_true z90_) (Nat.le_trans (Nat.mul_le_mul_right _ (of_decide_eq_true z90_ : ji4.toNat ≤ 35184372088832)) (by omega)) (Below.refl _ _) (Nat.le_refl _) ?_
                 intro v378 w13 ho14 hb hg_ hnew_
                 clear hg_ hnew_
                 (first | rw [← Ny377.out] at ho14 | (simp only [Int.reduceToNat] at ho14; rw [← Ny377.out] at ho14))
                 have HO379 := a_ (Kd.R_lower (Kd.R_new' ho14 (Kd.R_lt (ra_ HO382.out))) (below_size z46_))
                 replace HO382 := a_ (Kd.R_elder' (ra_ HO382.out) (Kd.R_base ho14) hb)
                 replace BK376 := a_ (blk_below (g := gb376) (rb_ BK376.out) hb)
                 replace HB := a_ (below_step z46_ hb)
                 clear hb ho14
                 refine hK.out _ _ trivial (fun hHeld => ?_)
                 clear hK K
                 refine nm_ ?_
                 exact norm_ z26_ (hJ3_5 (v378, v381) _ ⟨(rc_ (h := by exact Kd.R_mono HO379.out (fun _ hk => hk.2))), (rc_ (h := by exact Kd.R_mono HO382.out (fun _ hk => hk.2))), (rb_ BK376.out), z46_⟩)
                ·skip
                 refine Kd.R_make_step (Kd.int .i64) _ 2 (by rfl) (N := 24) rfl 22 _ _ rfl ji4 rfl rfl Try.underlying22 (.int .i64 0) 8 info2 rfl (by decide) (by omega) 0 (ok := fun _ => True) (okp := fun _ => True) rfl (fun _ hk => hk) trivial (of_decide_eq_true z90_) (Nat.le_trans (Nat.mul_le_mul_right _ (of_decide_eq_true z90_ : ji4.toNat ≤ 35184372088832)) (by omega)) (Below.refl _ _) (Nat.le_refl _) ?_
                 intro v384 w13 ho14 hb hg_ hnew_
                 clear hg_ hnew_
                 (first | rw [← Ny383.out] at ho14 | (simp only [Int.reduceToNat] at ho14; rw [← Ny383.out] at ho14))
                 have HO385 := a_ (Kd.R_lower (Kd.R_new' ho14 (Kd.R_lt (ra_ HO382.out))) (below_size z46_))
                 replace HO382 := a_ (Kd.R_elder' (ra_ HO382.out) (Kd.R_base ho14) hb)
                 replace BK376 := a_ (blk_below (g := gb376) (rb_ BK376.out) hb)
                 replace HB := a_ (below_step z46_ hb)
                 clear hb ho14
                 refine hK.out _ _ trivial (fun hHeld => ?_)
                 clear hK K
                 refine nm_ ?_
                 exact norm_ z26_ (hJ5_7 (v381, v384) _ ⟨(rc_ (h := by exact Kd.R_mono HO382.out (fun _ hk => hk.2))), (rc_ (h := by exact Kd.R_mono HO385.out (fun _ hk => hk.2))), (rb_ BK376.out), z46_⟩)
                ·skip
                 refine box_step ?hg (N := 8) ?hd (cs := #[.int .i64 0, .int .i64 0, .slice none 0 0, .slice none 0 0, .slice none 0 0]) (t := 27) ?hr ?_; (case hd => rfl); (case hg => rfl); (case hr => first | (go_simp; done) | (go_simp; rfl))
                 intro gb386 hg w13 hbox hb
                 replace HO382 := a_ (Kd.R_below (ra_ HO382.out) hb)
                 have BK386 := a_ (hbox)
                 have GW386 := a_ ((z31_ : w.heap.size ≤ gb386))
                 have GE386 := a_ ((z31_ : w.heap.size ≤ gb386))
                 replace HB := a_ (below_step z46_ hb)
                 have NB376_386 := a_ ((z85_ : gb376 ≠ gb386))
                 have NB386_376 := a_ ((z86_ : gb386 ≠ gb376))
                 replace BK376 := a_ (blk_below (g := gb376) (rb_ BK376.out) hb)
                 clear hb hbox hg
                 refine hK.out _ _ trivial (fun hHeld => ?_)
                 clear hK K
                 refine nm_ ?_
                 exact norm_ z26_ (hJ5_9 (v381, gb386) _ ⟨(ra_ HO382.out), (rb_ BK376.out), (rb_ BK386.out), GW386.out, GE386.out, NB376_386.out, NB386_376.out, z23_⟩)
              ·skip
               rintro v378 w12 ⟨h0_, h1_, h2_⟩
               have n0_ : Aside0 (Kd.R (Kd.int .i64) 2 w12 w.heap.size (fun _ => True) v378 y377) := ⟨h0_⟩
               have n1_ : Aside0 (w12.heap[gb376]? = some (.cells #[.int .i64 0, .int .i64 0, .slice none 0 0, .slice none 0 0, .slice none 0 0] 27 (0, 0))) := ⟨h1_⟩
               have n2_ : Aside0 (Below w.heap.size w w12) := ⟨h2_⟩
               clear BK376; clear HB
               clear h0_ h1_ h2_
               have HO379 := n0_
               have BK376 := n1_
               have HB := n2_
               clear n0_ n1_ n2_
               have hHeld := trivial
               refine norm_ (a' := ?_) ?_ ?_
               rotate_left
               ·simp only [putAll, Act.put, List.setIfInBounds_toArray, List.set_cons_zero, List.set_cons_succ]
                rfl
               refine three_ (i := 5) (j := 7) (k := 9) (Ni := some 22) (Nj := some 24) (Nk := some 8) #[true, true, true, true, true, true, true, false, false, false, false] #[true, true, true, true, true, false, true, true, false, false, false] #[true, true, true, true, true, false, true, false, false, true, false] rfl rfl rfl rfl rfl rfl (three_of HT_.out (by kernel_rfl)) (by decide) (by decide) (by decide) (fun K hK => ?_) (fun K hK => ?_) (fun K hK => ?_)
               ·skip
                refine Kd.R_make_step (Kd.int .i64) _ 2 (by rfl) (N := 22) rfl 22 _ _ rfl ji4 rfl rfl Try.underlying22 (.int .i64 0) 8 info2 rfl (by decide) (by omega) 0 (ok := fun _ => True) (okp := fun _ => True) rfl (fun _ hk => hk) trivial (of_decide_eq_true z90_) (Nat.le_trans (Nat.mul_le_mul_right _ (of_decide_eq_true z90_ : ji4.toNat ≤ 35184372088832)) (by omega)) (Below.refl _ _) (Nat.le_refl _) ?_
                intro v381 w13 ho14 hb hg_ hnew_
                clear hg_ hnew_
                (first | rw [← Ny380.out] at ho14 | (simp only [Int.reduceToNat] at ho14; rw [← Ny380.out] at ho14))
                have HO382 := a_ (Kd.R_lower (Kd.R_new' ho14 (Kd.R_lt (ra_ HO379.out))) (below_size z46_))
                replace HO379 := a_ (Kd.R_elder' (ra_ HO379.out) (Kd.R_base ho14) hb)
                replace BK376 := a_ (blk_below (g := gb376) (rb_ BK376.out) hb)
                replace HB := a_ (below_step z46_ hb)
                clear hb ho14
                refine hK.out _ _ trivial (fun hHeld => ?_)
                clear hK K
                refine nm_ ?_
                exact norm_ z26_ (hJ3_5 (v378, v381) _ ⟨(rc_ (h := by exact Kd.R_mono HO379.out (fun _ hk => hk.2))), (rc_ (h := by exact Kd.R_mono HO382.out (fun _ hk => hk.2))), (rb_ BK376.out), z46_⟩)
               ·skip
                refine Kd.R_make_step (Kd.int .i64) _ 2 (by rfl) (N := 24) rfl 22 _ _ rfl ji4 rfl rfl Try.underlying22 (.int .i64 0) 8 info2 rfl (by decide) (by omega) 0 (ok := fun _ => True) (okp := fun _ => True) rfl (fun _ hk => hk) trivial (of_decide_eq_true z90_) (Nat.le_trans (Nat.mul_le_mul_right _ (of_decide_eq_true z90_ : ji4.toNat ≤ 35184372088832)) (by omega)) (Below.refl _ _) (Nat.le_refl _) ?_
                intro v384 w13 ho14 hb hg_ hnew_
                clear hg_ hnew_
                (first | rw [← Ny383.out] at ho14 | (simp only [Int.reduceToNat] at ho14; rw [← Ny383.out] at ho14))
                have HO385 := a_ (Kd.R_lower (Kd.R_new' ho14 (Kd.R_lt (ra_ HO379.out))) (below_size z46_))
                replace HO379 := a_ (Kd.R_elder' (ra_ HO379.out) (Kd.R_base ho14) hb)
                replace BK376 := a_ (blk_below (g := gb376) (rb_ BK376.out) hb)
                replace HB := a_ (below_step z46_ hb)
                clear hb ho14
                refine hK.out _ _ trivial (fun hHeld => ?_)
                clear hK K
                refine nm_ ?_
                exact norm_ z26_ (hJ3_7 (v378, v384) _ ⟨(rc_ (h := by exact Kd.R_mono HO379.out (fun _ hk => hk.2))), (rc_ (h := by exact Kd.R_mono HO385.out (fun _ hk => hk.2))), (rb_ BK376.out), z46_⟩)
               ·skip
                refine box_step ?hg (N := 8) ?hd (cs := #[.int .i64 0, .int .i64 0, .slice none 0 0, .slice none 0 0, .slice none 0 0]) (t := 27) ?hr ?_; (case hd => rfl); (case hg => rfl); (case hr => first | (go_simp; done) | (go_simp; rfl))
                intro gb386 hg w13 hbox hb
                replace HO379 := a_ (Kd.R_below (ra_ HO379.out) hb)
                have BK386 := a_ (hbox)
                have GW386 := a_ ((z31_ : w.heap.size ≤ gb386))
                have GE386 := a_ ((z31_ : w.heap.size ≤ gb386))
                replace HB := a_ (below_step z46_ hb)
                have NB376_386 := a_ ((z85_ : gb376 ≠ gb386))
                have NB386_376 := a_ ((z86_ : gb386 ≠ gb376))
                replace BK376 := a_ (blk_below (g := gb376) (rb_ BK376.out) hb)
                clear hb hbox hg
                refine hK.out _ _ trivial (fun hHeld => ?_)
                clear hK K
                refine nm_ ?_
                exact norm_ z26_ (hJ3_9 (v378, gb386) _ ⟨(ra_ HO379.out), (rb_ BK376.out), (rb_ BK386.out), GW386.out, GE386.out, NB376_386.out, NB386_376.out, z23_⟩)
             ·skip
              rintro ⟨v384, gb386⟩ w13 ⟨h0_, h1_, h2_, h3_, h4_, h5_, h6_, h7_⟩
              have n0_ : Aside0 (Kd.R (Kd.int .i64) 2 w13 w.heap.size (fun _ => True) v384 y383) := ⟨h0_⟩
              have n1_ : Aside0 (w13.heap[gb376]? = some (.cells #[.int .i64 0, .int .i64 0, .slice none 0 0, .slice none 0 0, .slice none 0 0] 27 (0, 0))) := ⟨h1_⟩
              have n2_ : Aside0 (w13.heap[gb386]? = some (.cells #[.int .i64 0, .int .i64 0, .slice none 0 0, .slice none 0 0, .slice none 0 0] 27 (0, 0))) := ⟨h2_⟩
              have n3_ : Aside0 (w.heap.size ≤ gb386) := ⟨h3_⟩
              have n4_ : Aside0 (w.heap.size ≤ gb386) := ⟨h4_⟩
              have n5_ : Aside0 (gb376 ≠ gb386) := ⟨h5_⟩
              have n6_ : Aside0 (gb386 ≠ gb376) := ⟨h6_⟩
              have n7_ : Aside0 (Below w.heap.size w w13) := ⟨h7_⟩
              clear BK376; clear HB
              clear h0_ h1_ h2_ h3_ h4_ h5_ h6_ h7_
              have HO385 := n0_
              have BK376 := n1_
              have BK386 := n2_
              have GW386 := n3_
              have GE386 := n4_
              have NB376_386 := n5_
              have NB386_376 := n6_
              have HB := n7_
              clear n0_ n1_ n2_ n3_ n4_ n5_ n6_ n7_
              have hHeld := trivial
              refine norm_ (a' := ?_) ?_ ?_
              rotate_left
              ·simp only [putAll, Act.put, List.setIfInBounds_toArray, List.set_cons_zero, List.set_cons_succ]
               rfl
              refine two_ (i := 3) (j := 5) (Ni := some 20) (Nj := some 22) #[true, true, true, true, true, false, true, true, false, true, false] #[true, true, true, false, true, true, true, true, false, true, false] rfl rfl rfl rfl (two_of HT_.out (by kernel_rfl)) (by decide) (by decide) (fun K hK => ?_) (fun K hK => ?_)
              ·skip
               refine Kd.R_make_step (Kd.int .i64) _ 2 (by rfl) (N := 20) rfl 22 _ _ rfl ji4 rfl rfl Try.underlying22 (.int .i64 0) 8 info2 rfl (by decide) (by omega) 0 (ok := fun _ => True) (okp := fun _ => True) rfl (fun _ hk => hk) trivial (of_decide_eq_true z90_) (Nat.le_trans (Nat.mul_le_mul_right _ (of_decide_eq_true z90_ : ji4.toNat ≤ 35184372088832)) (by omega)) (Below.refl _ _) (Nat.le_refl _) ?_
               intro v378 w14 ho15 hb hg_ hnew_
               clear hg_ hnew_
               (first | rw [← Ny377.out] at ho15 | (simp only [Int.reduceToNat] at ho15; rw [← Ny377.out] at ho15))
               have HO379 := a_ (Kd.R_lower (Kd.R_new' ho15 (Kd.R_lt (ra_ HO385.out))) (below_size z23_))
               replace HO385 := a_ (Kd.R_elder' (ra_ HO385.out) (Kd.R_base ho15) hb)
               replace BK376 := a_ (blk_below (g := gb376) (rb_ BK376.out) hb)
               replace BK386 := a_ (blk_below (g := gb386) (rb_ BK386.out) hb)
               replace HB := a_ (below_step z23_ hb)
               clear hb ho15
               refine hK.out _ _ trivial (fun hHeld => ?_)
               clear hK K
               refine nm_ ?_
               exact norm_ z26_ (hJ3_7_9 (v378, v384, gb386) _ ⟨(rc_ (h := by exact Kd.R_mono HO379.out (fun _ hk => hk.2))), (rc_ (h := by exact Kd.R_mono HO385.out (fun _ hk => hk.2))), (rb_ BK376.out), (rb_ BK386.out), GW386.out, GE386.out, NB376_386.out, NB386_376.out, z23_⟩)
              ·skip
               refine Kd.R_make_step (Kd.int .i64) _ 2 (by rfl) (N := 22) rfl 22 _ _ rfl ji4 rfl rfl Try.underlying22 (.int .i64 0) 8 info2 rfl (by decide) (by omega) 0 (ok := fun _ => True) (okp := fun _ => True) rfl (fun _ hk => hk) trivial (of_decide_eq_true z90_) (Nat.le_trans (Nat.mul_le_mul_right _ (of_decide_eq_true z90_ : ji4.toNat ≤ 35184372088832)) (by omega)) (Below.refl _ _) (Nat.le_refl _) ?_
               intro v381 w14 ho15 hb hg_ hnew_
               clear hg_ hnew_
               (first | rw [← Ny380.out] at ho15 | (simp only [Int.reduceToNat] at ho15; rw [← Ny380.out] at ho15))
               have HO382 := a_ (Kd.R_lower (Kd.R_new' ho15 (Kd.R_lt (ra_ HO385.out))) (below_size z23_))
               replace HO385 := a_ (Kd.R_elder' (ra_ HO385.out) (Kd.R_base ho15) hb)
               replace BK376 := a_ (blk_below (g := gb376) (rb_ BK376.out) hb)
               replace BK386 := a_ (blk_below (g := gb386) (rb_ BK386.out) hb)
               replace HB := a_ (below_step z23_ hb)
               clear hb ho15
               refine hK.out _ _ trivial (fun hHeld => ?_)
               clear hK K
               refine nm_ ?_
               exact norm_ z26_ (hJ5_7_9 (v381, v384, gb386) _ ⟨(rc_ (h := by exact Kd.R_mono HO382.out (fun _ hk => hk.2))), (rc_ (h := by exact Kd.R_mono HO385.out (fun _ hk => hk.2))), (rb_ BK376.out), (rb_ BK386.out), GW386.out, GE386.out, NB376_386.out, NB386_376.out, z23_⟩)
            ·skip
             rintro ⟨v381, gb386⟩ w13 ⟨h0_, h1_, h2_, h3_, h4_, h5_, h6_, h7_⟩
             have n0_ : Aside0 (Kd.R (Kd.int .i64) 2 w13 w.heap.size (fun _ => True) v381 y380) := ⟨h0_⟩
             have n1_ : Aside0 (w13.heap[gb376]? = some (.cells #[.int .i64 0, .int .i64 0, .slice none 0 0, .slice none 0 0, .slice none 0 0] 27 (0, 0))) := ⟨h1_⟩
             have n2_ : Aside0 (w13.heap[gb386]? = some (.cells #[.int .i64 0, .int .i64 0, .slice none 0 0, .slice none 0 0, .slice none 0 0] 27 (0, 0))) := ⟨h2_⟩
             have n3_ : Aside0 (w.heap.size ≤ gb386) := ⟨h3_⟩
             have n4_ : Aside0 (w.heap.size ≤ gb386) := ⟨h4_⟩
             have n5_ : Aside0 (gb376 ≠ gb386) := ⟨h5_⟩
             have n6_ : Aside0 (gb386 ≠ gb376) := ⟨h6_⟩
             have n7_ : Aside0 (Below w.heap.size w w13) := ⟨h7_⟩
             clear BK376; clear HB
             clear h0_ h1_ h2_ h3_ h4_ h5_ h6_ h7_
             have HO382 := n0_
             have BK376 := n1_
             have BK386 := n2_
             have GW386 := n3_
             have GE386 := n4_
             have NB376_386 := n5_
             have NB386_376 := n6_
             have HB := n7_
             clear n0_ n1_ n2_ n3_ n4_ n5_ n6_ n7_
             have hHeld := trivial
             refine norm_ (a' := ?_) ?_ ?_
             rotate_left
             ·simp only [putAll, Act.put, List.setIfInBounds_toArray, List.set_cons_zero, List.set_cons_succ]
              rfl
             refine two_ (i := 3) (j := 7) (Ni := some 20) (Nj := some 24) #[true, true, true, true, true, true, true, false, false, true, false] #[true, true, true, false, true, true, true, true, false, true, false] rfl rfl rfl rfl (two_of HT_.out (by kernel_rfl)) (by decide) (by decide) (fun K hK => ?_) (fun K hK => ?_)
             ·skip
              refine Kd.R_make_step (Kd.int .i64) _ 2 (by rfl) (N := 20) rfl 22 _ _ rfl ji4 rfl rfl Try.underlying22 (.int .i64 0) 8 info2 rfl (by decide) (by omega) 0 (ok := fun _ => True) (okp := fun _ => True) rfl (fun _ hk => hk) trivial (of_decide_eq_true z90_) (Nat.le_trans (Nat.mul_le_mul_right _ (of_decide_eq_true z90_ : ji4.toNat ≤ 35184372088832)) (by omega)) (Below.refl _ _) (Nat.le_refl _) ?_
              intro v378 w14 ho15 hb hg_ hnew_
              clear hg_ hnew_
              (first | rw [← Ny377.out] at ho15 | (simp only [Int.reduceToNat] at ho15; rw [← Ny377.out] at ho15))
              have HO379 := a_ (Kd.R_lower (Kd.R_new' ho15 (Kd.R_lt (ra_ HO382.out))) (below_size z23_))
              replace HO382 := a_ (Kd.R_elder' (ra_ HO382.out) (Kd.R_base ho15) hb)
              replace BK376 := a_ (blk_below (g := gb376) (rb_ BK376.out) hb)
              replace BK386 := a_ (blk_below (g := gb386) (rb_ BK386.out) hb)
              replace HB := a_ (below_step z23_ hb)
              clear hb ho15
              refine hK.out _ _ trivial (fun hHeld => ?_)
              clear hK K
              refine nm_ ?_
              exact norm_ z26_ (hJ3_5_9 (v378, v381, gb386) _ ⟨(rc_ (h := by exact Kd.R_mono HO379.out (fun _ hk => hk.2))), (rc_ (h := by exact Kd.R_mono HO382.out (fun _ hk => hk.2))), (rb_ BK376.out), (rb_ BK386.out), GW386.out, GE386.out, NB376_386.out, NB386_376.out, z23_⟩)
             ·skip
              refine Kd.R_make_step (Kd.int .i64) _ 2 (by rfl) (N := 24) rfl 22 _ _ rfl ji4 rfl rfl Try.underlying22 (.int .i64 0) 8 info2 rfl (by decide) (by omega) 0 (ok := fun _ => True) (okp := fun _ => True) rfl (fun _ hk => hk) trivial (of_decide_eq_true z90_) (Nat.le_trans (Nat.mul_le_mul_right _ (of_decide_eq_true z90_ : ji4.toNat ≤ 35184372088832)) (by omega)) (Below.refl _ _) (Nat.le_refl _) ?_
              intro v384 w14 ho15 hb hg_ hnew_
              clear hg_ hnew_
              (first | rw [← Ny383.out] at ho15 | (simp only [Int.reduceToNat] at ho15; rw [← Ny383.out] at ho15))
              have HO385 := a_ (Kd.R_lower (Kd.R_new' ho15 (Kd.R_lt (ra_ HO382.out))) (below_size z23_))
              replace HO382 := a_ (Kd.R_elder' (ra_ HO382.out) (Kd.R_base ho15) hb)
              replace BK376 := a_ (blk_below (g := gb376) (rb_ BK376.out) hb)
              replace BK386 := a_ (blk_below (g := gb386) (rb_ BK386.out) hb)
              replace HB := a_ (below_step z23_ hb)
              clear hb ho15
              refine hK.out _ _ trivial (fun hHeld => ?_)
              clear hK K
              refine nm_ ?_
              exact norm_ z26_ (hJ5_7_9 (v381, v384, gb386) _ ⟨(rc_ (h := by exact Kd.R_mono HO382.out (fun _ hk => hk.2))), (rc_ (h := by exact Kd.R_mono HO385.out (fun _ hk => hk.2))), (rb_ BK376.out), (rb_ BK386.out), GW386.out, GE386.out, NB376_386.out, NB386_376.out, z23_⟩)
           ·skip
            rintro ⟨v381, v384⟩ w14 ⟨h0_, h1_, h2_, h3_⟩
            have n0_ : Aside0 (Kd.R (Kd.int .i64) 2 w14 w.heap.size (fun k_ => some k_ ≠ (v384 : Value).ownBlock) v381 y380) := ⟨h0_⟩
            have n1_ : Aside0 (Kd.R (Kd.int .i64) 2 w14 w.heap.size (fun k_ => some k_ ≠ (v381 : Value).ownBlock) v384 y383) := ⟨h1_⟩
            have n2_ : Aside0 (w14.heap[gb376]? = some (.cells #[.int .i64 0, .int .i64 0, .slice none 0 0, .slice none 0 0, .slice none 0 0] 27 (0, 0))) := ⟨h2_⟩
            have n3_ : Aside0 (Below w.heap.size w w14) := ⟨h3_⟩
            clear BK376; clear HB
            clear h0_ h1_ h2_ h3_
            have HO382 := n0_
            have HO385 := n1_
            have BK376 := n2_
            have HB := n3_
            clear n0_ n1_ n2_ n3_
            have hHeld := trivial
            refine norm_ (a' := ?_) ?_ ?_
            rotate_left
            ·simp only [putAll, Act.put, List.setIfInBounds_toArray, List.set_cons_zero, List.set_cons_succ]
             rfl
            refine two_ (i := 3) (j := 9) (Ni := some 20) (Nj := some 8) #[true, true, true, true, true, true, true, true, false, false, false] #[true, true, true, false, true, true, true, true, false, true, false] rfl rfl rfl rfl (two_of HT_.out (by kernel_rfl)) (by decide) (by decide) (fun K hK => ?_) (fun K hK => ?_)
            ·skip
             refine Kd.R_make_step (Kd.int .i64) _ 2 (by rfl) (N := 20) rfl 22 _ _ rfl ji4 rfl rfl Try.underlying22 (.int .i64 0) 8 info2 rfl (by decide) (by omega) 0 (ok := fun _ => True) (okp := fun _ => True) rfl (fun _ hk => hk) trivial (of_decide_eq_true z90_) (Nat.le_trans (Nat.mul_le_mul_right _ (of_decide_eq_true z90_ : ji4.toNat ≤ 35184372088832)) (by omega)) (Below.refl _ _) (Nat.le_refl _) ?_
             intro v378 w15 ho16 hb hg_ hnew_
             clear hg_ hnew_
             (first | rw [← Ny377.out] at ho16 | (simp only [Int.reduceToNat] at ho16; rw [← Ny377.out] at ho16))
             have HO379 := a_ (Kd.R_lower (Kd.R_new' (Kd.R_new' ho16 (Kd.R_lt (ra_ HO382.out))) (Kd.R_lt (ra_ HO385.out))) (below_size z46_))
             replace HO382 := a_ (Kd.R_elder' (ra_ HO382.out) (Kd.R_base ho16) hb)
             replace HO385 := a_ (Kd.R_elder' (ra_ HO385.out) (Kd.R_base ho16) hb)
             replace BK376 := a_ (blk_below (g := gb376) (rb_ BK376.out) hb)
             replace HB := a_ (below_step z46_ hb)
             clear hb ho16
             obtain ⟨Ao17, co17, eo17⟩ := Kd.R_slice HO385.out
             (first | subst eo17 | (injection eo17 with f1_ f2_ f3_; have f4_ := f1_.symm; have f5_ := f3_.symm; clear f1_ f2_ f3_; subst f4_; subst f5_))
             obtain ⟨Ao18, co18, eo18⟩ := Kd.R_slice HO382.out
             (first | subst eo18 | (injection eo18 with f1_ f2_ f3_; have f4_ := f1_.symm; have f5_ := f3_.symm; clear f1_ f2_ f3_; subst f4_; subst f5_))
             obtain ⟨Ao19, co19, eo19⟩ := Kd.R_slice HO379.out
             (first | subst eo19 | (injection eo19 with f1_ f2_ f3_; have f4_ := f1_.symm; have f5_ := f3_.symm; clear f1_ f2_ f3_; subst f4_; subst f5_))
             refine hK.out _ _ trivial (fun hHeld => ?_)
             clear hK K
             refine nm_ ?_
             refine pu_ (i := 8) (N := some 25) (bs_ 11 511) ?_
             exact norm_ z26_ (hJ3_5_7 (.slice Ao19 y377.length co19, .slice Ao18 y380.length co18, .slice Ao17 y383.length co17) _ ⟨(rc_ (h := by exact Kd.R_mono HO379.out (fun _ hk => ⟨hk.1.2, hk.2⟩))), (rc_ (h := by exact Kd.R_mono HO382.out (fun _ hk => ⟨hk.2, hk.1⟩))), (rc_ (h := by exact Kd.R_mono HO385.out (fun _ hk => ⟨hk.2, hk.1⟩))), (rb_ BK376.out), z46_⟩)
            ·skip
             refine box_step ?hg (N := 8) ?hd (cs := #[.int .i64 0, .int .i64 0, .slice none 0 0, .slice none 0 0, .slice none 0 0]) (t := 27) ?hr ?_; (case hd => rfl); (case hg => rfl); (case hr => first | (go_simp; done) | (go_simp; rfl))
             intro gb386 hg w15 hbox hb
             replace HO382 := a_ (Kd.R_below (ra_ HO382.out) hb)
             replace HO385 := a_ (Kd.R_below (ra_ HO385.out) hb)
             have BK386 := a_ (hbox)
             have GW386 := a_ ((z31_ : w.heap.size ≤ gb386))
             have GE386 := a_ ((z31_ : w.heap.size ≤ gb386))
             replace HB := a_ (below_step z46_ hb)
             have NB376_386 := a_ ((z85_ : gb376 ≠ gb386))
             have NB386_376 := a_ ((z86_ : gb386 ≠ gb376))
             replace BK376 := a_ (blk_below (g := gb376) (rb_ BK376.out) hb)
             clear hb hbox hg
             refine hK.out _ _ trivial (fun hHeld => ?_)
             clear hK K
             refine nm_ ?_
             exact norm_ z26_ (hJ5_7_9 (v381, v384, gb386) _ ⟨(ra_ HO382.out), (ra_ HO385.out), (rb_ BK376.out), (rb_ BK386.out), GW386.out, GE386.out, NB376_386.out, NB386_376.out, z23_⟩)
          ·skip
           rintro ⟨v378, gb386⟩ w13 ⟨h0_, h1_, h2_, h3_, h4_, h5_, h6_, h7_⟩
           have n0_ : Aside0 (Kd.R (Kd.int .i64) 2 w13 w.heap.size (fun _ => True) v378 y377) := ⟨h0_⟩
           have n1_ : Aside0 (w13.heap[gb376]? = some (.cells #[.int .i64 0, .int .i64 0, .slice none 0 0, .slice none 0 0, .slice none 0 0] 27 (0, 0))) := ⟨h1_⟩
           have n2_ : Aside0 (w13.heap[gb386]? = some (.cells #[.int .i64 0, .int .i64 0, .slice none 0 0, .slice none 0 0, .slice none 0 0] 27 (0, 0))) := ⟨h2_⟩
           have n3_ : Aside0 (w.heap.size ≤ gb386) := ⟨h3_⟩
           have n4_ : Aside0 (w.heap.size ≤ gb386) := ⟨h4_⟩
           have n5_ : Aside0 (gb376 ≠ gb386) := ⟨h5_⟩
           have n6_ : Aside0 (gb386 ≠ gb376) := ⟨h6_⟩
           have n7_ : Aside0 (Below w.heap.size w w13) := ⟨h7_⟩
           clear BK376; clear HB
           clear h0_ h1_ h2_ h3_ h4_ h5_ h6_ h7_
           have HO379 := n0_
           have BK376 := n1_
           have BK386 := n2_
           have GW386 := n3_
           have GE386 := n4_
           have NB376_386 := n5_
           have NB386_376 := n6_
           have HB := n7_
           clear n0_ n1_ n2_ n3_ n4_ n5_ n6_ n7_
           have hHeld := trivial
           refine norm_ (a' := ?_) ?_ ?_
           rotate_left
           ·simp only [putAll, Act.put, List.setIfInBounds_toArray, List.set_cons_zero, List.set_cons_succ]
            rfl
           refine two_ (i := 5) (j := 7) (Ni := some 22) (Nj := some 24) #[true, true, true, true, true, true, true, false, false, true, false] #[true, true, true, true, true, false, true, true, false, true, false] rfl rfl rfl rfl (two_of HT_.out (by kernel_rfl)) (by decide) (by decide) (fun K hK => ?_) (fun K hK => ?_)
           ·skip
            refine Kd.R_make_step (Kd.int .i64) _ 2 (by rfl) (N := 22) rfl 22 _ _ rfl ji4 rfl rfl Try.underlying22 (.int .i64 0) 8 info2 rfl (by decide) (by omega) 0 (ok := fun _ => True) (okp := fun _ => True) rfl (fun _ hk => hk) trivial (of_decide_eq_true z90_) (Nat.le_trans (Nat.mul_le_mul_right _ (of_decide_eq_true z90_ : ji4.toNat ≤ 35184372088832)) (by omega)) (Below.refl _ _) (Nat.le_refl _) ?_
            intro v381 w14 ho15 hb hg_ hnew_
            clear hg_ hnew_
            (first | rw [← Ny380.out] at ho15 | (simp only [Int.reduceToNat] at ho15; rw [← Ny380.out] at ho15))
            have HO382 := a_ (Kd.R_lower (Kd.R_new' ho15 (Kd.R_lt (ra_ HO379.out))) (below_size z23_))
            replace HO379 := a_ (Kd.R_elder' (ra_ HO379.out) (Kd.R_base ho15) hb)
            replace BK376 := a_ (blk_below (g := gb376) (rb_ BK376.out) hb)
            replace BK386 := a_ (blk_below (g := gb386) (rb_ BK386.out) hb)
            replace HB := a_ (below_step z23_ hb)
            clear hb ho15
            refine hK.out _ _ trivial (fun hHeld => ?_)
            clear hK K
            refine nm_ ?_
            exact norm_ z26_ (hJ3_5_9 (v378, v381, gb386) _ ⟨(rc_ (h := by exact Kd.R_mono HO379.out (fun _ hk => hk.2))), (rc_ (h := by exact Kd.R_mono HO382.out (fun _ hk => hk.2))), (rb_ BK376.out), (rb_ BK386.out), GW386.out, GE386.out, NB376_386.out, NB386_376.out, z23_⟩)
           ·skip
            refine Kd.R_make_step (Kd.int .i64) _ 2 (by rfl) (N := 24) rfl 22 _ _ rfl ji4 rfl rfl Try.underlying22 (.int .i64 0) 8 info2 rfl (by decide) (by omega) 0 (ok := fun _ => True) (okp := fun _ => True) rfl (fun _ hk => hk) trivial (of_decide_eq_true z90_) (Nat.le_trans (Nat.mul_le_mul_right _ (of_decide_eq_true z90_ : ji4.toNat ≤ 35184372088832)) (by omega)) (Below.refl _ _) (Nat.le_refl _) ?_
            intro v384 w14 ho15 hb hg_ hnew_
            clear hg_ hnew_
            (first | rw [← Ny383.out] at ho15 | (simp only [Int.reduceToNat] at ho15; rw [← Ny383.out] at ho15))
            have HO385 := a_ (Kd.R_lower (Kd.R_new' ho15 (Kd.R_lt (ra_ HO379.out))) (below_size z23_))
            replace HO379 := a_ (Kd.R_elder' (ra_ HO379.out) (Kd.R_base ho15) hb)
            replace BK376 := a_ (blk_below (g := gb376) (rb_ BK376.out) hb)
            replace BK386 := a_ (blk_below (g := gb386) (rb_ BK386.out) hb)
            replace HB := a_ (below_step z23_ hb)
            clear hb ho15
            refine hK.out _ _ trivial (fun hHeld => ?_)
            clear hK K
            refine nm_ ?_
            exact norm_ z26_ (hJ3_7_9 (v378, v384, gb386) _ ⟨(rc_ (h := by exact Kd.R_mono HO379.out (fun _ hk => hk.2))), (rc_ (h := by exact Kd.R_mono HO385.out (fun _ hk => hk.2))), (rb_ BK376.out), (rb_ BK386.out), GW386.out, GE386.out, NB376_386.out, NB386_376.out, z23_⟩)
         ·skip
          rintro ⟨v378, v384⟩ w14 ⟨h0_, h1_, h2_, h3_⟩
          have n0_ : Aside0 (Kd.R (Kd.int .i64) 2 w14 w.heap.size (fun k_ => some k_ ≠ (v384 : Value).ownBlock) v378 y377) := ⟨h0_⟩
          have n1_ : Aside0 (Kd.R (Kd.int .i64) 2 w14 w.heap.size (fun k_ => some k_ ≠ (v378 : Value).ownBlock) v384 y383) := ⟨h1_⟩
          have n2_ : Aside0 (w14.heap[gb376]? = some (.cells #[.int .i64 0, .int .i64 0, .slice none 0 0, .slice none 0 0, .slice none 0 0] 27 (0, 0))) := ⟨h2_⟩
          have n3_ : Aside0 (Below w.heap.size w w14) := ⟨h3_⟩
          clear BK376; clear HB
          clear h0_ h1_ h2_ h3_
          have HO379 := n0_
          have HO385 := n1_
          have BK376 := n2_
          have HB := n3_
          clear n0_ n1_ n2_ n3_
          have hHeld := trivial
          refine norm_ (a' := ?_) ?_ ?_
          rotate_left
          ·simp only [putAll, Act.put, List.setIfInBounds_toArray, List.set_cons_zero, List.set_cons_succ]
           rfl
          refine two_ (i := 5) (j := 9) (Ni := some 22) (Nj := some 8) #[true, true, true, true, true, true, true, true, false, false, false] #[true, true, true, true, true, false, true, true, false, true, false] rfl rfl rfl rfl (two_of HT_.out (by kernel_rfl)) (by decide) (by decide) (fun K hK => ?_) (fun K hK => ?_)
          ·skip
           refine Kd.R_make_step (Kd.int .i64) _ 2 (by rfl) (N := 22) rfl 22 _ _ rfl ji4 rfl rfl Try.underlying22 (.int .i64 0) 8 info2 rfl (by decide) (by omega) 0 (ok := fun _ => True) (okp := fun _ => True) rfl (fun _ hk => hk) trivial (of_decide_eq_true z90_) (Nat.le_trans (Nat.mul_le_mul_right _ (of_decide_eq_true z90_ : ji4.toNat ≤ 35184372088832)) (by omega)) (Below.refl _ _) (Nat.le_refl _) ?_
           intro v381 w15 ho16 hb hg_ hnew_
           clear hg_ hnew_
           (first | rw [← Ny380.out] at ho16 | (simp only [Int.reduceToNat] at ho16; rw [← Ny380.out] at ho16))
           have HO382 := a_ (Kd.R_lower (Kd.R_new' (Kd.R_new' ho16 (Kd.R_lt (ra_ HO379.out))) (Kd.R_lt (ra_ HO385.out))) (below_size z46_))
           replace HO379 := a_ (Kd.R_elder' (ra_ HO379.out) (Kd.R_base ho16) hb)
           replace HO385 := a_ (Kd.R_elder' (ra_ HO385.out) (Kd.R_base ho16) hb)
           replace BK376 := a_ (blk_below (g := gb376) (rb_ BK376.out) hb)
           replace HB := a_ (below_step z46_ hb)
           clear hb ho16
           obtain ⟨Ao17, co17, eo17⟩ := Kd.R_slice HO385.out
           (first | subst eo17 | (injection eo17 with f1_ f2_ f3_; have f4_ := f1_.symm; have f5_ := f3_.symm; clear f1_ f2_ f3_; subst f4_; subst f5_))
           obtain ⟨Ao18, co18, eo18⟩ := Kd.R_slice HO382.out
           (first | subst eo18 | (injection eo18 with f1_ f2_ f3_; have f4_ := f1_.symm; have f5_ := f3_.symm; clear f1_ f2_ f3_; subst f4_; subst f5_))
           obtain ⟨Ao19, co19, eo19⟩ := Kd.R_slice HO379.out
           (first | subst eo19 | (injection eo19 with f1_ f2_ f3_; have f4_ := f1_.symm; have f5_ := f3_.symm; clear f1_ f2_ f3_; subst f4_; subst f5_))
           refine hK.out _ _ trivial (fun hHeld => ?_)
           clear hK K
           refine nm_ ?_
           refine pu_ (i := 8) (N := some 25) (bs_ 11 511) ?_
           exact norm_ z26_ (hJ3_5_7 (.slice Ao19 y377.length co19, .slice Ao18 y380.length co18, .slice Ao17 y383.length co17) _ ⟨(rc_ (h := by exact Kd.R_mono HO379.out (fun _ hk => ⟨hk.2, hk.1⟩))), (rc_ (h := by exact Kd.R_mono HO382.out (fun _ hk => ⟨hk.1.2, hk.2⟩))), (ra_ HO385.out), (rb_ BK376.out), z46_⟩)
          ·skip
           refine box_step ?hg (N := 8) ?hd (cs := #[.int .i64 0, .int .i64 0, .slice none 0 0, .slice none 0 0, .slice none 0 0]) (t := 27) ?hr ?_; (case hd => rfl); (case hg => rfl); (case hr => first | (go_simp; done) | (go_simp; rfl))
           intro gb386 hg w15 hbox hb
           replace HO379 := a_ (Kd.R_below (ra_ HO379.out) hb)
           replace HO385 := a_ (Kd.R_below (ra_ HO385.out) hb)
           have BK386 := a_ (hbox)
           have GW386 := a_ ((z31_ : w.heap.size ≤ gb386))
           have GE386 := a_ ((z31_ : w.heap.size ≤ gb386))
           replace HB := a_ (below_step z46_ hb)
           have NB376_386 := a_ ((z85_ : gb376 ≠ gb386))
           have NB386_376 := a_ ((z86_ : gb386 ≠ gb376))
           replace BK376 := a_ (blk_below (g := gb376) (rb_ BK376.out) hb)
           clear hb hbox hg
           refine hK.out _ _ trivial (fun hHeld => ?_)
           clear hK K
           refine nm_ ?_
           exact norm_ z26_ (hJ3_7_9 (v378, v384, gb386) _ ⟨(ra_ HO379.out), (ra_ HO385.out), (rb_ BK376.out), (rb_ BK386.out), GW386.out, GE386.out, NB376_386.out, NB386_376.out, z23_⟩)
        ·skip
         rintro ⟨v378, v381⟩ w14 ⟨h0_, h1_, h2_, h3_⟩
         have n0_ : Aside0 (Kd.R (Kd.int .i64) 2 w14 w.heap.size (fun k_ => some k_ ≠ (v381 : Value).ownBlock) v378 y377) := ⟨h0_⟩
         have n1_ : Aside0 (Kd.R (Kd.int .i64) 2 w14 w.heap.size (fun k_ => some k_ ≠ (v378 : Value).ownBlock) v381 y380) := ⟨h1_⟩
         have n2_ : Aside0 (w14.heap[gb376]? = some (.cells #[.int .i64 0, .int .i64 0, .slice none 0 0, .slice none 0 0, .slice none 0 0] 27 (0, 0))) := ⟨h2_⟩
         have n3_ : Aside0 (Below w.heap.size w w14) := ⟨h3_⟩
         clear BK376; clear HB
         clear h0_ h1_ h2_ h3_
         have HO379 := n0_
         have HO382 := n1_
         have BK376 := n2_
         have HB := n3_
         clear n0_ n1_ n2_ n3_
         have hHeld := trivial
         refine norm_ (a' := ?_) ?_ ?_
         rotate_left
         ·simp only [putAll, Act.put, List.setIfInBounds_toArray, List.set_cons_zero, List.set_cons_succ]
          rfl
         refine two_ (i := 7) (j := 9) (Ni := some 24) (Nj := some 8) #[true, true, true, true, true, true, true, true, false, false, false] #[true, true, true, true, true, true, true, false, false, true, false] rfl rfl rfl rfl (two_of HT_.out (by kernel_rfl)) (by decide) (by decide) (fun K hK => ?_) (fun K hK => ?_)
         ·skip
          refine Kd.R_make_step (Kd.int .i64) _ 2 (by rfl) (N := 24) rfl 22 _ _ rfl ji4 rfl rfl Try.underlying22 (.int .i64 0) 8 info2 rfl (by decide) (by omega) 0 (ok := fun _ => True) (okp := fun _ => True) rfl (fun _ hk => hk) trivial (of_decide_eq_true z90_) (Nat.le_trans (Nat.mul_le_mul_right _ (of_decide_eq_true z90_ : ji4.toNat ≤ 35184372088832)) (by omega)) (Below.refl _ _) (Nat.le_refl _) ?_
          intro v384 w15 ho16 hb hg_ hnew_
          clear hg_ hnew_
          (first | rw [← Ny383.out] at ho16 | (simp only [Int.reduceToNat] at ho16; rw [← Ny383.out] at ho16))
          have HO385 := a_ (Kd.R_lower (Kd.R_new' (Kd.R_new' ho16 (Kd.R_lt (ra_ HO379.out))) (Kd.R_lt (ra_ HO382.out))) (below_size z46_))
          replace HO379 := a_ (Kd.R_elder' (ra_ HO379.out) (Kd.R_base ho16) hb)
          replace HO382 := a_ (Kd.R_elder' (ra_ HO382.out) (Kd.R_base ho16) hb)
          replace BK376 := a_ (blk_below (g := gb376) (rb_ BK376.out) hb)
          replace HB := a_ (below_step z46_ hb)
          clear hb ho16
          obtain ⟨Ao17, co17, eo17⟩ := Kd.R_slice HO385.out
          (first | subst eo17 | (injection eo17 with f1_ f2_ f3_; have f4_ := f1_.symm; have f5_ := f3_.symm; clear f1_ f2_ f3_; subst f4_; subst f5_))
          obtain ⟨Ao18, co18, eo18⟩ := Kd.R_slice HO382.out
          (first | subst eo18 | (injection eo18 with f1_ f2_ f3_; have f4_ := f1_.symm; have f5_ := f3_.symm; clear f1_ f2_ f3_; subst f4_; subst f5_))
          obtain ⟨Ao19, co19, eo19⟩ := Kd.R_slice HO379.out
          (first | subst eo19 | (injection eo19 with f1_ f2_ f3_; have f4_ := f1_.symm; have f5_ := f3_.symm; clear f1_ f2_ f3_; subst f4_; subst f5_))
          refine hK.out _ _ trivial (fun hHeld => ?_)
          clear hK K
          refine nm_ ?_
          refine pu_ (i := 8) (N := some 25) (bs_ 11 511) ?_
          exact norm_ z26_ (hJ3_5_7 (.slice Ao19 y377.length co19, .slice Ao18 y380.length co18, .slice Ao17 y383.length co17) _ ⟨(ra_ HO379.out), (ra_ HO382.out), (rc_ (h := by exact Kd.R_mono HO385.out (fun _ hk => ⟨hk.1.2, hk.2⟩))), (rb_ BK376.out), z46_⟩)
         ·skip
          refine box_step ?hg (N := 8) ?hd (cs := #[.int .i64 0, .int .i64 0, .slice none 0 0, .slice none 0 0, .slice none 0 0]) (t := 27) ?hr ?_; (case hd => rfl); (case hg => rfl); (case hr => first | (go_simp; done) | (go_simp; rfl))
          intro gb386 hg w15 hbox hb
          replace HO379 := a_ (Kd.R_below (ra_ HO379.out) hb)
          replace HO382 := a_ (Kd.R_below (ra_ HO382.out) hb)
          have BK386 := a_ (hbox)
          have GW386 := a_ ((z31_ : w.heap.size ≤ gb386))
          have GE386 := a_ ((z31_ : w.heap.size ≤ gb386))
          replace HB := a_ (below_step z46_ hb)
          have NB376_386 := a_ ((z85_ : gb376 ≠ gb386))
          have NB386_376 := a_ ((z86_ : gb386 ≠ gb376))
          replace BK376 := a_ (blk_below (g := gb376) (rb_ BK376.out) hb)
          clear hb hbox hg
          refine hK.out _ _ trivial (fun hHeld => ?_)
          clear hK K
          refine nm_ ?_
          exact norm_ z26_ (hJ3_5_9 (v378, v381, gb386) _ ⟨(ra_ HO379.out), (ra_ HO382.out), (rb_ BK376.out), (rb_ BK386.out), GW386.out, GE386.out, NB376_386.out, NB386_376.out, z23_⟩)
       ·skip
        rintro ⟨v381, v384, gb386⟩ w15 ⟨h0_, h1_, h2_, h3_, h4_, h5_, h6_, h7_, h8_⟩
        have n0_ : Aside0 (Kd.R (Kd.int .i64) 2 w15 w.heap.size (fun k_ => some k_ ≠ (v384 : Value).ownBlock) v381 y380) := ⟨h0_⟩
        have n1_ : Aside0 (Kd.R (Kd.int .i64) 2 w15 w.heap.size (fun k_ => some k_ ≠ (v381 : Value).ownBlock) v384 y383) := ⟨h1_⟩
        have n2_ : Aside0 (w15.heap[gb376]? = some (.cells #[.int .i64 0, .int .i64 0, .slice none 0 0, .slice none 0 0, .slice none 0 0] 27 (0, 0))) := ⟨h2_⟩
        have n3_ : Aside0 (w15.heap[gb386]? = some (.cells #[.int .i64 0, .int .i64 0, .slice none 0 0, .slice none 0 0, .slice none 0 0] 27 (0, 0))) := ⟨h3_⟩
        have n4_ : Aside0 (w.heap.size ≤ gb386) := ⟨h4_⟩
        have n5_ : Aside0 (w.heap.size ≤ gb386) := ⟨h5_⟩
        have n6_ : Aside0 (gb376 ≠ gb386) := ⟨h6_⟩
        have n7_ : Aside0 (gb386 ≠ gb376) := ⟨h7_⟩
        have n8_ : Aside0 (Below w.heap.size w w15) := ⟨h8_⟩
        clear BK376; clear HB
        clear h0_ h1_ h2_ h3_ h4_ h5_ h6_ h7_ h8_
        have HO382 := n0_
        have HO385 := n1_
        have BK376 := n2_
        have BK386 := n3_
        have GW386 := n4_
        have GE386 := n5_
        have NB376_386 := n6_
        have NB386_376 := n7_
        have HB := n8_
        clear n0_ n1_ n2_ n3_ n4_ n5_ n6_ n7_ n8_
        have hHeld := trivial
        refine norm_ (a' := ?_) ?_ ?_
        rotate_left
        ·simp only [putAll, Act.put, List.setIfInBounds_toArray, List.set_cons_zero, List.set_cons_succ]
         rfl
        refine one_ (i := 3) (N := some 20) (bs_ 11 767) rfl rfl (one_of HT_.out (by kernel_rfl)) (by decide) (fun K hK => ?_)
        refine Kd.R_make_step (Kd.int .i64) _ 2 (by rfl) (N := 20) rfl 22 _ _ rfl ji4 rfl rfl Try.underlying22 (.int .i64 0) 8 info2 rfl (by decide) (by omega) 0 (ok := fun _ => True) (okp := fun _ => True) rfl (fun _ hk => hk) trivial (of_decide_eq_true z90_) (Nat.le_trans (Nat.mul_le_mul_right _ (of_decide_eq_true z90_ : ji4.toNat ≤ 35184372088832)) (by omega)) (Below.refl _ _) (Nat.le_refl _) ?_
        intro v378 w16 ho17 hb hg_ hnew_
        clear hg_ hnew_
        (first | rw [← Ny377.out] at ho17 | (simp only [Int.reduceToNat] at ho17; rw [← Ny377.out] at ho17))
        have HO379 := a_ (Kd.R_lower (Kd.R_new' (Kd.R_new' ho17 (Kd.R_lt (ra_ HO382.out))) (Kd.R_lt (ra_ HO385.out))) (below_size z23_))
        replace HO382 := a_ (Kd.R_elder' (ra_ HO382.out) (Kd.R_base ho17) hb)
        replace HO385 := a_ (Kd.R_elder' (ra_ HO385.out) (Kd.R_base ho17) hb)
        replace BK376 := a_ (blk_below (g := gb376) (rb_ BK376.out) hb)
        replace BK386 := a_ (blk_below (g := gb386) (rb_ BK386.out) hb)
        replace HB := a_ (below_step z23_ hb)
        clear hb ho17
        obtain ⟨Ao18, co18, eo18⟩ := Kd.R_slice HO385.out
        (first | subst eo18 | (injection eo18 with f1_ f2_ f3_; have f4_ := f1_.symm; have f5_ := f3_.symm; clear f1_ f2_ f3_; subst f4_; subst f5_))
        obtain ⟨Ao19, co19, eo19⟩ := Kd.R_slice HO382.out
        (first | subst eo19 | (injection eo19 with f1_ f2_ f3_; have f4_ := f1_.symm; have f5_ := f3_.symm; clear f1_ f2_ f3_; subst f4_; subst f5_))
        obtain ⟨Ao20, co20, eo20⟩ := Kd.R_slice HO379.out
        (first | subst eo20 | (injection eo20 with f1_ f2_ f3_; have f4_ := f1_.symm; have f5_ := f3_.symm; clear f1_ f2_ f3_; subst f4_; subst f5_))
        refine hK.out _ _ trivial (fun hHeld => ?_)
        clear hK K
        refine nm_ ?_
        refine pu_ (i := 8) (N := some 25) (bs_ 11 1023) ?_
        exact norm_ z26_ (hJ3_5_7_9 (.slice Ao20 y377.length co20, .slice Ao19 y380.length co19, .slice Ao18 y383.length co18, gb386) _ ⟨(rc_ (h := by exact Kd.R_mono HO379.out (fun _ hk => ⟨hk.1.2, hk.2⟩))), (rc_ (h := by exact Kd.R_mono HO382.out (fun _ hk => ⟨hk.2, hk.1⟩))), (rc_ (h := by exact Kd.R_mono HO385.out (fun _ hk => ⟨hk.2, hk.1⟩))), (rb_ BK376.out), (rb_ BK386.out), GW386.out, GE386.out, NB376_386.out, NB386_376.out, z23_⟩)
      ·skip
       rintro ⟨v378, v384, gb386⟩ w15 ⟨h0_, h1_, h2_, h3_, h4_, h5_, h6_, h7_, h8_⟩
       have n0_ : Aside0 (Kd.R (Kd.int .i64) 2 w15 w.heap.size (fun k_ => some k_ ≠ (v384 : Value).ownBlock) v378 y377) := ⟨h0_⟩
       have n1_ : Aside0 (Kd.R (Kd.int .i64) 2 w15 w.heap.size (fun k_ => some k_ ≠ (v378 : Value).ownBlock) v384 y383) := ⟨h1_⟩
       have n2_ : Aside0 (w15.heap[gb376]? = some (.cells #[.int .i64 0, .int .i64 0, .slice none 0 0, .slice none 0 0, .slice none 0 0] 27 (0, 0))) := ⟨h2_⟩
       have n3_ : Aside0 (w15.heap[gb386]? = some (.cells #[.int .i64 0, .int .i64 0, .slice none 0 0, .slice none 0 0, .slice none 0 0] 27 (0, 0))) := ⟨h3_⟩
       have n4_ : Aside0 (w.heap.size ≤ gb386) := ⟨h4_⟩
       have n5_ : Aside0 (w.heap.size ≤ gb386) := ⟨h5_⟩
       have n6_ : Aside0 (gb376 ≠ gb386) := ⟨h6_⟩
       have n7_ : Aside0 (gb386 ≠ gb376) := ⟨h7_⟩
       have n8_ : Aside0 (Below w.heap.size w w15) := ⟨h8_⟩
       clear BK376; clear HB
       clear h0_ h1_ h2_ h3_ h4_ h5_ h6_ h7_ h8_
       have HO379 := n0_
       have HO385 := n1_
       have BK376 := n2_
       have BK386 := n3_
       have GW386 := n4_
       have GE386 := n5_
       have NB376_386 := n6_
       have NB386_376 := n7_
       have HB := n8_
       clear n0_ n1_ n2_ n3_ n4_ n5_ n6_ n7_ n8_
       have hHeld := trivial
       refine norm_ (a' := ?_) ?_ ?_
       rotate_left
       ·simp only [putAll, Act.put, List.setIfInBounds_toArray, List.set_cons_zero, List.set_cons_succ]
        rfl
       refine one_ (i := 5) (N := some 22) (bs_ 11 767) rfl rfl (one_of HT_.out (by kernel_rfl)) (by decide) (fun K hK => ?_)
       refine Kd.R_make_step (Kd.int .i64) _ 2 (by rfl) (N := 22) rfl 22 _ _ rfl ji4 rfl rfl Try.underlying22 (.int .i64 0) 8 info2 rfl (by decide) (by omega) 0 (ok := fun _ => True) (okp := fun _ => True) rfl (fun _ hk => hk) trivial (of_decide_eq_true z90_) (Nat.le_trans (Nat.mul_le_mul_right _ (of_decide_eq_true z90_ : ji4.toNat ≤ 35184372088832)) (by omega)) (Below.refl _ _) (Nat.le_refl _) ?_
       intro v381 w16 ho17 hb hg_ hnew_
       clear hg_ hnew_
       (first | rw [← Ny380.out] at ho17 | (simp only [Int.reduceToNat] at ho17; rw [← Ny380.out] at ho17))
       have HO382 := a_ (Kd.R_lower (Kd.R_new' (Kd.R_new' ho17 (Kd.R_lt (ra_ HO379.out))) (Kd.R_lt (ra_ HO385.out))) (below_size z23_))
       replace HO379 := a_ (Kd.R_elder' (ra_ HO379.out) (Kd.R_base ho17) hb)
       replace HO385 := a_ (Kd.R_elder' (ra_ HO385.out) (Kd.R_base ho17) hb)
       replace BK376 := a_ (blk_below (g := gb376) (rb_ BK376.out) hb)
       replace BK386 := a_ (blk_below (g := gb386) (rb_ BK386.out) hb)
       replace HB := a_ (below_step z23_ hb)
       clear hb ho17
       obtain ⟨Ao18, co18, eo18⟩ := Kd.R_slice HO385.out
       (first | subst eo18 | (injection eo18 with f1_ f2_ f3_; have f4_ := f1_.symm; have f5_ := f3_.symm; clear f1_ f2_ f3_; subst f4_; subst f5_))
       obtain ⟨Ao19, co19, eo19⟩ := Kd.R_slice HO382.out
       (first | subst eo19 | (injection eo19 with f1_ f2_ f3_; have f4_ := f1_.symm; have f5_ := f3_.symm; clear f1_ f2_ f3_; subst f4_; subst f5_))
       obtain ⟨Ao20, co20, eo20⟩ := Kd.R_slice HO379.out
       (first | subst eo20 | (injection eo20 with f1_ f2_ f3_; have f4_ := f1_.symm; have f5_ := f3_.symm; clear f1_ f2_ f3_; subst f4_; subst f5_))
       refine hK.out _ _ trivial (fun hHeld => ?_)
       clear hK K
       refine nm_ ?_
       refine pu_ (i := 8) (N := some 25) (bs_ 11 1023) ?_
       exact norm_ z26_ (hJ3_5_7_9 (.slice Ao20 y377.length co20, .slice Ao19 y380.length co19, .slice Ao18 y383.length co18, gb386) _ ⟨(rc_ (h := by exact Kd.R_mono HO379.out (fun _ hk => ⟨hk.2, hk.1⟩))), (rc_ (h := by exact Kd.R_mono HO382.out (fun _ hk => ⟨hk.1.2, hk.2⟩))), (ra_ HO385.out), (rb_ BK376.out), (rb_ BK386.out), GW386.out, GE386.out, NB376_386.out, NB386_376.out, z23_⟩)
     ·skip
      rintro ⟨v378, v381, gb386⟩ w15 ⟨h0_, h1_, h2_, h3_, h4_, h5_, h6_, h7_, h8_⟩
      have n0_ : Aside0 (Kd.R (Kd.int .i64) 2 w15 w.heap.size (fun k_ => some k_ ≠ (v381 : Value).ownBlock) v378 y377) := ⟨h0_⟩
      have n1_ : Aside0 (Kd.R (Kd.int .i64) 2 w15 w.heap.size (fun k_ => some k_ ≠ (v378 : Value).ownBlock) v381 y380) := ⟨h1_⟩
      have n2_ : Aside0 (w15.heap[gb376]? = some (.cells #[.int .i64 0, .int .i64 0, .slice none 0 0, .slice none 0 0, .slice none 0 0] 27 (0, 0))) := ⟨h2_⟩
      have n3_ : Aside0 (w15.heap[gb386]? = some (.cells #[.int .i64 0, .int .i64 0, .slice none 0 0, .slice none 0 0, .slice none 0 0] 27 (0, 0))) := ⟨h3_⟩
      have n4_ : Aside0 (w.heap.size ≤ gb386) := ⟨h4_⟩
      have n5_ : Aside0 (w.heap.size ≤ gb386) := ⟨h5_⟩
      have n6_ : Aside0 (gb376 ≠ gb386) := ⟨h6_⟩
      have n7_ : Aside0 (gb386 ≠ gb376) := ⟨h7_⟩
      have n8_ : Aside0 (Below w.heap.size w w15) := ⟨h8_⟩
      clear BK376; clear HB
      clear h0_ h1_ h2_ h3_ h4_ h5_ h6_ h7_ h8_
      have HO379 := n0_
      have HO382 := n1_
      have BK376 := n2_
      have BK386 := n3_
      have GW386 := n4_
      have GE386 := n5_
      have NB376_386 := n6_
      have NB386_376 := n7_
      have HB := n8_
      clear n0_ n1_ n2_ n3_ n4_ n5_ n6_ n7_ n8_
      have hHeld := trivial
      refine norm_ (a' := ?_) ?_ ?_
      rotate_left
      ·simp only [putAll, Act.put, List.setIfInBounds_toArray, List.set_cons_zero, List.set_cons_succ]
       rfl
      refine one_ (i := 7) (N := some 24) (bs_ 11 767) rfl rfl (one_of HT_.out (by kernel_rfl)) (by decide) (fun K hK => ?_)
      refine Kd.R_make_step (Kd.int .i64) _ 2 (by rfl) (N := 24) rfl 22 _ _ rfl ji4 rfl rfl Try.underlying22 (.int .i64 0) 8 info2 rfl (by decide) (by omega) 0 (ok := fun _ => True) (okp := fun _ => True) rfl (fun _ hk => hk) trivial (of_decide_eq_true z90_) (Nat.le_trans (Nat.mul_le_mul_right _ (of_decide_eq_true z90_ : ji4.toNat ≤ 35184372088832)) (by omega)) (Below.refl _ _) (Nat.le_refl _) ?_
      intro v384 w16 ho17 hb hg_ hnew_
      clear hg_ hnew_
      (first | rw [← Ny383.out] at ho17 | (simp only [Int.reduceToNat] at ho17; rw [← Ny383.out] at ho17))
      have HO385 := a_ (Kd.R_lower (Kd.R_new' (Kd.R_new' ho17 (Kd.R_lt (ra_ HO379.out))) (Kd.R_lt (ra_ HO382.out))) (below_size z23_))
      replace HO379 := a_ (Kd.R_elder' (ra_ HO379.out) (Kd.R_base ho17) hb)
      replace HO382 := a_ (Kd.R_elder' (ra_ HO382.out) (Kd.R_base ho17) hb)
      replace BK376 := a_ (blk_below (g := gb376) (rb_ BK376.out) hb)
      replace BK386 := a_ (blk_below (g := gb386) (rb_ BK386.out) hb)
      replace HB := a_ (below_step z23_ hb)
      clear hb ho17
      obtain ⟨Ao18, co18, eo18⟩ := Kd.R_slice HO385.out
      (first | subst eo18 | (injection eo18 with f1_ f2_ f3_; have f4_ := f1_.symm; have f5_ := f3_.symm; clear f1_ f2_ f3_; subst f4_; subst f5_))
      obtain ⟨Ao19, co19, eo19⟩ := Kd.R_slice HO382.out
      (first | subst eo19 | (injection eo19 with f1_ f2_ f3_; have f4_ := f1_.symm; have f5_ := f3_.symm; clear f1_ f2_ f3_; subst f4_; subst f5_))
      obtain ⟨Ao20, co20, eo20⟩ := Kd.R_slice HO379.out
      (first | subst eo20 | (injection eo20 with f1_ f2_ f3_; have f4_ := f1_.symm; have f5_ := f3_.symm; clear f1_ f2_ f3_; subst f4_; subst f5_))
      refine hK.out _ _ trivial (fun hHeld => ?_)
      clear hK K
      refine nm_ ?_
      refine pu_ (i := 8) (N := some 25) (bs_ 11 1023) ?_
      exact norm_ z26_ (hJ3_5_7_9 (.slice Ao20 y377.length co20, .slice Ao19 y380.length co19, .slice Ao18 y383.length co18, gb386) _ ⟨(ra_ HO379.out), (ra_ HO382.out), (rc_ (h := by exact Kd.R_mono HO385.out (fun _ hk => ⟨hk.1.2, hk.2⟩))), (rb_ BK376.out), (rb_ BK386.out), GW386.out, GE386.out, NB376_386.out, NB386_376.out, z23_⟩)
    ·skip
     rintro ⟨v378, v381, v384⟩ w19 ⟨h0_, h1_, h2_, h3_, h4_⟩
     have n0_ : Aside0 (Kd.R (Kd.int .i64) 2 w19 w.heap.size (fun k_ => some k_ ≠ (v381 : Value).ownBlock ∧ some k_ ≠ (v384 : Value).ownBlock) v378 y377) := ⟨h0_⟩
     have n1_ : Aside0 (Kd.R (Kd.int .i64) 2 w19 w.heap.size (fun k_ => some k_ ≠ (v378 : Value).ownBlock ∧ some k_ ≠ (v384 : Value).ownBlock) v381 y380) := ⟨h1_⟩
     have n2_ : Aside0 (Kd.R (Kd.int .i64) 2 w19 w.heap.size (fun k_ => some k_ ≠ (v378 : Value).ownBlock ∧ some k_ ≠ (v381 : Value).ownBlock) v384 y383) := ⟨h2_⟩
     have n3_ : Aside0 (w19.heap[gb376]? = some (.cells #[.int .i64 0, .int .i64 0, .slice none 0 0, .slice none 0 0, .slice none 0 0] 27 (0, 0))) := ⟨h3_⟩
     have n4_ : Aside0 (Below w.heap.size w w19) := ⟨h4_⟩
     clear BK376; clear HB
     clear h0_ h1_ h2_ h3_ h4_
     have HO379 := n0_
     have HO382 := n1_
     have HO385 := n2_
     have BK376 := n3_
     have HB := n4_
     clear n0_ n1_ n2_ n3_ n4_
     have hHeld := trivial
     obtain ⟨Ao20, co20, eo20⟩ := Kd.R_slice HO385.out
     (first | subst eo20 | (injection eo20 with f1_ f2_ f3_; have f4_ := f1_.symm; have f5_ := f3_.symm; clear f1_ f2_ f3_; subst f4_; subst f5_))
     obtain ⟨Ao21, co21, eo21⟩ := Kd.R_slice HO382.out
     (first | subst eo21 | (injection eo21 with f1_ f2_ f3_; have f4_ := f1_.symm; have f5_ := f3_.symm; clear f1_ f2_ f3_; subst f4_; subst f5_))
     obtain ⟨Ao22, co22, eo22⟩ := Kd.R_slice HO379.out
     (first | subst eo22 | (injection eo22 with f1_ f2_ f3_; have f4_ := f1_.symm; have f5_ := f3_.symm; clear f1_ f2_ f3_; subst f4_; subst f5_))
     refine norm_ (a' := ?_) ?_ ?_
     rotate_left
     ·simp only [putAll, Act.put, List.setIfInBounds_toArray, List.set_cons_zero, List.set_cons_succ]
      rfl
     refine one_ (i := 9) (N := some 8) (bs_ 11 1023) rfl rfl (one_of HT_.out (by kernel_rfl)) (by decide) (fun K hK => ?_)
     refine box_step ?hg (N := 8) ?hd (cs := #[.int .i64 0, .int .i64 0, .slice none 0 0, .slice none 0 0, .slice none 0 0]) (t := 27) ?hr ?_; (case hd => rfl); (case hg => rfl); (case hr => first | (go_simp; done) | (go_simp; rfl))
     intro gb386 hg w23 hbox hb
     replace HO379 := a_ (Kd.R_below (ra_ HO379.out) hb)
     replace HO382 := a_ (Kd.R_below (ra_ HO382.out) hb)
     replace HO385 := a_ (Kd.R_below (ra_ HO385.out) hb)
     have BK386 := a_ (hbox)
     have GW386 := a_ ((z31_ : w.heap.size ≤ gb386))
     have GE386 := a_ ((z31_ : w.heap.size ≤ gb386))
     replace HB := a_ (below_step z46_ hb)
     have NB376_386 := a_ ((z85_ : gb376 ≠ gb386))
     have NB386_376 := a_ ((z86_ : gb386 ≠ gb376))
     replace BK376 := a_ (blk_below (g := gb376) (rb_ BK376.out) hb)
     clear hb hbox hg
     refine hK.out _ _ trivial (fun hHeld => ?_)
     clear hK K
     refine nm_ ?_
     exact norm_ z26_ (hJ3_5_7_9 (.slice Ao22 y377.length co22, .slice Ao21 y380.length co21, .slice Ao20 y383.length co20, gb386) _ ⟨(ra_ HO379.out), (ra_ HO382.out), (ra_ HO385.out), (rb_ BK376.out), (rb_ BK386.out), GW386.out, GE386.out, NB376_386.out, NB386_376.out, z23_⟩)
   rintro ⟨v378, v381, v384, gb386⟩ w20 ⟨h0_, h1_, h2_, h3_, h4_, h5_, h6_, h7_, h8_, h9_⟩
   have n0_ : Aside0 (Kd.R (Kd.int .i64) 2 w20 w.heap.size (fun k_ => some k_ ≠ (v381 : Value).ownBlock ∧ some k_ ≠ (v384 : Value).ownBlock) v378 y377) := ⟨h0_⟩
   have n1_ : Aside0 (Kd.R (Kd.int .i64) 2 w20 w.heap.size (fun k_ => some k_ ≠ (v378 : Value).ownBlock ∧ some k_ ≠ (v384 : Value).ownBlock) v381 y380) := ⟨h1_⟩
   have n2_ : Aside0 (Kd.R (Kd.int .i64) 2 w20 w.heap.size (fun k_ => some k_ ≠ (v378 : Value).ownBlock ∧ some k_ ≠ (v381 : Value).ownBlock) v384 y383) := ⟨h2_⟩
   have n3_ : Aside0 (w20.heap[gb376]? = some (.cells #[.int .i64 0, .int .i64 0, .slice none 0 0, .slice none 0 0, .slice none 0 0] 27 (0, 0))) := ⟨h3_⟩
   have n4_ : Aside0 (w20.heap[gb386]? = some (.cells #[.int .i64 0, .int .i64 0, .slice none 0 0, .slice none 0 0, .slice none 0 0] 27 (0, 0))) := ⟨h4_⟩
   have n5_ : Aside0 (w.heap.size ≤ gb386) := ⟨h5_⟩
   have n6_ : Aside0 (w.heap.size ≤ gb386) := ⟨h6_⟩
   have n7_ : Aside0 (gb376 ≠ gb386) := ⟨h7_⟩
   have n8_ : Aside0 (gb386 ≠ gb376) := ⟨h8_⟩
   have n9_ : Aside0 (Below w.heap.size w w20) := ⟨h9_⟩
   clear BK376; clear HB
   clear h0_ h1_ h2_ h3_ h4_ h5_ h6_ h7_ h8_ h9_
   have HO379 := n0_
   have HO382 := n1_
   have HO385 := n2_
   have BK376 := n3_
   have BK386 := n4_
   have GW386 := n5_
   have GE386 := n6_
   have NB376_386 := n7_
   have NB386_376 := n8_
   have HB := n9_
   clear n0_ n1_ n2_ n3_ n4_ n5_ n6_ n7_ n8_ n9_
   have hHeld := trivial
   obtain ⟨Ao21, co21, eo21⟩ := Kd.R_slice HO385.out
   (first | subst eo21 | (injection eo21 with f1_ f2_ f3_; have f4_ := f1_.symm; have f5_ := f3_.symm; clear f1_ f2_ f3_; subst f4_; subst f5_))
   obtain ⟨Ao22, co22, eo22⟩ := Kd.R_slice HO382.out
   (first | subst eo22 | (injection eo22 with f1_ f2_ f3_; have f4_ := f1_.symm; have f5_ := f3_.symm; clear f1_ f2_ f3_; subst f4_; subst f5_))
   obtain ⟨Ao23, co23, eo23⟩ := Kd.R_slice HO379.out
   (first | subst eo23 | (injection eo23 with f1_ f2_ f3_; have f4_ := f1_.symm; have f5_ := f3_.symm; clear f1_ f2_ f3_; subst f4_; subst f5_))
   refine norm_ (a' := ?_) ?_ ?_
   rotate_left
   ·simp only [putAll, Act.put, List.setIfInBounds_toArray, List.set_cons_zero, List.set_cons_succ]
    rfl
   refine one_ (i := 10) (N := none) (bs_ 11 2047) rfl rfl (one_of HT_.out (by kernel_rfl)) (by decide) (fun K hK => ?_)
   have hs24 : w20.cell? ⟨gb386, 0, none⟩ = some (.int .i64 0) := (blk_cell BK386.out 0).trans rfl
   have hfs24 := blk_frozen BK386.out 0
   have hns24_0 := NB376_386.out
   have hms24_0 := NB386_376.out
   have hs25 : w20.cell? ⟨gb386, 1, none⟩ = some (.int .i64 0) := (blk_cell BK386.out 1).trans rfl
   have hfs25 := blk_frozen BK386.out 1
   have hns25_0 := NB376_386.out
   have hms25_0 := NB386_376.out
   have hs26 : w20.cell? ⟨gb386, 2, none⟩ = some (.slice none 0 0) := (blk_cell BK386.out 2).trans rfl
   have hfs26 := blk_frozen BK386.out 2
   have hns26_0 := NB376_386.out
   have hms26_0 := NB386_376.out
   have hs27 : w20.cell? ⟨gb386, 3, none⟩ = some (.slice none 0 0) := (blk_cell BK386.out 3).trans rfl
   have hfs27 := blk_frozen BK386.out 3
   have hns27_0 := NB376_386.out
   have hms27_0 := NB386_376.out
   have hs28 : w20.cell? ⟨gb386, 4, none⟩ = some (.slice none 0 0) := (blk_cell BK386.out 4).trans rfl
   have hfs28 := blk_frozen BK386.out 4
   have hns28_0 := NB376_386.out
   have hms28_0 := NB386_376.out
   refine skip_ (w1 := ?_) (by rfl) rfl ?_ ?_
   rotate_left
   ·go_simp
    rfl
   refine hK.out _ _ trivial (fun hHeld => ?_)
   clear hK K
   refine done_ (done_of HT_.out (by kernel_rfl)) ?_
   try go_wp2_with (first | ((with_reducible refine gate_callee (f := 88) rfl ?_); refine goesL_ (some 29) rfl rfl Try.func88 (by kernel_rfl) rfl #[.int .i64 a0, .int .i64 a1, .string a2] rfl z57_ ?_; (with_reducible refine (spec_l04Leaves.calls k a0 a1 a2 t387 _ A7.out).mono ?_); rintro e w29 ⟨v388, rfl, ho0, hb⟩; refine ⟨_, rfl, ?_⟩; replace HO379 := a_ (Kd.R_below (rc_ (h := by exact Kd.R_mono (rt5_ HO379.out BK386.out) (fun _ h_ => h_.1))) hb); replace HO382 := a_ (Kd.R_below (rc_ (h := by exact Kd.R_mono (rt5_ HO382.out BK386.out) (fun _ h_ => h_.1))) hb); replace HO385 := a_ (Kd.R_below (rc_ (h := by exact Kd.R_mono (rt5_ HO385.out BK386.out) (fun _ h_ => h_.1))) hb); have HO389 := a_ (Kd.R_lower ho0 (below_size z23_)); replace BK376 := a_ (blk_below (g := gb376) (o := .cells #[.int .i64 0, .int .i64 0, .slice none 0 0, .slice none 0 0, .slice none 0 0] 27 (0, 0)) (rb2_ (h := by exact bf5_ NB376_386.out BK376.out)) hb); replace BK386 := a_ (blk_below (g := gb386) (o := .cells #[.int .i64 a0, .int .i64 a1, .slice Ao23 y377.length co23, .slice Ao22 y380.length co22, .slice Ao21 y383.length co21] 27 (0, 0)) (rb2_ (h := by exact bp5_ BK386.out)) hb); replace HB := a_ (below_step z23_ hb); (try clear hb); (try clear hb2); (try clear hk); (try clear hi); (try clear ho0)))
   go_loopg [10] k (fun kq v10 w' => ∃ (x10_1 : Int) (x387002_1 : List Int) (x387003_1 : List Int) (x387004_1 : List Int) (u387002 : Value) (u387003 : Value) (u387004 : Value), v10 = .int .i64 x10_1 ∧ Aside0 (spec_l05Form.l0 kq a0 t387 x10_1 a0 a1 x387002_1 x387003_1 x387004_1 = some (r1, r2, r3, r4, r5)) ∧ Aside0 (kq ≤ k) ∧ Aside0 (Kd.R k102 102 w' w.heap.size (fun _ => True) v388 t387) ∧ Aside0 (Kd.R (Kd.int .i64) 2 w' w.heap.size (fun k_ => some k_ ≠ (u387003 : Value).ownBlock ∧ some k_ ≠ (u387004 : Value).ownBlock) u387002 x387002_1) ∧ Aside0 (Kd.R (Kd.int .i64) 2 w' w.heap.size (fun k_ => some k_ ≠ (u387002 : Value).ownBlock ∧ some k_ ≠ (u387004 : Value).ownBlock) u387003 x387003_1) ∧ Aside0 (Kd.R (Kd.int .i64) 2 w' w.heap.size (fun k_ => some k_ ≠ (u387002 : Value).ownBlock ∧ some k_ ≠ (u387003 : Value).ownBlock) u387004 x387004_1) ∧ Aside0 (w'.heap[gb376]? = some (.cells #[.int .i64 0, .int .i64 0, (.slice none 0 0), (.slice none 0 0), (.slice none 0 0)] 27 (0, 0))) ∧ Aside0 (w'.heap[gb386]? = some (.cells #[.int .i64 a0, .int .i64 a1, u387002, u387003, u387004] 27 (0, 0))) ∧ Aside0 (Below w.heap.size w w'))
   case atStart => exact ⟨(0), (y377), (y380), (y383), (.slice Ao23 y377.length co23), (.slice Ao22 y380.length co22), (.slice Ao21 y383.length co21), z91_, H', ⟨Nat.le_refl _⟩, ⟨by (with_reducible repeat (first | apply Kd.R_alloc | apply Kd.R_drewN | apply Kd.R_drew)); exact HO389.out⟩, ⟨by (with_reducible repeat (first | apply Kd.R_alloc | apply Kd.R_drewN | apply Kd.R_drew)); exact HO379.out⟩, ⟨by (with_reducible repeat (first | apply Kd.R_alloc | apply Kd.R_drewN | apply Kd.R_drew)); exact HO382.out⟩, ⟨by (with_reducible repeat (first | apply Kd.R_alloc | apply Kd.R_drewN | apply Kd.R_drew)); exact HO385.out⟩, ⟨z64_⟩, ⟨z65_⟩, ⟨z23_⟩⟩
   case round =>
    clear H'
    obtain ⟨x10_1, x387002_1, x387003_1, x387004_1, u387002, u387003, u387004, rfl, HA, HK1, HO_9, HO_387002, HO_387003, HO_387004, BK376, BK386, HB⟩ := hrel
    cases gk with
    | zero => exact absurd HA.out (by simp [spec_l05Form.l0])
    | succ k1 =>
     have H := HA.out
     clear HA
     simp only [spec_l05Form.l0] at H
     by_cases c30 : x10_1 < (t387.length : Int)
     ·rw [if_pos c30] at H
      have c30b0 : decide (x10_1 < (t387.length : Int)) = true := decide_eq_true c30
      clear c30
      by_cases c31 : 0 ≤ x10_1
      ·rw [if_pos c31] at H
       have c31b0 : decide (0 ≤ x10_1) = true := decide_eq_true c31
       clear c31
       replace H := Option.bind_eq_some_iff.mp H
       obtain ⟨t392, A320, H⟩ := H
       replace H : (if t392 = true then (spec_l05Form.j1 k1 a0 t387 x10_1 (wrap64 ((wrap64 (2 * x10_1)) + 2)) (wrap64 ((wrap64 (2 * x10_1)) + 1)) a0 a1 x387002_1 x387003_1 x387004_1 ((rd_T102 t387 x10_1).f0) ((rd_T102 t387 x10_1).f1) ((rd_T102 t387 x10_1).f2) ((rd_T102 t387 x10_1).f3)) else (spec_l05Form.j1 k1 a0 t387 x10_1 (wrap64 ((wrap64 (2 * x10_1)) + 1)) (wrap64 ((wrap64 (2 * x10_1)) + 2)) a0 a1 x387002_1 x387003_1 x387004_1 ((rd_T102 t387 x10_1).f0) ((rd_T102 t387 x10_1).f1) ((rd_T102 t387 x10_1).f2) ((rd_T102 t387 x10_1).f3))) = some (r1, r2, r3, r4, r5) := H
       have A32 := Aside0.mk A320
       clear A320
       have HC33 := Aside0.mk H
       clear H
       obtain ⟨Ao34, co34, eo34⟩ := Kd.R_slice HO_9.out
       subst eo34
       have p390 : 0 ≤ (x10_1 : Int) := of_decide_eq_true z90_
       have q390 : x10_1 < (t387.length : Int) := of_decide_eq_true z90_
       obtain ⟨ad390, e390, hx390_0, hx390_1, hx390_2, hx390_3⟩ := at_T102 (Kd.R_reads' HO_9.out).2.2 x10_1 p390 q390
       cases e390
       replace p390 := eq_true p390
       replace q390 := eq_true q390
       go_upto_if 47 with (first | ((with_reducible refine gate_dst (N := 11) rfl ?_); refine box_event ?hg (N := 11) ?hd (cs := #[.int .i64 0, .int .i64 0, .bool false, .bool false]) (t := 102) ?hr ?_; (case hd => rfl); (case hg => rfl); (case hr => first | (go_simp; done) | (go_simp; rfl)); intro gb391 hg w35 hbox hb; replace HO_9 := a_ (Kd.R_below (Kd.R_elderB (ra_ HO_9.out) gb391 (Nat.le_of_eq hg.symm)) hb); replace HO_387002 := a_ (Kd.R_below (ra_ HO_387002.out) hb); replace HO_387003 := a_ (Kd.R_below (ra_ HO_387003.out) hb); replace HO_387004 := a_ (Kd.R_below (ra_ HO_387004.out) hb); have BK391 := a_ (hbox); have GW391 := a_ ((by rw [hg]; exact (below_size z23_) : w.heap.size ≤ gb391)); have GE391 := a_ ((by rw [hg]; exact (below_size z23_) : w.heap.size ≤ gb391)); replace HB := a_ (below_step z23_ hb); have NB376_391 := a_ ((z85_ : gb376 ≠ gb391)); have NB391_376 := a_ ((z86_ : gb391 ≠ gb376)); replace BK376 := a_ (blk_below (g := gb376) (rb_ BK376.out) hb); have NB386_391 := a_ ((by rw [hg]; exact Nat.ne_of_lt (blk_lt (g := gb386) (rb_ BK386.out)) : gb386 ≠ gb391)); have NB391_386 := a_ ((by rw [hg]; exact Nat.ne_of_gt (blk_lt (g := gb386) (rb_ BK386.out)) : gb391 ≠ gb386)); replace BK386 := a_ (blk_below (g := gb386) (rb_ BK386.out) hb); clear hb hbox hg; have hnb36 := NB391_376.out; have hnc36 := NB376_391.out; have hnb37 := NB391_386.out; have hnc37 := NB386_391.out; obtain ⟨hcz38_0, hcz38_1, hcz38_2, hcz38_3, hfz38_0, hfz38_1, hfz38_2, hfz38_3⟩ := cz4_ (w := w35) BK391.out) | ((with_reducible refine gate_callee (f := 89) rfl ?_); refine goesL_ (some 47) rfl rfl Try.func89 (by kernel_rfl) rfl #[.agg #[.int .i64 ((rd_T102 t387 x10_1).f0), .int .i64 ((rd_T102 t387 x10_1).f1), .bool ((rd_T102 t387 x10_1).f2), .bool ((rd_T102 t387 x10_1).f3)]] rfl z57_ ?_; (with_reducible refine (spec_l04Down.calls ((rd_T102 t387 x10_1).f0) ((rd_T102 t387 x10_1).f1) ((rd_T102 t387 x10_1).f2) ((rd_T102 t387 x10_1).f3) t392 _ A32.out).mono ?_); rintro e w39 ⟨rfl, hb⟩; refine ⟨_, rfl, ?_⟩; replace HO_9 := a_ (Kd.R_below (rc_ (h := by exact Kd.R_mono (Kd.R_far (p := ⟨gb391, 3, none⟩) (Kd.R_far (p := ⟨gb391, 2, none⟩) (Kd.R_far (p := ⟨gb391, 1, none⟩) (Kd.R_far (p := ⟨gb391, 0, none⟩) (Kd.R_mono HO_9.out (fun k_ hk => (⟨hk, hk.2⟩ : _ ∧ k_ ≠ gb391))) (fun _ hk => hk.2) (.int .i64 ((rd_T102 t387 x10_1).f0))) (fun _ hk => hk.2) (.int .i64 ((rd_T102 t387 x10_1).f1))) (fun _ hk => hk.2) (.bool ((rd_T102 t387 x10_1).f2))) (fun _ hk => hk.2) (.bool ((rd_T102 t387 x10_1).f3))) (fun _ h_ => h_.1))) hb); replace HO_387002 := a_ (Kd.R_below (rc_ (h := by exact Kd.R_mono (rt4_ HO_387002.out BK391.out) (fun _ h_ => h_.1))) hb); replace HO_387003 := a_ (Kd.R_below (rc_ (h := by exact Kd.R_mono (rt4_ HO_387003.out BK391.out) (fun _ h_ => h_.1))) hb); replace HO_387004 := a_ (Kd.R_below (rc_ (h := by exact Kd.R_mono (rt4_ HO_387004.out BK391.out) (fun _ h_ => h_.1))) hb); replace BK376 := a_ (blk_below (g := gb376) (o := .cells #[.int .i64 0, .int .i64 0, .slice none 0 0, .slice none 0 0, .slice none 0 0] 27 (0, 0)) (rb2_ (h := by exact bf4_ NB376_391.out BK376.out)) hb); replace BK386 := a_ (blk_below (g := gb386) (o := .cells #[.int .i64 a0, .int .i64 a1, u387002, u387003, u387004] 27 (0, 0)) (rb2_ (h := by exact bf4_ NB386_391.out BK386.out)) hb); replace BK391 := a_ (blk_below (g := gb391) (o := .cells #[.int .i64 ((rd_T102 t387 x10_1).f0), .int .i64 ((rd_T102 t387 x10_1).f1), .bool ((rd_T102 t387 x10_1).f2), .bool ((rd_T102 t387 x10_1).f3)] 102 (0, 0)) (rb2_ (h := by exact bp4_ BK391.out)) hb); replace HB := a_ (below_step z10_ hb); (try clear hb); (try clear hb2); (try clear hk); (try clear hi)))
       (try simp only [Act.put, List.setIfInBounds_toArray, List.set_cons_zero, List.set_cons_succ])
       go_cut [12, 13] (fun v12 v13 wc => ∃ (kq : Nat) (x12_32 : Int) (x13_32 : Int), v12 = .int .i64 x12_32 ∧ v13 = .int .i64 x13_32 ∧ Aside0 (spec_l05Form.j1 kq a0 t387 x10_1 x12_32 x13_32 a0 a1 x387002_1 x387003_1 x387004_1 ((rd_T102 t387 x10_1).f0) ((rd_T102 t387 x10_1).f1) ((rd_T102 t387 x10_1).f2) ((rd_T102 t387 x10_1).f3) = some (r1, r2, r3, r4, r5)) ∧ Aside0 (kq ≤ k1) ∧ Aside0 (Kd.R k102 102 wc w.heap.size (fun k_ => k_ ≠ gb391) (.slice (some ad390) t387.length co34) t387) ∧ Aside0 (Kd.R (Kd.int .i64) 2 wc w.heap.size (fun k_ => some k_ ≠ (u387003 : Value).ownBlock ∧ some k_ ≠ (u387004 : Value).ownBlock) u387002 x387002_1) ∧ Aside0 (Kd.R (Kd.int .i64) 2 wc w.heap.size (fun k_ => some k_ ≠ (u387002 : Value).ownBlock ∧ some k_ ≠ (u387004 : Value).ownBlock) u387003 x387003_1) ∧ Aside0 (Kd.R (Kd.int .i64) 2 wc w.heap.size (fun k_ => some k_ ≠ (u387002 : Value).ownBlock ∧ some k_ ≠ (u387003 : Value).ownBlock) u387004 x387004_1) ∧ Aside0 (wc.heap[gb376]? = some (.cells #[.int .i64 0, .int .i64 0, (.slice none 0 0), (.slice none 0 0), (.slice none 0 0)] 27 (0, 0))) ∧ Aside0 (wc.heap[gb386]? = some (.cells #[.int .i64 a0, .int .i64 a1, u387002, u387003, u387004] 27 (0, 0))) ∧ Aside0 (wc.heap[gb391]? = some (.cells #[.int .i64 ((rd_T102 t387 x10_1).f0), .int .i64 ((rd_T102 t387 x10_1).f1), .bool ((rd_T102 t387 x10_1).f2), .bool ((rd_T102 t387 x10_1).f3)] 102 (0, 0))) ∧ Aside0 (Below w.heap.size w wc))
       case first =>
        have H := HC33.out
        clear HC33
        by_cases c40 : t392 = true
        ·subst c40
         have H1 : (spec_l05Form.j1 k1 a0 t387 x10_1 (wrap64 ((wrap64 (2 * x10_1)) + 2)) (wrap64 ((wrap64 (2 * x10_1)) + 1)) a0 a1 x387002_1 x387003_1 x387004_1 ((rd_T102 t387 x10_1).f0) ((rd_T102 t387 x10_1).f1) ((rd_T102 t387 x10_1).f2) ((rd_T102 t387 x10_1).f3)) = some (r1, r2, r3, r4, r5) := by rw [if_pos rfl] at H; exact H
         clear H
         have H := H1
         clear H1
         have H' := Aside0.mk H
         clear H
         go_wp2
         go_meet
         case rel => exact ⟨_, (wrap64 ((wrap64 (2 * x10_1)) + 2)), (wrap64 ((wrap64 (2 * x10_1)) + 1)), z91_, z91_, H', ⟨z89_⟩, ⟨by (with_reducible repeat (first | apply Kd.R_alloc | apply Kd.R_drewN | apply Kd.R_drew)); exact Kd.R_mono HO_9.out (fun _ hk => hk.2)⟩, ⟨z74_⟩, ⟨z75_⟩, ⟨z76_⟩, ⟨z64_⟩, ⟨z65_⟩, ⟨by (with_reducible repeat (first | refine blk_drewN ?_ _ | refine blk_drew ?_ | refine blk_alloc ?_ _)); exact BK391.out⟩, ⟨z10_⟩⟩
        ·replace c40 := Bool.eq_false_iff.mpr c40
         subst c40
         have H1 : (spec_l05Form.j1 k1 a0 t387 x10_1 (wrap64 ((wrap64 (2 * x10_1)) + 1)) (wrap64 ((wrap64 (2 * x10_1)) + 2)) a0 a1 x387002_1 x387003_1 x387004_1 ((rd_T102 t387 x10_1).f0) ((rd_T102 t387 x10_1).f1) ((rd_T102 t387 x10_1).f2) ((rd_T102 t387 x10_1).f3)) = some (r1, r2, r3, r4, r5) := by rw [if_neg (show ¬ (false = true) by decide)] at H; exact H
         clear H
         have H := H1
         clear H1
         have H' := Aside0.mk H
         clear H
         go_wp2
         go_meet
         case rel => exact ⟨_, (wrap64 ((wrap64 (2 * x10_1)) + 1)), (wrap64 ((wrap64 (2 * x10_1)) + 2)), z91_, z91_, H', ⟨z89_⟩, ⟨by (with_reducible repeat (first | apply Kd.R_alloc | apply Kd.R_drewN | apply Kd.R_drew)); exact Kd.R_mono HO_9.out (fun _ hk => hk.2)⟩, ⟨z74_⟩, ⟨z75_⟩, ⟨z76_⟩, ⟨z64_⟩, ⟨z65_⟩, ⟨by (with_reducible repeat (first | refine blk_drewN ?_ _ | refine blk_drew ?_ | refine blk_alloc ?_ _)); exact BK391.out⟩, ⟨z10_⟩⟩
       case rest =>
        clear HC33; try clear c30b0; try clear c31b0; try clear hcz38_0 hcz38_1 hcz38_2 hcz38_3; try clear hfz38_0 hfz38_1 hfz38_2 hfz38_3; try clear hx390_0; try clear hx390_1; try clear hx390_2; try clear hx390_3; try clear p390; try clear q390
        obtain ⟨kq, x12_32, x13_32, rfl, rfl, HA, HJ32, HO_9, HO_387002, HO_387003, HO_387004, BK376, BK386, BK391, HB⟩ := hcut
        cases kq with
        | zero => exact absurd HA.out (by simp [spec_l05Form.j1])
        | succ kj32 =>
         have H := HA.out
         clear HA
         simp only [spec_l05Form.j1] at H
         obtain ⟨ji41, hji41⟩ : ∃ j_ : Int, (wrap64 ((wrap64 (((rd_T102 t387 x10_1).f1) * a0)) + ((rd_T102 t387 x10_1).f0))) = j_ := ⟨_, rfl⟩
         replace H : (if 0 ≤ (ji41) then (if (ji41) < (x387002_1.length : Int) then ((some (x387002_1.set ((ji41) : Int).toNat x12_32 : List Int)).bind fun y393 => (if 0 ≤ (wrap64 ((wrap64 ((wrap64 ((wrap64 (((rd_T102 t387 x10_1).f1) * a0)) + a0)) - 1)) - ((rd_T102 t387 x10_1).f0))) then (if (wrap64 ((wrap64 ((wrap64 ((wrap64 (((rd_T102 t387 x10_1).f1) * a0)) + a0)) - 1)) - ((rd_T102 t387 x10_1).f0))) < (x387003_1.length : Int) then ((some (x387003_1.set ((wrap64 ((wrap64 ((wrap64 ((wrap64 (((rd_T102 t387 x10_1).f1) * a0)) + a0)) - 1)) - ((rd_T102 t387 x10_1).f0))) : Int).toNat x13_32 : List Int)).bind fun y394 => (if ((rd_T102 t387 x10_1).f3) = true then (if (ji41) < (x387004_1.length : Int) then (spec_l05Form.l0 kj32 a0 t387 (wrap64 (x10_1 + 1)) a0 a1 y393 y394 (x387004_1.set ((ji41) : Int).toNat 1)) else (none)) else (spec_l05Form.l0 kj32 a0 t387 (wrap64 (x10_1 + 1)) a0 a1 y393 y394 x387004_1))) else (none)) else (none))) else (none)) else (none)) = some (r1, r2, r3, r4, r5) := by first | (rw [hji41] at H; exact H) | (simp only [hji41] at H ⊢; exact H)
         have hji41w : (IntKind.i64.wrap ((wrap64 (((rd_T102 t387 x10_1).f1) * a0)) + ((rd_T102 t387 x10_1).f0))) = ji41 := (i64_w _).trans hji41
         by_cases c42 : 0 ≤ (ji41)
         ·rw [if_pos c42] at H
          have c42b0 : decide (0 ≤ (ji41)) = true := decide_eq_true c42
          clear c42
          by_cases c43 : (ji41) < (x387002_1.length : Int)
          ·rw [if_pos c43] at H
           have c43b0 : decide ((ji41) < (x387002_1.length : Int)) = true := decide_eq_true c43
           clear c43
           obtain ⟨y393, hy393⟩ : ∃ y_ : List Int, y_ = (x387002_1.set ((ji41) : Int).toNat x12_32) := ⟨_, rfl⟩
           replace H : (if 0 ≤ (wrap64 ((wrap64 ((wrap64 ((wrap64 (((rd_T102 t387 x10_1).f1) * a0)) + a0)) - 1)) - ((rd_T102 t387 x10_1).f0))) then (if (wrap64 ((wrap64 ((wrap64 ((wrap64 (((rd_T102 t387 x10_1).f1) * a0)) + a0)) - 1)) - ((rd_T102 t387 x10_1).f0))) < (x387003_1.length : Int) then ((some (x387003_1.set ((wrap64 ((wrap64 ((wrap64 ((wrap64 (((rd_T102 t387 x10_1).f1) * a0)) + a0)) - 1)) - ((rd_T102 t387 x10_1).f0))) : Int).toNat x13_32 : List Int)).bind fun y394 => (if ((rd_T102 t387 x10_1).f3) = true then (if (ji41) < (x387004_1.length : Int) then (spec_l05Form.l0 kj32 a0 t387 (wrap64 (x10_1 + 1)) a0 a1 y393 y394 (x387004_1.set ((ji41) : Int).toNat 1)) else (none)) else (spec_l05Form.l0 kj32 a0 t387 (wrap64 (x10_1 + 1)) a0 a1 y393 y394 x387004_1))) else (none)) else (none)) = some (r1, r2, r3, r4, r5) := rh_ hy393 H
           have Ny393 := Aside0.mk hy393
           clear hy393
           obtain ⟨ji45, hji45⟩ : ∃ j_ : Int, (wrap64 ((wrap64 ((wrap64 ((wrap64 (((rd_T102 t387 x10_1).f1) * a0)) + a0)) - 1)) - ((rd_T102 t387 x10_1).f0))) = j_ := ⟨_, rfl⟩
           replace H : (if 0 ≤ (ji45) then (if (ji45) < (x387003_1.length : Int) then ((some (x387003_1.set ((ji45) : Int).toNat x13_32 : List Int)).bind fun y394 => (if ((rd_T102 t387 x10_1).f3) = true then (if (ji41) < (x387004_1.length : Int) then (spec_l05Form.l0 kj32 a0 t387 (wrap64 (x10_1 + 1)) a0 a1 y393 y394 (x387004_1.set ((ji41) : Int).toNat 1)) else (none)) else (spec_l05Form.l0 kj32 a0 t387 (wrap64 (x10_1 + 1)) a0 a1 y393 y394 x387004_1))) else (none)) else (none)) = some (r1, r2, r3, r4, r5) := by first | (rw [hji45] at H; exact H) | (simp only [hji45] at H ⊢; exact H)
           have hji45w : (IntKind.i64.wrap ((wrap64 ((wrap64 ((wrap64 (((rd_T102 t387 x10_1).f1) * a0)) + a0)) - 1)) - ((rd_T102 t387 x10_1).f0))) = ji45 := (i64_w _).trans hji45
           by_cases c46 : 0 ≤ (ji45)
           ·rw [if_pos c46] at H
            have c46b0 : decide (0 ≤ (ji45)) = true := decide_eq_true c46
            clear c46
            by_cases c47 : (ji45) < (x387003_1.length : Int)
            ·rw [if_pos c47] at H
             have c47b0 : decide ((ji45) < (x387003_1.length : Int)) = true := decide_eq_true c47
             clear c47
             obtain ⟨y394, hy394⟩ : ∃ y_ : List Int, y_ = (x387003_1.set ((ji45) : Int).toNat x13_32) := ⟨_, rfl⟩
             replace H : (if ((rd_T102 t387 x10_1).f3) = true then (if (ji41) < (x387004_1.length : Int) then (spec_l05Form.l0 kj32 a0 t387 (wrap64 (x10_1 + 1)) a0 a1 y393 y394 (x387004_1.set ((ji41) : Int).toNat 1)) else (none)) else (spec_l05Form.l0 kj32 a0 t387 (wrap64 (x10_1 + 1)) a0 a1 y393 y394 x387004_1)) = some (r1, r2, r3, r4, r5) := rh_ hy394 H
             have Ny394 := Aside0.mk hy394
             clear hy394
             by_cases c49 : ((rd_T102 t387 x10_1).f3) = true
             ·rw [if_pos c49] at H
              have c49b0 : ((rd_T102 t387 x10_1).f3) = true := c49
              clear c49
              by_cases c50 : (ji41) < (x387004_1.length : Int)
              ·rw [if_pos c50] at H
               have c50b0 : decide ((ji41) < (x387004_1.length : Int)) = true := decide_eq_true c50
               clear c50
               obtain ⟨y395, hy395⟩ : ∃ y_ : List Int, y_ = (x387004_1.set ((ji41) : Int).toNat 1) := ⟨_, rfl⟩
               replace H : (spec_l05Form.l0 kj32 a0 t387 (wrap64 (x10_1 + 1)) a0 a1 y393 y394 y395) = some (r1, r2, r3, r4, r5) := rh_ hy395 H
               have Ny395 := Aside0.mk hy395
               clear hy395
               have H' := Aside0.mk H
               clear H
               have hnb52 := NB386_376.out
               have hnc52 := NB376_386.out
               have hnb53 := NB386_391.out
               have hnc53 := NB391_386.out
               obtain ⟨hcz54_0, hcz54_1, hcz54_2, hcz54_3, hcz54_4, hfz54_0, hfz54_1, hfz54_2, hfz54_3, hfz54_4⟩ := cz5_ (w := wc) BK386.out
               have hnb55 := NB391_376.out
               have hnc55 := NB376_391.out
               obtain ⟨hcz56_0, hcz56_1, hcz56_2, hcz56_3, hfz56_0, hfz56_1, hfz56_2, hfz56_3⟩ := cz4_ (w := wc) BK391.out
               have p44 : 0 ≤ ((ji41) : Int) := of_decide_eq_true z90_
               have q44 : ((ji41) : Int) < ((x387002_1.length : Int) : Int) := of_decide_eq_true z90_
               obtain ⟨go44, co44, eo44, gb44, gl44, cl44, HG44⟩ := Kd.R_form HO_387002.out (by omega)
               (first | cases eo44 | (injection eo44 with ea_ en_ ec_; (first | subst ea_ | (injection ea_ with ea_; subst ea_)); subst ec_; clear en_))
               have GB44 := Aside0.mk gb44
               have GG44 := Aside0.mk HG44
               clear gb44 gl44 HG44
               obtain ⟨hx44_0, hf44_0⟩ := Kd.R_celln 0 HO_387002.out ((ji41) : Int) p44 q44
               replace p44 := eq_true p44
               replace q44 := eq_true q44
               have HP57 := Kd.R_putg HO_387002.out ((ji41) : Int) x12_32
               go_wp2_with (first | ((with_reducible refine gate_store (t := 2) (p := 60) rfl ?_); refine store_event (t := 2) (p := 60) (v := ?vo_w58) (w1 := (wc.setCell ⟨go44, ((ji41) : Int).toNat, none⟩ (.int .i64 x12_32))) ?hg ?ho ?hn ?hr ?_; (case ho => rfl); (case hg => rfl); (case hn => rfl); (case hr => first | (go_simp; done) | (go_simp; rfl)); intro w58 hw; have hg : wc.grownBy w58 (some go44) := (by rw [hw]; exact HP57.2); have hp_ : Kd.R (Kd.int .i64) 2 w58 w.heap.size (fun k_ => some k_ ≠ (u387003 : Value).ownBlock ∧ some k_ ≠ (u387004 : Value).ownBlock) (.slice (some ⟨go44, 0, none⟩) x387002_1.length co44) y393 := (by rw [hw, Ny393.out]; exact HP57.1); clear HP57; replace HO_9 := a_ (Kd.R_over' (v := (.slice (some ⟨go44, 0, none⟩) x387002_1.length co44)) (ra_ HO_9.out) (Kd.R_typed HO_387002.out) (by decide) hg); replace HO_387003 := a_ (Kd.R_after (v := (.slice (some ⟨go44, 0, none⟩) x387002_1.length co44)) (v1 := (.slice (some ⟨go44, 0, none⟩) x387002_1.length co44)) (ok := (fun k_ => some k_ ≠ (u387004 : Value).ownBlock)) (rc_ (h := by exact Kd.R_mono HO_387003.out (fun _ hk => ⟨hk.2, hk.1⟩))) hg (.inl rfl)); replace HO_387004 := a_ (Kd.R_after (v := (.slice (some ⟨go44, 0, none⟩) x387002_1.length co44)) (v1 := (.slice (some ⟨go44, 0, none⟩) x387002_1.length co44)) (ok := (fun k_ => some k_ ≠ (u387003 : Value).ownBlock)) (rc_ (h := by exact Kd.R_mono HO_387004.out (fun _ hk => ⟨hk.2, hk.1⟩))) hg (.inl rfl)); replace BK376 := a_ (blk_grown (g := gb376) (rb_ BK376.out) hg (Kd.R_ne HO_387002.out BK376.out (by decide))); replace BK386 := a_ (blk_grown (g := gb386) (rb_ BK386.out) hg (Kd.R_ne HO_387002.out BK386.out (by decide))); replace BK391 := a_ (blk_grown (g := gb391) (rb_ BK391.out) hg (Kd.R_ne HO_387002.out BK391.out (by decide))); replace HO_387002 := a_ (hp_); replace HB := a_ ((by rw [hw]; exact below_set (HB.out) GB44.out : Below w.heap.size w w58)); clear hg hw hp_; obtain ⟨hcz59_0, hcz59_1, hcz59_2, hcz59_3, hcz59_4, hfz59_0, hfz59_1, hfz59_2, hfz59_3, hfz59_4⟩ := cz5_ (w := w58) BK386.out; have hcz60_0 : w58.cell? ⟨gb391, 0, none⟩ = some (.int .i64 ((rd_T102 t387 x10_1).f0)) := (blk_cell BK391.out 0).trans rfl; have hcz60_1 : w58.cell? ⟨gb391, 1, none⟩ = some (.int .i64 ((rd_T102 t387 x10_1).f1)) := (blk_cell BK391.out 1).trans rfl; have hcz60_2 : w58.cell? ⟨gb391, 2, none⟩ = some (.bool ((rd_T102 t387 x10_1).f2)) := (blk_cell BK391.out 2).trans rfl; have hcz60_3 : w58.cell? ⟨gb391, 3, none⟩ = some (.bool ((rd_T102 t387 x10_1).f3)) := (blk_cell BK391.out 3).trans rfl; have hfz60_0 := blk_frozen BK391.out 0; have hfz60_1 := blk_frozen BK391.out 1; have hfz60_2 := blk_frozen BK391.out 2; have hfz60_3 := blk_frozen BK391.out 3; have p48 : 0 ≤ ((ji45) : Int) := of_decide_eq_true z90_; have q48 : ((ji45) : Int) < ((x387003_1.length : Int) : Int) := of_decide_eq_true z90_; obtain ⟨go48, co48, eo48, gb48, gl48, cl48, HG48⟩ := Kd.R_form HO_387003.out (by omega); (first | cases eo48 | (injection eo48 with ea_ en_ ec_; (first | subst ea_ | (injection ea_ with ea_; subst ea_)); subst ec_; clear en_)); have GB48 := Aside0.mk gb48; have GG48 := Aside0.mk HG48; clear gb48 gl48 HG48; obtain ⟨hx48_0, hf48_0⟩ := Kd.R_celln 0 HO_387003.out ((ji45) : Int) p48 q48; replace p48 := eq_true p48; replace q48 := eq_true q48; obtain ⟨hy61_, hz61_⟩ := Kd.R_celln 0 HO_387003.out ((ji45) : Int) (of_decide_eq_true z90_) (of_decide_eq_true z90_); have HP61 := Kd.R_putg HO_387003.out ((ji45) : Int) x13_32) | ((with_reducible refine gate_store (t := 2) (p := 74) rfl ?_); refine store_event (t := 2) (p := 74) (v := ?vo_w62) (w1 := (w58.setCell ⟨go48, ((ji45) : Int).toNat, none⟩ (.int .i64 x13_32))) ?hg ?ho ?hn ?hr ?_; (case ho => rfl); (case hg => rfl); (case hn => rfl); (case hr => first | (go_simp; done) | (go_simp; rfl)); intro w62 hw; have hg : w58.grownBy w62 (some go48) := (by rw [hw]; exact HP61.2); have hp_ : Kd.R (Kd.int .i64) 2 w62 w.heap.size (fun k_ => some k_ ≠ (u387004 : Value).ownBlock ∧ some k_ ≠ (.slice (some ⟨go44, 0, none⟩) x387002_1.length co44 : Value).ownBlock) (.slice (some ⟨go48, 0, none⟩) x387003_1.length co48) y394 := (by rw [hw, Ny394.out]; exact HP61.1); clear HP61; replace HO_9 := a_ (Kd.R_over' (v := (.slice (some ⟨go48, 0, none⟩) x387003_1.length co48)) (ra_ HO_9.out) (Kd.R_typed HO_387003.out) (by decide) hg); replace HO_387002 := a_ (Kd.R_after (v := (.slice (some ⟨go48, 0, none⟩) x387003_1.length co48)) (v1 := (.slice (some ⟨go48, 0, none⟩) x387003_1.length co48)) (ok := (fun k_ => some k_ ≠ (u387004 : Value).ownBlock)) (rc_ (h := by exact Kd.R_mono HO_387002.out (fun _ hk => ⟨hk.2, hk.1⟩))) hg (.inl rfl)); replace HO_387004 := a_ (Kd.R_after (v := (.slice (some ⟨go48, 0, none⟩) x387003_1.length co48)) (v1 := (.slice (some ⟨go48, 0, none⟩) x387003_1.length co48)) (ok := (fun k_ => some k_ ≠ (.slice (some ⟨go44, 0, none⟩) x387002_1.length co44 : Value).ownBlock)) (rc_ (h := by exact Kd.R_mono HO_387004.out (fun _ hk => ⟨hk.2, hk.1⟩))) hg (.inl rfl)); replace BK376 := a_ (blk_grown (g := gb376) (rb_ BK376.out) hg (Kd.R_ne HO_387003.out BK376.out (by decide))); replace BK386 := a_ (blk_grown (g := gb386) (rb_ BK386.out) hg (Kd.R_ne HO_387003.out BK386.out (by decide))); replace BK391 := a_ (blk_grown (g := gb391) (rb_ BK391.out) hg (Kd.R_ne HO_387003.out BK391.out (by decide))); replace HO_387003 := a_ (hp_); replace HB := a_ ((by rw [hw]; exact below_set (HB.out) GB48.out : Below w.heap.size w w62)); clear hg hw hp_; have hcz63_0 : w62.cell? ⟨gb391, 0, none⟩ = some (.int .i64 ((rd_T102 t387 x10_1).f0)) := (blk_cell BK391.out 0).trans rfl; have hcz63_1 : w62.cell? ⟨gb391, 1, none⟩ = some (.int .i64 ((rd_T102 t387 x10_1).f1)) := (blk_cell BK391.out 1).trans rfl; have hcz63_2 : w62.cell? ⟨gb391, 2, none⟩ = some (.bool ((rd_T102 t387 x10_1).f2)) := (blk_cell BK391.out 2).trans rfl; have hcz63_3 : w62.cell? ⟨gb391, 3, none⟩ = some (.bool ((rd_T102 t387 x10_1).f3)) := (blk_cell BK391.out 3).trans rfl; have hfz63_0 := blk_frozen BK391.out 0; have hfz63_1 := blk_frozen BK391.out 1; have hfz63_2 := blk_frozen BK391.out 2; have hfz63_3 := blk_frozen BK391.out 3; obtain ⟨hcz64_0, hcz64_1, hcz64_2, hcz64_3, hcz64_4, hfz64_0, hfz64_1, hfz64_2, hfz64_3, hfz64_4⟩ := cz5_ (w := w62) BK386.out; have p51 : 0 ≤ ((ji41) : Int) := of_decide_eq_true z90_; have q51 : ((ji41) : Int) < ((x387004_1.length : Int) : Int) := of_decide_eq_true z90_; obtain ⟨go51, co51, eo51, gb51, gl51, cl51, HG51⟩ := Kd.R_form HO_387004.out (by omega); (first | cases eo51 | (injection eo51 with ea_ en_ ec_; (first | subst ea_ | (injection ea_ with ea_; subst ea_)); subst ec_; clear en_)); have GB51 := Aside0.mk gb51; have GG51 := Aside0.mk HG51; clear gb51 gl51 HG51; obtain ⟨hx51_0, hf51_0⟩ := Kd.R_celln 0 HO_387004.out ((ji41) : Int) p51 q51; replace p51 := eq_true p51; replace q51 := eq_true q51; obtain ⟨hy65_, hz65_⟩ := Kd.R_celln 0 HO_387004.out ((ji41) : Int) (of_decide_eq_true z90_) (of_decide_eq_true z90_); have HP65 := Kd.R_putg HO_387004.out ((ji41) : Int) 1) | ((with_reducible refine gate_store (t := 2) (p := 86) rfl ?_); refine store_event (t := 2) (p := 86) (v := ?vo_w66) (w1 := (w62.setCell ⟨go51, ((ji41) : Int).toNat, none⟩ (.int .i64 1))) ?hg ?ho ?hn ?hr ?_; (case ho => rfl); (case hg => rfl); (case hn => rfl); (case hr => first | (go_simp; done) | (go_simp; rfl)); intro w66 hw; have hg : w62.grownBy w66 (some go51) := (by rw [hw]; exact HP65.2); have hp_ : Kd.R (Kd.int .i64) 2 w66 w.heap.size (fun k_ => some k_ ≠ (.slice (some ⟨go44, 0, none⟩) x387002_1.length co44 : Value).ownBlock ∧ some k_ ≠ (.slice (some ⟨go48, 0, none⟩) x387003_1.length co48 : Value).ownBlock) (.slice (some ⟨go51, 0, none⟩) x387004_1.length co51) y395 := (by rw [hw, Ny395.out]; exact HP65.1); clear HP65; replace HO_9 := a_ (Kd.R_over' (v := (.slice (some ⟨go51, 0, none⟩) x387004_1.length co51)) (ra_ HO_9.out) (Kd.R_typed HO_387004.out) (by decide) hg); replace HO_387002 := a_ (Kd.R_after (v := (.slice (some ⟨go51, 0, none⟩) x387004_1.length co51)) (v1 := (.slice (some ⟨go51, 0, none⟩) x387004_1.length co51)) (ok := (fun k_ => some k_ ≠ (.slice (some ⟨go48, 0, none⟩) x387003_1.length co48 : Value).ownBlock)) (rc_ (h := by exact Kd.R_mono HO_387002.out (fun _ hk => ⟨hk.2, hk.1⟩))) hg (.inl rfl)); replace HO_387003 := a_ (Kd.R_after (v := (.slice (some ⟨go51, 0, none⟩) x387004_1.length co51)) (v1 := (.slice (some ⟨go51, 0, none⟩) x387004_1.length co51)) (ok := (fun k_ => some k_ ≠ (.slice (some ⟨go44, 0, none⟩) x387002_1.length co44 : Value).ownBlock)) (rc_ (h := by exact Kd.R_mono HO_387003.out (fun _ hk => ⟨hk.2, hk.1⟩))) hg (.inl rfl)); replace BK376 := a_ (blk_grown (g := gb376) (rb_ BK376.out) hg (Kd.R_ne HO_387004.out BK376.out (by decide))); replace BK386 := a_ (blk_grown (g := gb386) (rb_ BK386.out) hg (Kd.R_ne HO_387004.out BK386.out (by decide))); replace BK391 := a_ (blk_grown (g := gb391) (rb_ BK391.out) hg (Kd.R_ne HO_387004.out BK391.out (by decide))); replace HO_387004 := a_ (hp_); replace HB := a_ ((by rw [hw]; exact below_set (HB.out) GB51.out : Below w.heap.size w w66)); clear hg hw hp_))
               go_roundg kj32
               case measure => have := HK1.out; have := HJ32.out; omega
               case rel => exact ⟨(wrap64 (x10_1 + 1)), (y393), (y394), (y395), (.slice (some ⟨go44, 0, none⟩) x387002_1.length co44), (.slice (some ⟨go48, 0, none⟩) x387003_1.length co48), (.slice (some ⟨go51, 0, none⟩) x387004_1.length co51), z91_, H', ⟨by have := HK1.out; have := HJ32.out; omega⟩, ⟨by (with_reducible repeat (first | apply Kd.R_alloc | apply Kd.R_drewN | apply Kd.R_drew)); exact Kd.R_mono HO_9.out (fun _ hk => trivial)⟩, ⟨z74_⟩, ⟨z75_⟩, ⟨z76_⟩, ⟨z64_⟩, ⟨z65_⟩, ⟨z10_⟩⟩
              ·rw [if_neg c50] at H
               exact absurd H (by simp)
             ·rw [if_neg c49] at H
              have c49b0 : ((rd_T102 t387 x10_1).f3) = false := by simpa using c49
              clear c49
              have H' := Aside0.mk H
              clear H
              have hnb67 := NB386_376.out
              have hnc67 := NB376_386.out
              have hnb68 := NB386_391.out
              have hnc68 := NB391_386.out
              obtain ⟨hcz69_0, hcz69_1, hcz69_2, hcz69_3, hcz69_4, hfz69_0, hfz69_1, hfz69_2, hfz69_3, hfz69_4⟩ := cz5_ (w := wc) BK386.out
              have hnb70 := NB391_376.out
              have hnc70 := NB376_391.out
              obtain ⟨hcz71_0, hcz71_1, hcz71_2, hcz71_3, hfz71_0, hfz71_1, hfz71_2, hfz71_3⟩ := cz4_ (w := wc) BK391.out
              have p44 : 0 ≤ ((ji41) : Int) := of_decide_eq_true z90_
              have q44 : ((ji41) : Int) < ((x387002_1.length : Int) : Int) := of_decide_eq_true z90_
              obtain ⟨go44, co44, eo44, gb44, gl44, cl44, HG44⟩ := Kd.R_form HO_387002.out (by omega)
              (first | cases eo44 | (injection eo44 with ea_ en_ ec_; (first | subst ea_ | (injection ea_ with ea_; subst ea_)); subst ec_; clear en_))
              have GB44 := Aside0.mk gb44
              have GG44 := Aside0.mk HG44
              clear gb44 gl44 HG44
              obtain ⟨hx44_0, hf44_0⟩ := Kd.R_celln 0 HO_387002.out ((ji41) : Int) p44 q44
              replace p44 := eq_true p44
              replace q44 := eq_true q44
              have HP72 := Kd.R_putg HO_387002.out ((ji41) : Int) x12_32
              go_wp2_with (first | ((with_reducible refine gate_store (t := 2) (p := 60) rfl ?_); refine store_event (t := 2) (p := 60) (v := ?vo_w73) (w1 := (wc.setCell ⟨go44, ((ji41) : Int).toNat, none⟩ (.int .i64 x12_32))) ?hg ?ho ?hn ?hr ?_; (case ho => rfl); (case hg => rfl); (case hn => rfl); (case hr => first | (go_simp; done) | (go_simp; rfl)); intro w73 hw; have hg : wc.grownBy w73 (some go44) := (by rw [hw]; exact HP72.2); have hp_ : Kd.R (Kd.int .i64) 2 w73 w.heap.size (fun k_ => some k_ ≠ (u387003 : Value).ownBlock ∧ some k_ ≠ (u387004 : Value).ownBlock) (.slice (some ⟨go44, 0, none⟩) x387002_1.length co44) y393 := (by rw [hw, Ny393.out]; exact HP72.1); clear HP72; replace HO_9 := a_ (Kd.R_over' (v := (.slice (some ⟨go44, 0, none⟩) x387002_1.length co44)) (ra_ HO_9.out) (Kd.R_typed HO_387002.out) (by decide) hg); replace HO_387003 := a_ (Kd.R_after (v := (.slice (some ⟨go44, 0, none⟩) x387002_1.length co44)) (v1 := (.slice (some ⟨go44, 0, none⟩) x387002_1.length co44)) (ok := (fun k_ => some k_ ≠ (u387004 : Value).ownBlock)) (rc_ (h := by exact Kd.R_mono HO_387003.out (fun _ hk => ⟨hk.2, hk.1⟩))) hg (.inl rfl)); replace HO_387004 := a_ (Kd.R_after (v := (.slice (some ⟨go44, 0, none⟩) x387002_1.length co44)) (v1 := (.slice (some ⟨go44, 0, none⟩) x387002_1.length co44)) (ok := (fun k_ => some k_ ≠ (u387003 : Value).ownBlock)) (rc_ (h := by exact Kd.R_mono HO_387004.out (fun _ hk => ⟨hk.2, hk.1⟩))) hg (.inl rfl)); replace BK376 := a_ (blk_grown (g := gb376) (rb_ BK376.out) hg (Kd.R_ne HO_387002.out BK376.out (by decide))); replace BK386 := a_ (blk_grown (g := gb386) (rb_ BK386.out) hg (Kd.R_ne HO_387002.out BK386.out (by decide))); replace BK391 := a_ (blk_grown (g := gb391) (rb_ BK391.out) hg (Kd.R_ne HO_387002.out BK391.out (by decide))); replace HO_387002 := a_ (hp_); replace HB := a_ ((by rw [hw]; exact below_set (HB.out) GB44.out : Below w.heap.size w w73)); clear hg hw hp_; obtain ⟨hcz74_0, hcz74_1, hcz74_2, hcz74_3, hcz74_4, hfz74_0, hfz74_1, hfz74_2, hfz74_3, hfz74_4⟩ := cz5_ (w := w73) BK386.out; have hcz75_0 : w73.cell? ⟨gb391, 0, none⟩ = some (.int .i64 ((rd_T102 t387 x10_1).f0)) := (blk_cell BK391.out 0).trans rfl; have hcz75_1 : w73.cell? ⟨gb391, 1, none⟩ = some (.int .i64 ((rd_T102 t387 x10_1).f1)) := (blk_cell BK391.out 1).trans rfl; have hcz75_2 : w73.cell? ⟨gb391, 2, none⟩ = some (.bool ((rd_T102 t387 x10_1).f2)) := (blk_cell BK391.out 2).trans rfl; have hcz75_3 : w73.cell? ⟨gb391, 3, none⟩ = some (.bool ((rd_T102 t387 x10_1).f3)) := (blk_cell BK391.out 3).trans rfl; have hfz75_0 := blk_frozen BK391.out 0; have hfz75_1 := blk_frozen BK391.out 1; have hfz75_2 := blk_frozen BK391.out 2; have hfz75_3 := blk_frozen BK391.out 3; have p48 : 0 ≤ ((ji45) : Int) := of_decide_eq_true z90_; have q48 : ((ji45) : Int) < ((x387003_1.length : Int) : Int) := of_decide_eq_true z90_; obtain ⟨go48, co48, eo48, gb48, gl48, cl48, HG48⟩ := Kd.R_form HO_387003.out (by omega); (first | cases eo48 | (injection eo48 with ea_ en_ ec_; (first | subst ea_ | (injection ea_ with ea_; subst ea_)); subst ec_; clear en_)); have GB48 := Aside0.mk gb48; have GG48 := Aside0.mk HG48; clear gb48 gl48 HG48; obtain ⟨hx48_0, hf48_0⟩ := Kd.R_celln 0 HO_387003.out ((ji45) : Int) p48 q48; replace p48 := eq_true p48; replace q48 := eq_true q48; obtain ⟨hy76_, hz76_⟩ := Kd.R_celln 0 HO_387003.out ((ji45) : Int) (of_decide_eq_true z90_) (of_decide_eq_true z90_); have HP76 := Kd.R_putg HO_387003.out ((ji45) : Int) x13_32) | ((with_reducible refine gate_store (t := 2) (p := 74) rfl ?_); refine store_event (t := 2) (p := 74) (v := ?vo_w77) (w1 := (w73.setCell ⟨go48, ((ji45) : Int).toNat, none⟩ (.int .i64 x13_32))) ?hg ?ho ?hn ?hr ?_; (case ho => rfl); (case hg => rfl); (case hn => rfl); (case hr => first | (go_simp; done) | (go_simp; rfl)); intro w77 hw; have hg : w73.grownBy w77 (some go48) := (by rw [hw]; exact HP76.2); have hp_ : Kd.R (Kd.int .i64) 2 w77 w.heap.size (fun k_ => some k_ ≠ (u387004 : Value).ownBlock ∧ some k_ ≠ (.slice (some ⟨go44, 0, none⟩) x387002_1.length co44 : Value).ownBlock) (.slice (some ⟨go48, 0, none⟩) x387003_1.length co48) y394 := (by rw [hw, Ny394.out]; exact HP76.1); clear HP76; replace HO_9 := a_ (Kd.R_over' (v := (.slice (some ⟨go48, 0, none⟩) x387003_1.length co48)) (ra_ HO_9.out) (Kd.R_typed HO_387003.out) (by decide) hg); replace HO_387002 := a_ (Kd.R_after (v := (.slice (some ⟨go48, 0, none⟩) x387003_1.length co48)) (v1 := (.slice (some ⟨go48, 0, none⟩) x387003_1.length co48)) (ok := (fun k_ => some k_ ≠ (u387004 : Value).ownBlock)) (rc_ (h := by exact Kd.R_mono HO_387002.out (fun _ hk => ⟨hk.2, hk.1⟩))) hg (.inl rfl)); replace HO_387004 := a_ (Kd.R_after (v := (.slice (some ⟨go48, 0, none⟩) x387003_1.length co48)) (v1 := (.slice (some ⟨go48, 0, none⟩) x387003_1.length co48)) (ok := (fun k_ => some k_ ≠ (.slice (some ⟨go44, 0, none⟩) x387002_1.length co44 : Value).ownBlock)) (rc_ (h := by exact Kd.R_mono HO_387004.out (fun _ hk => ⟨hk.2, hk.1⟩))) hg (.inl rfl)); replace BK376 := a_ (blk_grown (g := gb376) (rb_ BK376.out) hg (Kd.R_ne HO_387003.out BK376.out (by decide))); replace BK386 := a_ (blk_grown (g := gb386) (rb_ BK386.out) hg (Kd.R_ne HO_387003.out BK386.out (by decide))); replace BK391 := a_ (blk_grown (g := gb391) (rb_ BK391.out) hg (Kd.R_ne HO_387003.out BK391.out (by decide))); replace HO_387003 := a_ (hp_); replace HB := a_ ((by rw [hw]; exact below_set (HB.out) GB48.out : Below w.heap.size w w77)); clear hg hw hp_; have hcz78_0 : w77.cell? ⟨gb391, 0, none⟩ = some (.int .i64 ((rd_T102 t387 x10_1).f0)) := (blk_cell BK391.out 0).trans rfl; have hcz78_1 : w77.cell? ⟨gb391, 1, none⟩ = some (.int .i64 ((rd_T102 t387 x10_1).f1)) := (blk_cell BK391.out 1).trans rfl; have hcz78_2 : w77.cell? ⟨gb391, 2, none⟩ = some (.bool ((rd_T102 t387 x10_1).f2)) := (blk_cell BK391.out 2).trans rfl; have hcz78_3 : w77.cell? ⟨gb391, 3, none⟩ = some (.bool ((rd_T102 t387 x10_1).f3)) := (blk_cell BK391.out 3).trans rfl; have hfz78_0 := blk_frozen BK391.out 0; have hfz78_1 := blk_frozen BK391.out 1; have hfz78_2 := blk_frozen BK391.out 2; have hfz78_3 := blk_frozen BK391.out 3))
              go_roundg kj32
              case measure => have := HK1.out; have := HJ32.out; omega
              case rel => exact ⟨(wrap64 (x10_1 + 1)), (y393), (y394), (x387004_1), (.slice (some ⟨go44, 0, none⟩) x387002_1.length co44), (.slice (some ⟨go48, 0, none⟩) x387003_1.length co48), (u387004), z91_, H', ⟨by have := HK1.out; have := HJ32.out; omega⟩, ⟨by (with_reducible repeat (first | apply Kd.R_alloc | apply Kd.R_drewN | apply Kd.R_drew)); exact Kd.R_mono HO_9.out (fun _ hk => trivial)⟩, ⟨by (with_reducible repeat (first | apply Kd.R_alloc | apply Kd.R_drewN | apply Kd.R_drew)); exact Kd.R_mono HO_387002.out (fun _ hk => ⟨hk.2, hk.1⟩)⟩, ⟨by (with_reducible repeat (first | apply Kd.R_alloc | apply Kd.R_drewN | apply Kd.R_drew)); exact Kd.R_mono HO_387003.out (fun _ hk => ⟨hk.2, hk.1⟩)⟩, ⟨z76_⟩, ⟨z64_⟩, ⟨z65_⟩, ⟨z10_⟩⟩
            ·rw [if_neg c47] at H
             exact absurd H (by simp)
           ·rw [if_neg c46] at H
            exact absurd H (by simp)
          ·rw [if_neg c43] at H
           exact absurd H (by simp)
         ·rw [if_neg c42] at H
          exact absurd H (by simp)
      ·rw [if_neg c31] at H
       exact absurd H (by simp)
     ·rw [if_neg c30] at H
      have c30b0 : decide (x10_1 < (t387.length : Int)) = false := decide_eq_false c30
      clear c30
      simp only [Option.some.injEq, Prod.mk.injEq] at H
      obtain ⟨rfl, rfl, rfl, rfl, rfl⟩ := H
      obtain ⟨Ao79, co79, eo79⟩ := Kd.R_slice HO_9.out
      subst eo79
      have hnb80 := NB386_376.out
      have hnc80 := NB376_386.out
      obtain ⟨hcz81_0, hcz81_1, hcz81_2, hcz81_3, hcz81_4, hfz81_0, hfz81_1, hfz81_2, hfz81_3, hfz81_4⟩ := cz5_ (w := wr) BK386.out
      obtain ⟨hcz82_0, hcz82_1, hcz82_2, hcz82_3, hcz82_4, hfz82_0, hfz82_1, hfz82_2, hfz82_3, hfz82_4⟩ := cz5_ (w := wr) BK376.out
      obtain ⟨Ao83, co83, eo83⟩ := Kd.R_slice HO_387002.out
      subst eo83
      obtain ⟨Ao84, co84, eo84⟩ := Kd.R_slice HO_387003.out
      subst eo84
      obtain ⟨Ao85, co85, eo85⟩ := Kd.R_slice HO_387004.out
      subst eo85
      go_wp2
      refine bodyPost_ret (results_cell_row rfl _ _ gb376 27 #[.int .i64 a0, .int .i64 a1, .slice Ao83 x387002_1.length co83, .slice Ao84 x387003_1.length co84, .slice Ao85 x387004_1.length co85] (0, 0) _ rfl (rb2_ (h := by exact bp5_ BK376.out)) Try.underlying27 rfl (by kernel_rfl)) rfl ?_
      exact ⟨_, _, _, by first | rfl | (simp only [Go.IntWalk.i64_left]; first | done | rfl) | (simp [errW_none, errW_some] <;> rfl) | (simp only [← hji4]; first | rfl | (simp [errW_none, errW_some] <;> rfl)) | (simp [*, errW_none, errW_some] <;> rfl), by (with_reducible repeat (first | apply Kd.R_alloc | apply Kd.R_drewN | apply Kd.R_drew)); exact Kd.R_mono (rt5_ HO_387002.out BK376.out) (fun _ hk => ⟨hk.1.1, hk.1.2⟩), by (with_reducible repeat (first | apply Kd.R_alloc | apply Kd.R_drewN | apply Kd.R_drew)); exact Kd.R_mono (rt5_ HO_387003.out BK376.out) (fun _ hk => ⟨hk.1.1, hk.1.2⟩), by (with_reducible repeat (first | apply Kd.R_alloc | apply Kd.R_drewN | apply Kd.R_drew)); exact Kd.R_mono (rt5_ HO_387004.out BK376.out) (fun _ hk => ⟨hk.1.1, hk.1.2⟩), z23_⟩
  ·rw [if_neg c6] at H
   exact absurd H (by simp)
 ·rw [if_neg c5] at H
  exact absurd H (by simp)

end Go.Proofs.Ytkpidjmhdagkfaa.QFnPagePlaces
-- halved
