-- Written by own_print.py of this session's repo over the kit's print (its output, turned at some places).
import Derived.Test.YtkpidjmhdagkfaaDoorQFnExactImposeSheetx0
import Derived.Test.YtkpidjmhdagkfaaDoorQFnExactImposeSheetx6
import Derived.Test.YtkpidjmhdagkfaaDoorQFnExactImposeSheetx8
namespace Go.Proofs.YtkpidjmhdagkfaaDoor.QFnExactImposeSheet
open Go.RowKit Go.Proofs.YtkpidjmhdagkfaaDoorW.PrintWords Go.Proofs.YtkpidjmhdagkfaaDoorW.PrintLast Go.Proofs.YtkpidjmhdagkfaaDoorW.PrintMore
attribute [local go_sem] max2_int min2_int max_two min_two max_three min_three max_four min_four   -- for this text's walks alone
set_option linter.unusedVariables false
set_option linter.unusedSimpArgs false

/-! ### impl_ImposeSheet: function 5 -/
mutual
def impl_ImposeSheet.l0 : Nat → Int → List (S35) → Int → Int → Int → Int → List Int → List Int → List Int → Option (Int × Int × List Int × List Int × List Int × Int)
 | 0, _, _, _, _, _, _, _, _, _ => none
 | k + 1, x0, x38, x39, x40, x302000, x302001, x302002, x302003, x302004 => if x40 < x39 then (if 0 ≤ x40 then (if x40 < (x38.length : Int) then ((impl_downLeaf.f ((rd_T35 x38 x40).f0) ((rd_T35 x38 x40).f1) ((rd_T35 x38 x40).f2) ((rd_T35 x38 x40).f3)).bind fun t307 => (if t307 = true then (impl_ImposeSheet.j1 k x0 (wrap64 ((wrap64 (2 * x40)) + 2)) (wrap64 ((wrap64 (2 * x40)) + 1)) x38 x39 x40 x302000 x302001 x302002 x302003 x302004 ((rd_T35 x38 x40).f0) ((rd_T35 x38 x40).f1) ((rd_T35 x38 x40).f2) ((rd_T35 x38 x40).f3)) else (impl_ImposeSheet.j1 k x0 (wrap64 ((wrap64 (2 * x40)) + 1)) (wrap64 ((wrap64 (2 * x40)) + 2)) x38 x39 x40 x302000 x302001 x302002 x302003 x302004 ((rd_T35 x38 x40).f0) ((rd_T35 x38 x40).f1) ((rd_T35 x38 x40).f2) ((rd_T35 x38 x40).f3)))) else (none)) else (none)) else (some (x302000, x302001, x302002, x302003, x302004, 0))
def impl_ImposeSheet.j1 : Nat → Int → Int → Int → List (S35) → Int → Int → Int → Int → List Int → List Int → List Int → Int → Int → Bool → Bool → Option (Int × Int × List Int × List Int × List Int × Int)
 | 0, _, _, _, _, _, _, _, _, _, _, _, _, _, _, _ => none
 | k + 1, x0, x13, x14, x38, x39, x40, x302000, x302001, x302002, x302003, x302004, x307000, x307001, x307002, x307003 => (impl_frontPlace.f x0 x307000 x307001).bind fun t308 => (if 0 ≤ t308 then (if t308 < (x302002.length : Int) then ((impl_backPlace.f x0 x307000 x307001).bind fun t310 => (if 0 ≤ t310 then (if t310 < (x302003.length : Int) then ((impl_frontPlace.f x0 x307000 x307001).bind fun t312 => ((impl_toInt.f x307003).bind fun t313 => (if 0 ≤ t312 then (if t312 < (x302004.length : Int) then (impl_ImposeSheet.l0 k x0 x38 x39 (wrap64 (x40 + 1)) x302000 x302001 (x302002.set (t308 : Int).toNat x13) (x302003.set (t310 : Int).toNat x14) (x302004.set (t312 : Int).toNat t313)) else (none)) else (none)))) else (none)) else (none))) else (none)) else (none))
end
def impl_ImposeSheet.f (k : Nat) (a0 : Int) (a1 : Int) (a2 : ByteArray) : Option (Int × Int × List Int × List Int × List Int × Int) := (impl_checkScheme.f k a0 a1 a2).bind fun t291 => (if t291 = 0 then (if 0 ≤ (wrap64 (a0 * a1)) then (if (wrap64 (a0 * a1) : Int).toNat ≤ 35184372088832 then ((impl_foldSheet.f k a0 a1 a2).bind fun t302 => (impl_ImposeSheet.l0 k a0 t302 (t302.length : Int) 0 a0 a1 (List.replicate (wrap64 (a0 * a1) : Int).toNat 0) (List.replicate (wrap64 (a0 * a1) : Int).toNat 0) (List.replicate (wrap64 (a0 * a1) : Int).toNat 0))) else (none)) else (none)) else (some (0, 0, ([] : List Int), ([] : List Int), ([] : List Int), t291)))
theorem impl_ImposeSheet.mono_l : ∀ k, (∀ y0 y1 y2 y3 y4 y5 y6 y7 y8, LeO (impl_ImposeSheet.l0 k y0 y1 y2 y3 y4 y5 y6 y7 y8) (impl_ImposeSheet.l0 (k + 1) y0 y1 y2 y3 y4 y5 y6 y7 y8)) ∧ (∀ y0 y1 y2 y3 y4 y5 y6 y7 y8 y9 y10 y11 y12 y13 y14, LeO (impl_ImposeSheet.j1 k y0 y1 y2 y3 y4 y5 y6 y7 y8 y9 y10 y11 y12 y13 y14) (impl_ImposeSheet.j1 (k + 1) y0 y1 y2 y3 y4 y5 y6 y7 y8 y9 y10 y11 y12 y13 y14))
 | 0 => ⟨fun _ _ _ _ _ _ _ _ _ r h => by simp [impl_ImposeSheet.l0] at h, fun _ _ _ _ _ _ _ _ _ _ _ _ _ _ _ r h => by simp [impl_ImposeSheet.j1] at h⟩
 | k + 1 => by
  obtain ⟨ih0, ih1⟩ := impl_ImposeSheet.mono_l k
  refine ⟨?_, ?_⟩
  ·intro y0 y1 y2 y3 y4 y5 y6 y7 y8
   unfold impl_ImposeSheet.l0
   repeat' first
   | (with_reducible exact ih0 _ _ _ _ _ _ _ _ _)
   | (with_reducible exact ih1 _ _ _ _ _ _ _ _ _ _ _ _ _ _ _)
   | (with_reducible exact impl_checkScheme.mono _ _ _ _)
   | (with_reducible exact impl_foldSheet.mono _ _ _ _)
   | (with_reducible exact LeO.refl _)
   | (with_reducible exact LeO.none _)
   | (with_reducible refine LeO.ite ?_ ?_)
   | (with_reducible refine LeO.bind ?_ (fun _ => ?_))
   | exact ih0 _ _ _ _ _ _ _ _ _
   | exact ih1 _ _ _ _ _ _ _ _ _ _ _ _ _ _ _
   | exact impl_checkScheme.mono _ _ _ _
   | exact impl_foldSheet.mono _ _ _ _
   | exact LeO.none _
   | refine LeO.ite ?_ ?_
   | refine LeO.bind ?_ (fun _ => ?_)
  ·intro y0 y1 y2 y3 y4 y5 y6 y7 y8 y9 y10 y11 y12 y13 y14
   unfold impl_ImposeSheet.j1
   repeat' first
   | (with_reducible exact ih0 _ _ _ _ _ _ _ _ _)
   | (with_reducible exact ih1 _ _ _ _ _ _ _ _ _ _ _ _ _ _ _)
   | (with_reducible exact impl_checkScheme.mono _ _ _ _)
   | (with_reducible exact impl_foldSheet.mono _ _ _ _)
   | (with_reducible exact LeO.refl _)
   | (with_reducible exact LeO.none _)
   | (with_reducible refine LeO.ite ?_ ?_)
   | (with_reducible refine LeO.bind ?_ (fun _ => ?_))
   | exact ih0 _ _ _ _ _ _ _ _ _
   | exact ih1 _ _ _ _ _ _ _ _ _ _ _ _ _ _ _
   | exact impl_checkScheme.mono _ _ _ _
   | exact impl_foldSheet.mono _ _ _ _
   | exact LeO.none _
   | refine LeO.ite ?_ ?_
   | refine LeO.bind ?_ (fun _ => ?_)
theorem impl_ImposeSheet.mono : ∀ a0 a1 a2 k, LeO (impl_ImposeSheet.f k a0 a1 a2) (impl_ImposeSheet.f (k + 1) a0 a1 a2) := by
 intro a0 a1 a2 k
 obtain ⟨ih0, ih1⟩ := impl_ImposeSheet.mono_l k
 unfold impl_ImposeSheet.f
 repeat' first
   | (with_reducible exact ih0 _ _ _ _ _ _ _ _ _)
   | (with_reducible exact ih1 _ _ _ _ _ _ _ _ _ _ _ _ _ _ _)
   | (with_reducible exact impl_checkScheme.mono _ _ _ _)
   | (with_reducible exact impl_foldSheet.mono _ _ _ _)
   | (with_reducible exact LeO.refl _)
   | (with_reducible exact LeO.none _)
   | (with_reducible refine LeO.ite ?_ ?_)
   | (with_reducible refine LeO.bind ?_ (fun _ => ?_))
   | exact ih0 _ _ _ _ _ _ _ _ _
   | exact ih1 _ _ _ _ _ _ _ _ _ _ _ _ _ _ _
   | exact impl_checkScheme.mono _ _ _ _
   | exact impl_foldSheet.mono _ _ _ _
   | exact LeO.none _
   | refine LeO.ite ?_ ?_
   | refine LeO.bind ?_ (fun _ => ?_)
def impl_ImposeSheet.T5 : Bool × List (List Nat × List Nat) := (true, [([], []), ([], []), ([], []), ([2, 2], [2]), ([], []), ([4, 4], [4]), ([], []), ([6, 6], [6]), ([0, 1, 3, 5, 7], [0, 1, 3, 5, 7]), ([], []), ([9, 8, 0, 1, 2, 3, 4, 5, 6, 7, 8, 9], [8, 9])])
def impl_ImposeSheet.B5 : List Nat := [0, 0, 0, 4, 0, 16, 0, 64, 255, 0, 1023]
theorem impl_ImposeSheet.tab5 : rtab .any (opsOf Tryd.f5 5) = impl_ImposeSheet.T5 := by kernel_rfl
theorem impl_ImposeSheet.bits5 : waitsOk impl_ImposeSheet.T5.2 impl_ImposeSheet.B5 = true := by kernel_rfl
def impl_ImposeSheet.T12 : Bool × List (List Nat × List Nat) := (true, [([], []), ([0], [0]), ([], []), ([], []), ([3], [3]), ([], []), ([5], [5]), ([2, 4, 6], [2, 4, 6]), ([], []), ([1, 7, 0, 1, 2, 3, 4, 5, 6, 7, 8], [1, 7]), ([9, 8, 7, 0, 1, 2, 3, 4, 5, 6, 7, 8], [8, 9])])
def impl_ImposeSheet.B12 : List Nat := [0, 1, 0, 0, 8, 0, 32, 124, 0, 511, 1023]
theorem impl_ImposeSheet.tab12 : rtab .any (opsOf Tryd.f5 12) = impl_ImposeSheet.T12 := by kernel_rfl
theorem impl_ImposeSheet.bits12 : waitsOk impl_ImposeSheet.T12.2 impl_ImposeSheet.B12 = true := by kernel_rfl
def impl_ImposeSheet.T13 : Bool × List (List Nat × List Nat) := (true, [([], []), ([0], [0]), ([], []), ([], []), ([3], [3]), ([], []), ([5], [5]), ([2, 4, 6], [2, 4, 6]), ([], []), ([1, 7, 0, 1, 2, 3, 4, 5, 6, 7, 8], [1, 7]), ([9, 8, 7, 0, 1, 2, 3, 4, 5, 6, 7, 8], [8, 9])])
def impl_ImposeSheet.B13 : List Nat := [0, 1, 0, 0, 8, 0, 32, 124, 0, 511, 1023]
theorem impl_ImposeSheet.tab13 : rtab .any (opsOf Tryd.f5 13) = impl_ImposeSheet.T13 := by kernel_rfl
theorem impl_ImposeSheet.bits13 : waitsOk impl_ImposeSheet.T13.2 impl_ImposeSheet.B13 = true := by kernel_rfl
def impl_ImposeSheet.T14 : Bool × List (List Nat × List Nat) := (true, [([], []), ([0], [0]), ([], []), ([], []), ([3], [3]), ([], []), ([5], [5]), ([2, 4, 6], [2, 4, 6]), ([], []), ([8], [8]), ([9, 7], [9]), ([1, 7, 0, 1, 2, 3, 4, 5, 6, 7, 8, 9, 10], [1, 7]), ([11, 10, 10, 0, 1, 2, 3, 4, 5, 6, 7, 8, 9, 10], [10, 11])])
def impl_ImposeSheet.B14 : List Nat := [0, 1, 0, 0, 8, 0, 32, 124, 0, 256, 1020, 2047, 4095]
theorem impl_ImposeSheet.tab14 : rtab .any (opsOf Tryd.f5 14) = impl_ImposeSheet.T14 := by kernel_rfl
theorem impl_ImposeSheet.bits14 : waitsOk impl_ImposeSheet.T14.2 impl_ImposeSheet.B14 = true := by kernel_rfl
set_option maxHeartbeats 8000000 in
set_option maxRecDepth 100000 in
theorem impl_ImposeSheet.calls (k : Nat) (a0 : Int) (a1 : Int) (a2 : ByteArray) (r1 : Int) (r2 : Int) (r3 : List Int) (r4 : List Int) (r5 : List Int) (r6 : Int) (w : World) (h : impl_ImposeSheet.f k a0 a1 a2 = some (r1, r2, r3, r4, r5, r6)) :
  Calls Tryd.prog 5 #[.int .i64 a0, .int .i64 a1, .string a2] w fun e w' => ∃ v2_ v3_ v4_ : Value, e = .returned (.tuple #[.agg #[.int .i64 r1, .int .i64 r2, v2_, v3_, v4_], .int .i64 r6]) ∧ Kd.R (Kd.int .i64) 2 w' w.heap.size (fun k_ => some k_ ≠ (v3_ : Value).ownBlock ∧ some k_ ≠ (v4_ : Value).ownBlock) v2_ r3 ∧ Kd.R (Kd.int .i64) 2 w' w.heap.size (fun k_ => some k_ ≠ (v2_ : Value).ownBlock ∧ some k_ ≠ (v4_ : Value).ownBlock) v3_ r4 ∧ Kd.R (Kd.int .i64) 2 w' w.heap.size (fun k_ => some k_ ≠ (v2_ : Value).ownBlock ∧ some k_ ≠ (v3_ : Value).ownBlock) v4_ r5 ∧ Below w.heap.size w w' := by
 have hu24 := Tryd.underlying24
 have hu35 := Tryd.underlying35
 have HB := a_ (Below.refl w.heap.size w)
 have H : ((impl_checkScheme.f k a0 a1 a2).bind fun t291 => (if t291 = 0 then (if 0 ≤ (wrap64 (a0 * a1)) then (if (wrap64 (a0 * a1) : Int).toNat ≤ 35184372088832 then ((impl_foldSheet.f k a0 a1 a2).bind fun t302 => (impl_ImposeSheet.l0 k a0 t302 (t302.length : Int) 0 a0 a1 (List.replicate (wrap64 (a0 * a1) : Int).toNat 0) (List.replicate (wrap64 (a0 * a1) : Int).toNat 0) (List.replicate (wrap64 (a0 * a1) : Int).toNat 0))) else (none)) else (none)) else (some (0, 0, ([] : List Int), ([] : List Int), ([] : List Int), t291)))) = some (r1, r2, r3, r4, r5, r6) := h
 clear h
 replace H := Option.bind_eq_some_iff.mp H
 obtain ⟨t291, A40, H⟩ := H
 replace H : (if t291 = 0 then (if 0 ≤ (wrap64 (a0 * a1)) then (if (wrap64 (a0 * a1) : Int).toNat ≤ 35184372088832 then ((impl_foldSheet.f k a0 a1 a2).bind fun t302 => (impl_ImposeSheet.l0 k a0 t302 (t302.length : Int) 0 a0 a1 (List.replicate (wrap64 (a0 * a1) : Int).toNat 0) (List.replicate (wrap64 (a0 * a1) : Int).toNat 0) (List.replicate (wrap64 (a0 * a1) : Int).toNat 0))) else (none)) else (none)) else (some (0, 0, ([] : List Int), ([] : List Int), ([] : List Int), t291))) = some (r1, r2, r3, r4, r5, r6) := H
 have A4 := a_ A40
 clear A40
 by_cases c5 : t291 = 0
 ·rw [if_pos c5] at H
  have c5b0 : (t291 == 0) = true := beq_iff_eq.mpr c5
  have c5b1 : (t291 != 0) = false := bne_eq_false_iff_eq.mpr c5
  clear c5
  obtain ⟨ji6, hji6⟩ : ∃ j_ : Int, (wrap64 (a0 * a1)) = j_ := ⟨_, rfl⟩
  replace H : (if 0 ≤ (ji6) then (if (ji6 : Int).toNat ≤ 35184372088832 then ((impl_foldSheet.f k a0 a1 a2).bind fun t302 => (impl_ImposeSheet.l0 k a0 t302 (t302.length : Int) 0 a0 a1 (List.replicate (ji6 : Int).toNat 0) (List.replicate (ji6 : Int).toNat 0) (List.replicate (ji6 : Int).toNat 0))) else (none)) else (none)) = some (r1, r2, r3, r4, r5, r6) := by first | (rw [hji6] at H; exact H) | (simp only [hji6] at H ⊢; exact H)
  (try rw [hji6] at A4)
  have hji6w : (IntKind.i64.wrap (a0 * a1)) = ji6 := (i64_w _).trans hji6
  by_cases c7 : 0 ≤ (ji6)
  ·rw [if_pos c7] at H
   have c7b0 := eq_true c7
   have c7b1 : decide (0 ≤ (ji6)) = true := decide_eq_true c7
   clear c7
   by_cases c8 : (ji6 : Int).toNat ≤ 35184372088832
   ·rw [if_pos c8] at H
    have c8b0 := eq_true c8
    have c8b1 : decide ((ji6 : Int).toNat ≤ 35184372088832) = true := decide_eq_true c8
    clear c8
    obtain ⟨y292, hy292⟩ : ∃ y_ : List Int, y_ = (List.replicate (ji6 : Int).toNat 0) := ⟨_, rfl⟩
    replace H : ((impl_foldSheet.f k a0 a1 a2).bind fun t302 => (impl_ImposeSheet.l0 k a0 t302 (t302.length : Int) 0 a0 a1 y292 (List.replicate (ji6 : Int).toNat 0) (List.replicate (ji6 : Int).toNat 0))) = some (r1, r2, r3, r4, r5, r6) := rh_ hy292 H
    have Ny292 := a_ hy292
    clear hy292
    obtain ⟨y295, hy295⟩ : ∃ y_ : List Int, y_ = (List.replicate (ji6 : Int).toNat 0) := ⟨_, rfl⟩
    replace H : ((impl_foldSheet.f k a0 a1 a2).bind fun t302 => (impl_ImposeSheet.l0 k a0 t302 (t302.length : Int) 0 a0 a1 y292 y295 (List.replicate (ji6 : Int).toNat 0))) = some (r1, r2, r3, r4, r5, r6) := rh_ hy295 H
    have Ny295 := a_ hy295
    clear hy295
    obtain ⟨y298, hy298⟩ : ∃ y_ : List Int, y_ = (List.replicate (ji6 : Int).toNat 0) := ⟨_, rfl⟩
    replace H : ((impl_foldSheet.f k a0 a1 a2).bind fun t302 => (impl_ImposeSheet.l0 k a0 t302 (t302.length : Int) 0 a0 a1 y292 y295 y298)) = some (r1, r2, r3, r4, r5, r6) := rh_ hy298 H
    have Ny298 := a_ hy298
    clear hy298
    replace H := Option.bind_eq_some_iff.mp H
    obtain ⟨t302, A90, H⟩ := H
    replace H : (impl_ImposeSheet.l0 k a0 t302 (t302.length : Int) 0 a0 a1 y292 y295 y298) = some (r1, r2, r3, r4, r5, r6) := H
    have A9 := a_ A90
    clear A90
    have H' := a_ H
    clear H
    go_enter Tryd.func5, Tryd.ntmps5
    try go_wp2_with (first | ((with_reducible refine gate_dst (N := 6) rfl ?_); refine box_event ?hg (N := 6) ?hd (cs := #[.int .i64 0, .int .i64 0, .slice none 0 0, .slice none 0 0, .slice none 0 0]) (t := 24) ?hr ?_; (case hd => rfl); (case hg => rfl); (case hr => first | (go_simp; done) | (go_simp; rfl)); intro gb290 hg w10 hbox hb; have BK290 := a_ (hbox); have GW290 := a_ ((z22_ : w.heap.size ≤ gb290)); have GE290 := a_ ((z22_ : w.heap.size ≤ gb290)); replace HB := bst_ z23_ hb; clear hb hbox hg) | ((with_reducible refine gate_callee (f := 11) rfl ?_); refine goesL_ (some 18) rfl rfl Tryd.func11 (by kernel_rfl) rfl #[.int .i64 a0, .int .i64 a1, .string a2] rfl z27_ ?_; (with_reducible refine (impl_checkScheme.calls k a0 a1 a2 t291 _ A4.out).mono ?_); rintro e w11 ⟨rfl, hb⟩; refine ⟨_, rfl, ?_⟩; replace BK290 := bb_ gb290 BK290 hb; replace HB := bst_ z17_ hb; (try clear hb); (try clear hb2); (try clear hk); (try clear hi)))
    replace BK290 := a_ (blk_drew BK290.out)
    replace HB := a_ (below_drew1 HB.out)
    refine start_ (n := 11) (S := fun w' => True) (ds := []) #[false, false, false, false, false, false, false, false, false, false, false] (by kernel_rfl) rfl rfl trivial (fun hHeld => ?_); refine with_tabW impl_ImposeSheet.tab5 impl_ImposeSheet.bits5 (fun HT_ HW_ => ?_)
    generalize w11.drew = w12 at BK290 HB hHeld ⊢
    refine pv_ (i := 0) (N := some 26) ?_
    refine pv_ (i := 1) (N := some 27) ?_
    refine pv_ (i := 2) (N := some 28) ?_
    refine pv_ (i := 4) (N := some 30) ?_
    refine pv_ (i := 6) (N := some 32) ?_
    refine inv_at [3, 5, 7, 8, 9, 10] (fun a0_ b a w' => ∃ (v293 : Value) (v296 : Value) (v299 : Value) (gb301 : Nat) (m8_ : Value) (m9_ : Value), a = putSel a0_ b [(3, 29, v293), (5, 31, v296), (7, 33, v299), (8, 34, m8_), (9, 10, m9_)] ∧ (w'.heap[gb290]? = some (.cells #[.int .i64 0, .int .i64 0, .slice none 0 0, .slice none 0 0, .slice none 0 0] 24 (0, 0))) ∧ (Below w.heap.size w w') ∧ (b 3 = true → Kd.R (Kd.int .i64) 2 w' w.heap.size (fun _ => True) v293 y292) ∧ (b 5 = true → Kd.R (Kd.int .i64) 2 w' w.heap.size (fun _ => True) v296 y295) ∧ (b 7 = true → Kd.R (Kd.int .i64) 2 w' w.heap.size (fun _ => True) v299 y298) ∧ (b 9 = true → b 10 = false → w'.heap[gb301]? = some (.cells #[.int .i64 0, .int .i64 0, .slice none 0 0, .slice none 0 0, .slice none 0 0] 24 (0, 0))) ∧ (b 9 = true → w.heap.size ≤ gb301) ∧ (b 9 = true → w.heap.size ≤ gb301) ∧ (b 9 = true → gb290 ≠ gb301) ∧ (b 9 = true → gb301 ≠ gb290) ∧ (b 10 = true → w'.heap[gb301]? = some (.cells #[.int .i64 a0, .int .i64 a1, v293, v296, v299] 24 (0, 0))) ∧ (b 8 = true → (m8_ : Value) = .agg #[.int .i64 a0, .int .i64 a1, v293, v296, v299]) ∧ (b 9 = true → (m9_ : Value) = .pointer (some ⟨gb301, 0, none⟩)) ∧ (b 3 = true → b 5 = true → ∀ k_ : Nat, (v293 : Value).ownBlock = some k_ → (v296 : Value).ownBlock ≠ some k_) ∧ (b 3 = true → b 7 = true → ∀ k_ : Nat, (v293 : Value).ownBlock = some k_ → (v299 : Value).ownBlock ≠ some k_) ∧ (b 5 = true → b 7 = true → ∀ k_ : Nat, (v296 : Value).ownBlock = some k_ → (v299 : Value).ownBlock ≠ some k_)) HT_.out HW_.out (by kernel_rfl) (by kernel_rfl) ?_ ?_ ?_
    ·exact ⟨.bool false, .bool false, .bool false, 0, .bool false, .bool false, by simp only [putSel, Bool.false_eq_true, if_false], BK290.out, HB.out, fun h_ => absurd h_ (by decide), fun h_ => absurd h_ (by decide), fun h_ => absurd h_ (by decide), fun h_ => absurd h_ (by decide), fun h_ => absurd h_ (by decide), fun h_ => absurd h_ (by decide), fun h_ => absurd h_ (by decide), fun h_ => absurd h_ (by decide), fun h_ => absurd h_ (by decide), fun h_ => absurd h_ (by decide), fun h_ => absurd h_ (by decide), fun h_ => absurd h_ (by decide), fun h_ => absurd h_ (by decide), fun h_ => absurd h_ (by decide)⟩
    ·skip
     clear BK290 HB
     refine steps_cons ?_ ?_
     ·rintro b a w' ⟨v293, v296, v299, gb301, m8_, m9_, ha, Q_BK290, Q_HB, Q_HO294, Q_HO297, Q_HO300, Q_BK301, Q_GW301, Q_GE301, Q_NB290_301, Q_NB301_290, Q_BK301_e10, Q_X8_, Q_X9_, Q_NE3_5, Q_NE3_7, Q_NE5_7⟩ hb_ hon hoff
      refine ⟨_, rfl, fun K hK => ?_⟩
      have e28 : a.tmps[28]? = some (.int .i64 ji6) := by rw [ha]; exact (putSel_off rfl).trans rfl
      replace ha := a_ ha
      have BK290 := a_ Q_BK290
      have HB := a_ Q_HB
      refine Kd.R_make_step (Kd.int .i64) _ 2 (by rfl) (N := 29) rfl 22 _ _ rfl ji6 (by simp [Act.eval, Array.getD_eq_getD_getElem?, e28]) (by simp [Act.eval, Array.getD_eq_getD_getElem?, e28]) Tryd.underlying22 (.int .i64 0) 8 info2 rfl (by decide) (by omega) 0 (ok := fun _ => True) (okp := fun _ => True) rfl (fun _ hk => hk) trivial (of_decide_eq_true z47_) (Nat.le_trans (Nat.mul_le_mul_right _ (of_decide_eq_true z47_ : ji6.toNat ≤ 35184372088832)) (by omega)) (Below.refl _ _) (Nat.le_refl _) ?_
      intro v293 w13 ho14 hb hg_ hnew_
      clear hg_ hnew_
      (first | rw [← Ny292.out] at ho14 | (simp only [Int.reduceToNat] at ho14; rw [← Ny292.out] at ho14))
      have n0_ := a_ (Kd.R_lower ho14 (below_size z17_))
      have n1_ := bb_ gb290 BK290 hb
      have n2_ := bst_ z17_ hb
      have z_HO297 := fun (h0_ : b 5 = true) => (show Kd.R (Kd.int .i64) 2 w13 w.heap.size (fun _ => True) v296 y295 from by first | exact (Kd.R_elder' (rc_ (h := by exact Q_HO297 h0_)) (Kd.R_base ho14) hb) | exact Kd.R_mono (Kd.R_elder' (rc_ (h := by exact Q_HO297 h0_)) (Kd.R_base ho14) hb) (fun _ h_ => by first | trivial | exact h_ | exact h_.1))
      have z_HO300 := fun (h0_ : b 7 = true) => (show Kd.R (Kd.int .i64) 2 w13 w.heap.size (fun _ => True) v299 y298 from by first | exact (Kd.R_elder' (rc_ (h := by exact Q_HO300 h0_)) (Kd.R_base ho14) hb) | exact Kd.R_mono (Kd.R_elder' (rc_ (h := by exact Q_HO300 h0_)) (Kd.R_base ho14) hb) (fun _ h_ => by first | trivial | exact h_ | exact h_.1))
      have z_BK301 := fun (h0_ : b 9 = true) (h1_ : b 10 = false) => (show w13.heap[gb301]? = some (.cells #[.int .i64 0, .int .i64 0, .slice none 0 0, .slice none 0 0, .slice none 0 0] 24 (0, 0)) from z4_)
      clear BK290; clear HB
      have HO294 := n0_
      have BK290 := n1_
      have HB := n2_
      clear n0_ n1_ n2_
      have z_NE3_5 := fun (h1_ : b 5 = true) (k_ : Nat) (hk_ : (v293 : Value).ownBlock = some k_) (hk2_ : (v296 : Value).ownBlock = some k_) => (Nat.not_lt.mpr (Kd.R_base ho14 k_ hk_)) (Kd.R_lt (Q_HO297 h1_) k_ hk2_)
      have z_NE3_7 := fun (h1_ : b 7 = true) (k_ : Nat) (hk_ : (v293 : Value).ownBlock = some k_) (hk2_ : (v299 : Value).ownBlock = some k_) => (Nat.not_lt.mpr (Kd.R_base ho14 k_ hk_)) (Kd.R_lt (Q_HO300 h1_) k_ hk2_)
      clear hb ho14
      refine hK.out _ _ ⟨v293, v296, v299, gb301, m8_, m9_, (by rw [ha.out]; exact putSel_upk 0 hb_ rfl rfl rfl), (rb_ BK290.out), z17_, fun _ => (ra_ HO294.out), z_HO297, z_HO300, z_BK301, Q_GW301, Q_GE301, Q_NB290_301, Q_NB301_290, fun h0_ => absurd ((hoff 10 (by kernel_rfl)).symm.trans h0_) (by decide), fun h0_ => absurd ((hoff 8 (by kernel_rfl)).symm.trans h0_) (by decide), Q_X9_, fun _ h1_ => z_NE3_5 h1_, fun _ h1_ => z_NE3_7 h1_, Q_NE5_7⟩
     refine steps_cons ?_ ?_
     ·rintro b a w' ⟨v293, v296, v299, gb301, m8_, m9_, ha, Q_BK290, Q_HB, Q_HO294, Q_HO297, Q_HO300, Q_BK301, Q_GW301, Q_GE301, Q_NB290_301, Q_NB301_290, Q_BK301_e10, Q_X8_, Q_X9_, Q_NE3_5, Q_NE3_7, Q_NE5_7⟩ hb_ hon hoff
      refine ⟨_, rfl, fun K hK => ?_⟩
      have e30 : a.tmps[30]? = some (.int .i64 ji6) := by rw [ha]; exact (putSel_off rfl).trans rfl
      replace ha := a_ ha
      have BK290 := a_ Q_BK290
      have HB := a_ Q_HB
      refine Kd.R_make_step (Kd.int .i64) _ 2 (by rfl) (N := 31) rfl 22 _ _ rfl ji6 (by simp [Act.eval, Array.getD_eq_getD_getElem?, e30]) (by simp [Act.eval, Array.getD_eq_getD_getElem?, e30]) Tryd.underlying22 (.int .i64 0) 8 info2 rfl (by decide) (by omega) 0 (ok := fun _ => True) (okp := fun _ => True) rfl (fun _ hk => hk) trivial (of_decide_eq_true z47_) (Nat.le_trans (Nat.mul_le_mul_right _ (of_decide_eq_true z47_ : ji6.toNat ≤ 35184372088832)) (by omega)) (Below.refl _ _) (Nat.le_refl _) ?_
      intro v296 w13 ho14 hb hg_ hnew_
      clear hg_ hnew_
      (first | rw [← Ny295.out] at ho14 | (simp only [Int.reduceToNat] at ho14; rw [← Ny295.out] at ho14))
      have n0_ := a_ (Kd.R_lower ho14 (below_size z17_))
      have n1_ := bb_ gb290 BK290 hb
      have n2_ := bst_ z17_ hb
      have z_HO294 := fun (h0_ : b 3 = true) => (show Kd.R (Kd.int .i64) 2 w13 w.heap.size (fun _ => True) v293 y292 from by first | exact (Kd.R_elder' (rc_ (h := by exact Q_HO294 h0_)) (Kd.R_base ho14) hb) | exact Kd.R_mono (Kd.R_elder' (rc_ (h := by exact Q_HO294 h0_)) (Kd.R_base ho14) hb) (fun _ h_ => by first | trivial | exact h_ | exact h_.1))
      have z_HO300 := fun (h0_ : b 7 = true) => (show Kd.R (Kd.int .i64) 2 w13 w.heap.size (fun _ => True) v299 y298 from by first | exact (Kd.R_elder' (rc_ (h := by exact Q_HO300 h0_)) (Kd.R_base ho14) hb) | exact Kd.R_mono (Kd.R_elder' (rc_ (h := by exact Q_HO300 h0_)) (Kd.R_base ho14) hb) (fun _ h_ => by first | trivial | exact h_ | exact h_.1))
      have z_BK301 := fun (h0_ : b 9 = true) (h1_ : b 10 = false) => (show w13.heap[gb301]? = some (.cells #[.int .i64 0, .int .i64 0, .slice none 0 0, .slice none 0 0, .slice none 0 0] 24 (0, 0)) from z4_)
      clear BK290; clear HB
      have HO297 := n0_
      have BK290 := n1_
      have HB := n2_
      clear n0_ n1_ n2_
      have z_NE3_5 := fun (h1_ : b 3 = true) (k_ : Nat) (hk_ : (v293 : Value).ownBlock = some k_) (hk2_ : (v296 : Value).ownBlock = some k_) => (Nat.not_lt.mpr (Kd.R_base ho14 k_ hk2_)) (Kd.R_lt (Q_HO294 h1_) k_ hk_)
      have z_NE5_7 := fun (h1_ : b 7 = true) (k_ : Nat) (hk_ : (v296 : Value).ownBlock = some k_) (hk2_ : (v299 : Value).ownBlock = some k_) => (Nat.not_lt.mpr (Kd.R_base ho14 k_ hk_)) (Kd.R_lt (Q_HO300 h1_) k_ hk2_)
      clear hb ho14
      refine hK.out _ _ ⟨v293, v296, v299, gb301, m8_, m9_, (by rw [ha.out]; exact putSel_upk 1 hb_ rfl rfl rfl), (rb_ BK290.out), z17_, z_HO294, fun _ => (ra_ HO297.out), z_HO300, z_BK301, Q_GW301, Q_GE301, Q_NB290_301, Q_NB301_290, fun h0_ => absurd ((hoff 10 (by kernel_rfl)).symm.trans h0_) (by decide), fun h0_ => absurd ((hoff 8 (by kernel_rfl)).symm.trans h0_) (by decide), Q_X9_, fun h1_ _ => z_NE3_5 h1_, Q_NE3_7, fun _ h1_ => z_NE5_7 h1_⟩
     refine steps_cons ?_ ?_
     ·rintro b a w' ⟨v293, v296, v299, gb301, m8_, m9_, ha, Q_BK290, Q_HB, Q_HO294, Q_HO297, Q_HO300, Q_BK301, Q_GW301, Q_GE301, Q_NB290_301, Q_NB301_290, Q_BK301_e10, Q_X8_, Q_X9_, Q_NE3_5, Q_NE3_7, Q_NE5_7⟩ hb_ hon hoff
      refine ⟨_, rfl, fun K hK => ?_⟩
      have e32 : a.tmps[32]? = some (.int .i64 ji6) := by rw [ha]; exact (putSel_off rfl).trans rfl
      replace ha := a_ ha
      have BK290 := a_ Q_BK290
      have HB := a_ Q_HB
      refine Kd.R_make_step (Kd.int .i64) _ 2 (by rfl) (N := 33) rfl 22 _ _ rfl ji6 (by simp [Act.eval, Array.getD_eq_getD_getElem?, e32]) (by simp [Act.eval, Array.getD_eq_getD_getElem?, e32]) Tryd.underlying22 (.int .i64 0) 8 info2 rfl (by decide) (by omega) 0 (ok := fun _ => True) (okp := fun _ => True) rfl (fun _ hk => hk) trivial (of_decide_eq_true z47_) (Nat.le_trans (Nat.mul_le_mul_right _ (of_decide_eq_true z47_ : ji6.toNat ≤ 35184372088832)) (by omega)) (Below.refl _ _) (Nat.le_refl _) ?_
      intro v299 w13 ho14 hb hg_ hnew_
      clear hg_ hnew_
      (first | rw [← Ny298.out] at ho14 | (simp only [Int.reduceToNat] at ho14; rw [← Ny298.out] at ho14))
      have n0_ := a_ (Kd.R_lower ho14 (below_size z17_))
      have n1_ := bb_ gb290 BK290 hb
      have n2_ := bst_ z17_ hb
      have z_HO294 := fun (h0_ : b 3 = true) => (show Kd.R (Kd.int .i64) 2 w13 w.heap.size (fun _ => True) v293 y292 from by first | exact (Kd.R_elder' (rc_ (h := by exact Q_HO294 h0_)) (Kd.R_base ho14) hb) | exact Kd.R_mono (Kd.R_elder' (rc_ (h := by exact Q_HO294 h0_)) (Kd.R_base ho14) hb) (fun _ h_ => by first | trivial | exact h_ | exact h_.1))
      have z_HO297 := fun (h0_ : b 5 = true) => (show Kd.R (Kd.int .i64) 2 w13 w.heap.size (fun _ => True) v296 y295 from by first | exact (Kd.R_elder' (rc_ (h := by exact Q_HO297 h0_)) (Kd.R_base ho14) hb) | exact Kd.R_mono (Kd.R_elder' (rc_ (h := by exact Q_HO297 h0_)) (Kd.R_base ho14) hb) (fun _ h_ => by first | trivial | exact h_ | exact h_.1))
      have z_BK301 := fun (h0_ : b 9 = true) (h1_ : b 10 = false) => (show w13.heap[gb301]? = some (.cells #[.int .i64 0, .int .i64 0, .slice none 0 0, .slice none 0 0, .slice none 0 0] 24 (0, 0)) from z4_)
      clear BK290; clear HB
      have HO300 := n0_
      have BK290 := n1_
      have HB := n2_
      clear n0_ n1_ n2_
      have z_NE3_7 := fun (h1_ : b 3 = true) (k_ : Nat) (hk_ : (v293 : Value).ownBlock = some k_) (hk2_ : (v299 : Value).ownBlock = some k_) => (Nat.not_lt.mpr (Kd.R_base ho14 k_ hk2_)) (Kd.R_lt (Q_HO294 h1_) k_ hk_)
      have z_NE5_7 := fun (h1_ : b 5 = true) (k_ : Nat) (hk_ : (v296 : Value).ownBlock = some k_) (hk2_ : (v299 : Value).ownBlock = some k_) => (Nat.not_lt.mpr (Kd.R_base ho14 k_ hk2_)) (Kd.R_lt (Q_HO297 h1_) k_ hk_)
      clear hb ho14
      refine hK.out _ _ ⟨v293, v296, v299, gb301, m8_, m9_, (by rw [ha.out]; exact putSel_upk 2 hb_ rfl rfl rfl), (rb_ BK290.out), z17_, z_HO294, z_HO297, fun _ => (ra_ HO300.out), z_BK301, Q_GW301, Q_GE301, Q_NB290_301, Q_NB301_290, fun h0_ => absurd ((hoff 10 (by kernel_rfl)).symm.trans h0_) (by decide), fun h0_ => absurd ((hoff 8 (by kernel_rfl)).symm.trans h0_) (by decide), Q_X9_, Q_NE3_5, fun h1_ _ => z_NE3_7 h1_, fun h1_ _ => z_NE5_7 h1_⟩
     refine steps_cons ?_ ?_
     ·rintro b a w' ⟨v293, v296, v299, gb301, m8_, m9_, ha, Q_BK290, Q_HB, Q_HO294, Q_HO297, Q_HO300, Q_BK301, Q_GW301, Q_GE301, Q_NB290_301, Q_NB301_290, Q_BK301_e10, Q_X8_, Q_X9_, Q_NE3_5, Q_NE3_7, Q_NE5_7⟩ hb_ hon hoff
      refine ⟨_, rfl, fun K hK => ?_⟩
      have e26 : a.tmps[26]? = some (.int .i64 a0) := by rw [ha]; exact (putSel_off rfl).trans rfl
      have e27 : a.tmps[27]? = some (.int .i64 a1) := by rw [ha]; exact (putSel_off rfl).trans rfl
      have e29 : a.tmps[29]? = some (v293) := by rw [ha]; exact putSel_on (e := (3, 29, v293)) 0 rfl rfl (hon 3 (by kernel_rfl)) rfl
      have e31 : a.tmps[31]? = some (v296) := by rw [ha]; exact putSel_on (e := (5, 31, v296)) 1 rfl rfl (hon 5 (by kernel_rfl)) rfl
      have e33 : a.tmps[33]? = some (v299) := by rw [ha]; exact putSel_on (e := (7, 33, v299)) 2 rfl rfl (hon 7 (by kernel_rfl)) rfl
      replace ha := a_ ha
      have BK290 := a_ Q_BK290
      have HB := a_ Q_HB
      have HO294 := a_ (Q_HO294 (hon 3 (by kernel_rfl)))
      have HO297 := a_ (Q_HO297 (hon 5 (by kernel_rfl)))
      have HO300 := a_ (Q_HO300 (hon 7 (by kernel_rfl)))
      obtain ⟨Ao8_0, co8_0, eo_⟩ := Kd.R_slice HO294.out
      subst eo_
      obtain ⟨Ao8_1, co8_1, eo_⟩ := Kd.R_slice HO297.out
      subst eo_
      obtain ⟨Ao8_2, co8_2, eo_⟩ := Kd.R_slice HO300.out
      subst eo_
      refine value_ (w1 := w') (v := .agg #[.int .i64 a0, .int .i64 a1, .slice Ao8_0 y292.length co8_0, .slice Ao8_1 y295.length co8_1, .slice Ao8_2 y298.length co8_2]) (by rfl) rfl ?_ ?_
      ·go_simp
       (try simp only [i64_w])
       try rfl
       (try (first | done | omega | (simp only [decide_eq_true_eq] at *; omega)))
      refine hK.out _ _ ⟨.slice Ao8_0 y292.length co8_0, .slice Ao8_1 y295.length co8_1, .slice Ao8_2 y298.length co8_2, gb301, (.agg #[.int .i64 a0, .int .i64 a1, .slice Ao8_0 y292.length co8_0, .slice Ao8_1 y295.length co8_1, .slice Ao8_2 y298.length co8_2]), m9_, (by rw [ha.out]; exact putSel_upk 3 hb_ rfl rfl rfl), Q_BK290, Q_HB, Q_HO294, Q_HO297, Q_HO300, Q_BK301, Q_GW301, Q_GE301, Q_NB290_301, Q_NB301_290, fun h0_ => absurd ((hoff 10 (by kernel_rfl)).symm.trans h0_) (by decide), fun _ => rfl, Q_X9_, Q_NE3_5, Q_NE3_7, Q_NE5_7⟩
     refine steps_cons ?_ ?_
     ·rintro b a w' ⟨v293, v296, v299, gb301, m8_, m9_, ha, Q_BK290, Q_HB, Q_HO294, Q_HO297, Q_HO300, Q_BK301, Q_GW301, Q_GE301, Q_NB290_301, Q_NB301_290, Q_BK301_e10, Q_X8_, Q_X9_, Q_NE3_5, Q_NE3_7, Q_NE5_7⟩ hb_ hon hoff
      refine ⟨_, rfl, fun K hK => ?_⟩
      replace ha := a_ ha
      have BK290 := a_ Q_BK290
      have HB := a_ Q_HB
      refine box_step ?hg (N := 10) ?hd (cs := #[.int .i64 0, .int .i64 0, .slice none 0 0, .slice none 0 0, .slice none 0 0]) (t := 24) ?hr ?_; (case hd => rfl); (case hg => rfl); (case hr => first | (go_simp; done) | (go_simp; rfl))
      intro gb301 hg w13 hbox hb
      have n0_ := bb_ gb290 BK290 hb
      have n1_ := bst_ z17_ hb
      have n2_ := a_ (hbox)
      have n3_ := a_ ((by rw [hg]; exact (below_size z17_) : w.heap.size ≤ gb301))
      have n4_ := a_ ((by rw [hg]; exact (below_size z17_) : w.heap.size ≤ gb301))
      have n5_ := a_ ((by rw [hg]; exact Nat.ne_of_lt (blk_lt (g := gb290) (rb_ BK290.out)) : gb290 ≠ gb301))
      have n6_ := a_ ((by rw [hg]; exact Nat.ne_of_gt (blk_lt (g := gb290) (rb_ BK290.out)) : gb301 ≠ gb290))
      have z_HO294 := fun (h0_ : b 3 = true) => (show Kd.R (Kd.int .i64) 2 w13 w.heap.size (fun _ => True) v293 y292 from by first | exact (Kd.R_below (rc_ (h := by exact Q_HO294 h0_)) hb) | exact Kd.R_mono (Kd.R_below (rc_ (h := by exact Q_HO294 h0_)) hb) (fun _ h_ => by first | trivial | exact h_ | exact h_.1))
      have z_HO297 := fun (h0_ : b 5 = true) => (show Kd.R (Kd.int .i64) 2 w13 w.heap.size (fun _ => True) v296 y295 from by first | exact (Kd.R_below (rc_ (h := by exact Q_HO297 h0_)) hb) | exact Kd.R_mono (Kd.R_below (rc_ (h := by exact Q_HO297 h0_)) hb) (fun _ h_ => by first | trivial | exact h_ | exact h_.1))
      have z_HO300 := fun (h0_ : b 7 = true) => (show Kd.R (Kd.int .i64) 2 w13 w.heap.size (fun _ => True) v299 y298 from by first | exact (Kd.R_below (rc_ (h := by exact Q_HO300 h0_)) hb) | exact Kd.R_mono (Kd.R_below (rc_ (h := by exact Q_HO300 h0_)) hb) (fun _ h_ => by first | trivial | exact h_ | exact h_.1))
      clear BK290; clear HB
      have BK290 := n0_
      have HB := n1_
      have BK301 := n2_
      have GW301 := n3_
      have GE301 := n4_
      have NB290_301 := n5_
      have NB301_290 := n6_
      clear n0_ n1_ n2_ n3_ n4_ n5_ n6_
      clear hb hbox hg
      refine hK.out _ _ ⟨v293, v296, v299, gb301, m8_, (.pointer (some ⟨gb301, 0, none⟩)), (by rw [ha.out]; exact putSel_upk 4 hb_ rfl rfl rfl), (rb_ BK290.out), z9_, z_HO294, z_HO297, z_HO300, fun _ _ => (rb_ BK301.out), fun _ => GW301.out, fun _ => GE301.out, fun _ => NB290_301.out, fun _ => NB301_290.out, fun h0_ => absurd ((hoff 10 (by kernel_rfl)).symm.trans h0_) (by decide), Q_X8_, fun _ => rfl, Q_NE3_5, Q_NE3_7, Q_NE5_7⟩
     refine steps_cons ?_ ?_
     ·rintro b a w' ⟨v293, v296, v299, gb301, m8_, m9_, ha, Q_BK290, Q_HB, Q_HO294, Q_HO297, Q_HO300, Q_BK301, Q_GW301, Q_GE301, Q_NB290_301, Q_NB301_290, Q_BK301_e10, Q_X8_, Q_X9_, Q_NE3_5, Q_NE3_7, Q_NE5_7⟩ hb_ hon hoff
      refine ⟨_, rfl, fun K hK => ?_⟩
      have e10 : a.tmps[10]? = some (m9_) := by rw [ha]; exact putSel_on (e := (9, 10, m9_)) 4 rfl rfl (hon 9 (by kernel_rfl)) rfl
      rw [Q_X9_ (hon 9 (by kernel_rfl))] at e10
      have e34 : a.tmps[34]? = some (m8_) := by rw [ha]; exact putSel_on (e := (8, 34, m8_)) 3 rfl rfl (hon 8 (by kernel_rfl)) rfl
      rw [Q_X8_ (hon 8 (by kernel_rfl))] at e34
      replace ha := a_ ha
      have BK290 := a_ Q_BK290
      have HB := a_ Q_HB
      have HO294 := a_ (Q_HO294 (hon 3 (by kernel_rfl)))
      have HO297 := a_ (Q_HO297 (hon 5 (by kernel_rfl)))
      have HO300 := a_ (Q_HO300 (hon 7 (by kernel_rfl)))
      have BK301 := a_ (Q_BK301 (hon 9 (by kernel_rfl)) hb_)
      have GW301 := a_ (Q_GW301 (hon 9 (by kernel_rfl)))
      have GE301 := a_ (Q_GE301 (hon 9 (by kernel_rfl)))
      have NB290_301 := a_ (Q_NB290_301 (hon 9 (by kernel_rfl)))
      have NB301_290 := a_ (Q_NB301_290 (hon 9 (by kernel_rfl)))
      obtain ⟨Ao24, co24, eo24⟩ := Kd.R_slice HO300.out
      (first | subst eo24 | (injection eo24 with f1_ f2_ f3_; have f4_ := f1_.symm; have f5_ := f3_.symm; clear f1_ f2_ f3_; subst f4_; subst f5_))
      obtain ⟨Ao25, co25, eo25⟩ := Kd.R_slice HO297.out
      (first | subst eo25 | (injection eo25 with f1_ f2_ f3_; have f4_ := f1_.symm; have f5_ := f3_.symm; clear f1_ f2_ f3_; subst f4_; subst f5_))
      obtain ⟨Ao26, co26, eo26⟩ := Kd.R_slice HO294.out
      (first | subst eo26 | (injection eo26 with f1_ f2_ f3_; have f4_ := f1_.symm; have f5_ := f3_.symm; clear f1_ f2_ f3_; subst f4_; subst f5_))
      have hs27 : w'.cell? ⟨gb301, 0, none⟩ = some (.int .i64 0) := (blk_cell BK301.out 0).trans rfl
      have hfs27 := blk_frozen BK301.out 0
      have hns27_0 := NB290_301.out
      have hms27_0 := NB301_290.out
      have hs28 : w'.cell? ⟨gb301, 1, none⟩ = some (.int .i64 0) := (blk_cell BK301.out 1).trans rfl
      have hfs28 := blk_frozen BK301.out 1
      have hns28_0 := NB290_301.out
      have hms28_0 := NB301_290.out
      have hs29 : w'.cell? ⟨gb301, 2, none⟩ = some (.slice none 0 0) := (blk_cell BK301.out 2).trans rfl
      have hfs29 := blk_frozen BK301.out 2
      have hns29_0 := NB290_301.out
      have hms29_0 := NB301_290.out
      have hs30 : w'.cell? ⟨gb301, 3, none⟩ = some (.slice none 0 0) := (blk_cell BK301.out 3).trans rfl
      have hfs30 := blk_frozen BK301.out 3
      have hns30_0 := NB290_301.out
      have hms30_0 := NB301_290.out
      have hs31 : w'.cell? ⟨gb301, 4, none⟩ = some (.slice none 0 0) := (blk_cell BK301.out 4).trans rfl
      have hfs31 := blk_frozen BK301.out 4
      have hns31_0 := NB290_301.out
      have hms31_0 := NB301_290.out
      refine skip_ (w1 := ?_) (by rfl) rfl ?_ ?_
      rotate_left
      ·go_simp
       rfl
      refine hK.out _ _ ⟨.slice Ao26 y292.length co26, .slice Ao25 y295.length co25, .slice Ao24 y298.length co24, gb301, m8_, m9_, (by rw [ha.out]; exact putSel_none (v := undef) rfl), (rb2_ (h := by exact bf5_ NB290_301.out BK290.out)), z9_, fun _ => (rc_ (h := by exact Kd.R_mono (rt5_ HO294.out BK301.out) (fun _ _ => trivial))), fun _ => (rc_ (h := by exact Kd.R_mono (rt5_ HO297.out BK301.out) (fun _ _ => trivial))), fun _ => (rc_ (h := by exact Kd.R_mono (rt5_ HO300.out BK301.out) (fun _ _ => trivial))), fun _ h1_ => absurd ((up_self b 10).symm.trans h1_) (by decide), fun _ => GW301.out, fun _ => GE301.out, fun _ => NB290_301.out, fun _ => NB301_290.out, fun _ => (rb2_ (h := by exact bp5x5_ BK301.out)), Q_X8_, Q_X9_, Q_NE3_5, Q_NE3_7, Q_NE5_7⟩
     exact steps_nil
    rintro b a w28 hall ⟨v293, v296, v299, gb301, m8_, m9_, ha, Q_BK290, Q_HB, Q_HO294, Q_HO297, Q_HO300, Q_BK301, Q_GW301, Q_GE301, Q_NB290_301, Q_NB301_290, Q_BK301_e10, Q_X8_, Q_X9_, Q_NE3_5, Q_NE3_7, Q_NE5_7⟩
    clear BK290 HB
    have hb3_ := hall 3 (by kernel_rfl)
    have hb5_ := hall 5 (by kernel_rfl)
    have hb7_ := hall 7 (by kernel_rfl)
    have hb8_ := hall 8 (by kernel_rfl)
    have hb9_ := hall 9 (by kernel_rfl)
    have hb10_ := hall 10 (by kernel_rfl)
    subst ha
    obtain rfl := Q_X8_ hb8_
    obtain rfl := Q_X9_ hb9_
    simp only [putSel, hb3_, hb5_, hb7_, hb8_, hb9_, hb10_, if_true, Act.put, List.setIfInBounds_toArray, List.set_cons_zero, List.set_cons_succ]
    have BK290 := a_ Q_BK290
    clear Q_BK290
    have HB := a_ Q_HB
    clear Q_HB
    have HO294 := a_ (show Kd.R (Kd.int .i64) 2 w28 w.heap.size (fun k_ => some k_ ≠ (v296 : Value).ownBlock ∧ some k_ ≠ (v299 : Value).ownBlock) v293 y292 from Kd.R_of_own (Kd.own_of_R (Q_HO294 hb3_)) (fun k_ hk_ => ⟨fun e_ => Q_NE3_5 hb3_ hb5_ k_ hk_ e_.symm, fun e_ => Q_NE3_7 hb3_ hb7_ k_ hk_ e_.symm⟩))
    have HO297 := a_ (show Kd.R (Kd.int .i64) 2 w28 w.heap.size (fun k_ => some k_ ≠ (v293 : Value).ownBlock ∧ some k_ ≠ (v299 : Value).ownBlock) v296 y295 from Kd.R_of_own (Kd.own_of_R (Q_HO297 hb5_)) (fun k_ hk_ => ⟨fun e_ => Q_NE3_5 hb3_ hb5_ k_ e_.symm hk_, fun e_ => Q_NE5_7 hb5_ hb7_ k_ hk_ e_.symm⟩))
    have HO300 := a_ (show Kd.R (Kd.int .i64) 2 w28 w.heap.size (fun k_ => some k_ ≠ (v293 : Value).ownBlock ∧ some k_ ≠ (v296 : Value).ownBlock) v299 y298 from Kd.R_of_own (Kd.own_of_R (Q_HO300 hb7_)) (fun k_ hk_ => ⟨fun e_ => Q_NE3_7 hb3_ hb7_ k_ e_.symm hk_, fun e_ => Q_NE5_7 hb5_ hb7_ k_ e_.symm hk_⟩))
    clear Q_BK301
    have GW301 := a_ (Q_GW301 hb9_)
    clear Q_GW301
    have GE301 := a_ (Q_GE301 hb9_)
    clear Q_GE301
    have NB290_301 := a_ (Q_NB290_301 hb9_)
    clear Q_NB290_301
    have NB301_290 := a_ (Q_NB301_290 hb9_)
    clear Q_NB301_290
    have BK301 := a_ (Q_BK301_e10 hb10_)
    clear Q_BK301_e10
    clear Q_NE3_5 Q_NE3_7 Q_NE5_7 Q_HO294 Q_HO297 Q_HO300
    clear hall hb3_ hb5_ hb7_ hb8_ hb9_ hb10_
    obtain ⟨Ao29, co29, eo29⟩ := Kd.R_slice HO300.out
    (first | subst eo29 | (injection eo29 with f1_ f2_ f3_; have f4_ := f1_.symm; have f5_ := f3_.symm; clear f1_ f2_ f3_; subst f4_; subst f5_))
    obtain ⟨Ao30, co30, eo30⟩ := Kd.R_slice HO297.out
    (first | subst eo30 | (injection eo30 with f1_ f2_ f3_; have f4_ := f1_.symm; have f5_ := f3_.symm; clear f1_ f2_ f3_; subst f4_; subst f5_))
    obtain ⟨Ao31, co31, eo31⟩ := Kd.R_slice HO294.out
    (first | subst eo31 | (injection eo31 with f1_ f2_ f3_; have f4_ := f1_.symm; have f5_ := f3_.symm; clear f1_ f2_ f3_; subst f4_; subst f5_))
    try go_wp2_with (first | ((with_reducible refine gate_callee (f := 12) rfl ?_); refine goesL_ (some 38) rfl rfl Tryd.func12 (by kernel_rfl) rfl #[.int .i64 a0, .int .i64 a1, .string a2] rfl z27_ ?_; (with_reducible refine (impl_foldSheet.calls k a0 a1 a2 t302 _ A9.out).mono ?_); rintro e w32 ⟨v303, rfl, ho0, hb⟩; refine ⟨_, rfl, ?_⟩; replace HO294 := rl_ HO294 hb; replace HO297 := rl_ HO297 hb; replace HO300 := rl_ HO300 hb; have HO304 := a_ (Kd.R_lower ho0 (below_size z9_)); replace BK290 := bb_ gb290 BK290 hb; replace BK301 := bb_ gb301 BK301 hb; replace HB := bst_ z9_ hb; (try clear hb); (try clear hb2); (try clear hk); (try clear hi); (try clear ho0); obtain ⟨Ao33, co33, eo33⟩ := Kd.R_slice HO304.out; subst eo33))
    go_loopg [40] k (fun kq v40 w' => ∃ (x40_1 : Int) (x302002_1 : List Int) (x302003_1 : List Int) (x302004_1 : List Int) (u302002 : Value) (u302003 : Value) (u302004 : Value), v40 = .int .i64 x40_1 ∧ Aside0 (impl_ImposeSheet.l0 kq a0 t302 (t302.length : Int) x40_1 a0 a1 x302002_1 x302003_1 x302004_1 = some (r1, r2, r3, r4, r5, r6)) ∧ Aside0 (kq ≤ k) ∧ Aside0 (Kd.R k35 35 w' w.heap.size (fun _ => True) (.slice Ao33 t302.length co33) t302) ∧ Aside0 (Kd.R (Kd.int .i64) 2 w' w.heap.size (fun k_ => some k_ ≠ (u302003 : Value).ownBlock ∧ some k_ ≠ (u302004 : Value).ownBlock) u302002 x302002_1) ∧ Aside0 (Kd.R (Kd.int .i64) 2 w' w.heap.size (fun k_ => some k_ ≠ (u302002 : Value).ownBlock ∧ some k_ ≠ (u302004 : Value).ownBlock) u302003 x302003_1) ∧ Aside0 (Kd.R (Kd.int .i64) 2 w' w.heap.size (fun k_ => some k_ ≠ (u302002 : Value).ownBlock ∧ some k_ ≠ (u302003 : Value).ownBlock) u302004 x302004_1) ∧ Aside0 (w'.heap[gb290]? = some (.cells #[.int .i64 0, .int .i64 0, (.slice none 0 0), (.slice none 0 0), (.slice none 0 0)] 24 (0, 0))) ∧ Aside0 (w'.heap[gb301]? = some (.cells #[.int .i64 a0, .int .i64 a1, u302002, u302003, u302004] 24 (0, 0))) ∧ Aside0 (Below w.heap.size w w'))
    case atStart => exact ⟨(0), (y292), (y295), (y298), (.slice Ao31 y292.length co31), (.slice Ao30 y295.length co30), (.slice Ao29 y298.length co29), z48_, H', ⟨Nat.le_refl _⟩, ⟨by (with_reducible repeat (first | apply Kd.R_alloc | apply Kd.R_drewN | apply Kd.R_drew)); exact HO304.out⟩, ⟨by (with_reducible repeat (first | apply Kd.R_alloc | apply Kd.R_drewN | apply Kd.R_drew)); exact HO294.out⟩, ⟨by (with_reducible repeat (first | apply Kd.R_alloc | apply Kd.R_drewN | apply Kd.R_drew)); exact HO297.out⟩, ⟨by (with_reducible repeat (first | apply Kd.R_alloc | apply Kd.R_drewN | apply Kd.R_drew)); exact HO300.out⟩, ⟨z34_⟩, ⟨z35_⟩, ⟨z9_⟩⟩
    case round =>
     clear H'
     try clear c5b0; try clear c5b1; try clear c7b0; try clear c7b1; try clear c8b0; try clear c8b1
     obtain ⟨x40_1, x302002_1, x302003_1, x302004_1, u302002, u302003, u302004, rfl, HA, HK1, HO_38, HO_302002, HO_302003, HO_302004, BK290, BK301, HB⟩ := hrel
     cases gk with
     | zero => exact absurd HA.out (by simp [impl_ImposeSheet.l0])
     | succ k1 =>
      have H := HA.out
      clear HA
      simp only [impl_ImposeSheet.l0] at H
      by_cases c34 : x40_1 < (t302.length : Int)
      ·rw [if_pos c34] at H
       have c34b0 : decide (x40_1 < (t302.length : Int)) = true := decide_eq_true c34
       clear c34
       by_cases c35 : 0 ≤ x40_1
       ·rw [if_pos c35] at H
        have c35b0 : decide (0 ≤ x40_1) = true := decide_eq_true c35
        clear c35
        by_cases c36 : x40_1 < (t302.length : Int)
        ·rw [if_pos c36] at H
         have c36b0 : decide (x40_1 < (t302.length : Int)) = true := decide_eq_true c36
         clear c36
         replace H := Option.bind_eq_some_iff.mp H
         obtain ⟨t307, A370, H⟩ := H
         replace H : (if t307 = true then (impl_ImposeSheet.j1 k1 a0 (wrap64 ((wrap64 (2 * x40_1)) + 2)) (wrap64 ((wrap64 (2 * x40_1)) + 1)) t302 (t302.length : Int) x40_1 a0 a1 x302002_1 x302003_1 x302004_1 ((rd_T35 t302 x40_1).f0) ((rd_T35 t302 x40_1).f1) ((rd_T35 t302 x40_1).f2) ((rd_T35 t302 x40_1).f3)) else (impl_ImposeSheet.j1 k1 a0 (wrap64 ((wrap64 (2 * x40_1)) + 1)) (wrap64 ((wrap64 (2 * x40_1)) + 2)) t302 (t302.length : Int) x40_1 a0 a1 x302002_1 x302003_1 x302004_1 ((rd_T35 t302 x40_1).f0) ((rd_T35 t302 x40_1).f1) ((rd_T35 t302 x40_1).f2) ((rd_T35 t302 x40_1).f3))) = some (r1, r2, r3, r4, r5, r6) := H
         have A37 := a_ A370
         clear A370
         have HC38 := a_ H
         clear H
         have p305 : 0 ≤ (x40_1 : Int) := of_decide_eq_true z47_
         have q305 : x40_1 < (t302.length : Int) := of_decide_eq_true z47_
         obtain ⟨ad305, e305, hx305_0, hx305_1, hx305_2, hx305_3⟩ := at_T35 (Kd.R_reads' HO_38.out).2.2 x40_1 p305 q305
         cases e305
         replace p305 := eq_true p305
         replace q305 := eq_true q305
         go_upto_if 52 with (first | ((with_reducible refine gate_dst (N := 12) rfl ?_); refine box_event ?hg (N := 12) ?hd (cs := #[.int .i64 0, .int .i64 0, .bool false, .bool false]) (t := 35) ?hr ?_; (case hd => rfl); (case hg => rfl); (case hr => first | (go_simp; done) | (go_simp; rfl)); intro gb306 hg w39 hbox hb; replace HO_38 := a_ (Kd.R_below (Kd.R_elderB (ra_ HO_38.out) gb306 (Nat.le_of_eq hg.symm)) hb); replace HO_302002 := rl_ HO_302002 hb; replace HO_302003 := rl_ HO_302003 hb; replace HO_302004 := rl_ HO_302004 hb; have BK306 := a_ (hbox); have GW306 := a_ ((by rw [hg]; exact (below_size z9_) : w.heap.size ≤ gb306)); have GE306 := a_ ((by rw [hg]; exact (below_size z9_) : w.heap.size ≤ gb306)); replace HB := bst_ z9_ hb; have NB290_306 := a_ ((by rw [hg]; exact Nat.ne_of_lt (blk_lt (g := gb290) (rb_ BK290.out)) : gb290 ≠ gb306)); have NB306_290 := a_ ((by rw [hg]; exact Nat.ne_of_gt (blk_lt (g := gb290) (rb_ BK290.out)) : gb306 ≠ gb290)); replace BK290 := bb_ gb290 BK290 hb; have NB301_306 := a_ ((by rw [hg]; exact Nat.ne_of_lt (blk_lt (g := gb301) (rb_ BK301.out)) : gb301 ≠ gb306)); have NB306_301 := a_ ((by rw [hg]; exact Nat.ne_of_gt (blk_lt (g := gb301) (rb_ BK301.out)) : gb306 ≠ gb301)); replace BK301 := bb_ gb301 BK301 hb; clear hb hbox hg; have hnb40 := NB306_290.out; have hnc40 := NB290_306.out; have hnb41 := NB306_301.out; have hnc41 := NB301_306.out; obtain ⟨hcz42_0, hcz42_1, hcz42_2, hcz42_3, hfz42_0, hfz42_1, hfz42_2, hfz42_3⟩ := cz4_ (w := w39) BK306.out) | ((with_reducible refine gate_callee (f := 13) rfl ?_); refine goesL_ (some 52) rfl rfl Tryd.func13 (by kernel_rfl) rfl #[.agg #[.int .i64 ((rd_T35 t302 x40_1).f0), .int .i64 ((rd_T35 t302 x40_1).f1), .bool ((rd_T35 t302 x40_1).f2), .bool ((rd_T35 t302 x40_1).f3)]] rfl z27_ ?_; (with_reducible refine (impl_downLeaf.calls ((rd_T35 t302 x40_1).f0) ((rd_T35 t302 x40_1).f1) ((rd_T35 t302 x40_1).f2) ((rd_T35 t302 x40_1).f3) t307 _ A37.out).mono ?_); rintro e w43 ⟨rfl, hb⟩; refine ⟨_, rfl, ?_⟩; replace HO_38 := a_ (Kd.R_below (rc_ (h := by exact Kd.R_mono (Kd.R_far (p := ⟨gb306, 3, none⟩) (Kd.R_far (p := ⟨gb306, 2, none⟩) (Kd.R_far (p := ⟨gb306, 1, none⟩) (Kd.R_far (p := ⟨gb306, 0, none⟩) (Kd.R_mono HO_38.out (fun k_ hk => (⟨hk, hk.2⟩ : _ ∧ k_ ≠ gb306))) (fun _ hk => hk.2) (.int .i64 ((rd_T35 t302 x40_1).f0))) (fun _ hk => hk.2) (.int .i64 ((rd_T35 t302 x40_1).f1))) (fun _ hk => hk.2) (.bool ((rd_T35 t302 x40_1).f2))) (fun _ hk => hk.2) (.bool ((rd_T35 t302 x40_1).f3))) (fun _ h_ => h_.1))) hb); replace HO_302002 := a_ (Kd.R_below (rc_ (h := by exact Kd.R_mono (rt4_ HO_302002.out BK306.out) (fun _ h_ => h_.1))) hb); replace HO_302003 := a_ (Kd.R_below (rc_ (h := by exact Kd.R_mono (rt4_ HO_302003.out BK306.out) (fun _ h_ => h_.1))) hb); replace HO_302004 := a_ (Kd.R_below (rc_ (h := by exact Kd.R_mono (rt4_ HO_302004.out BK306.out) (fun _ h_ => h_.1))) hb); replace BK290 := a_ (blk_below (g := gb290) (o := .cells #[.int .i64 0, .int .i64 0, .slice none 0 0, .slice none 0 0, .slice none 0 0] 24 (0, 0)) (rb2_ (h := by exact bf4_ NB290_306.out BK290.out)) hb); replace BK301 := a_ (blk_below (g := gb301) (o := .cells #[.int .i64 a0, .int .i64 a1, u302002, u302003, u302004] 24 (0, 0)) (rb2_ (h := by exact bf4_ NB301_306.out BK301.out)) hb); replace BK306 := a_ (blk_below (g := gb306) (o := .cells #[.int .i64 ((rd_T35 t302 x40_1).f0), .int .i64 ((rd_T35 t302 x40_1).f1), .bool ((rd_T35 t302 x40_1).f2), .bool ((rd_T35 t302 x40_1).f3)] 35 (0, 0)) (rb2_ (h := by exact bp4x4_ BK306.out)) hb); replace HB := bst_ z6_ hb; (try clear hb); (try clear hb2); (try clear hk); (try clear hi)))
         (try simp only [Act.put, List.setIfInBounds_toArray, List.set_cons_zero, List.set_cons_succ])
         go_cut [13, 14] (fun v13 v14 wc => ∃ (kq : Nat) (x13_37 : Int) (x14_37 : Int), v13 = .int .i64 x13_37 ∧ v14 = .int .i64 x14_37 ∧ Aside0 (impl_ImposeSheet.j1 kq a0 x13_37 x14_37 t302 (t302.length : Int) x40_1 a0 a1 x302002_1 x302003_1 x302004_1 ((rd_T35 t302 x40_1).f0) ((rd_T35 t302 x40_1).f1) ((rd_T35 t302 x40_1).f2) ((rd_T35 t302 x40_1).f3) = some (r1, r2, r3, r4, r5, r6)) ∧ Aside0 (kq ≤ k1) ∧ Aside0 (Kd.R k35 35 wc w.heap.size (fun k_ => k_ ≠ gb306) (.slice (some ad305) t302.length co33) t302) ∧ Aside0 (Kd.R (Kd.int .i64) 2 wc w.heap.size (fun k_ => some k_ ≠ (u302003 : Value).ownBlock ∧ some k_ ≠ (u302004 : Value).ownBlock) u302002 x302002_1) ∧ Aside0 (Kd.R (Kd.int .i64) 2 wc w.heap.size (fun k_ => some k_ ≠ (u302002 : Value).ownBlock ∧ some k_ ≠ (u302004 : Value).ownBlock) u302003 x302003_1) ∧ Aside0 (Kd.R (Kd.int .i64) 2 wc w.heap.size (fun k_ => some k_ ≠ (u302002 : Value).ownBlock ∧ some k_ ≠ (u302003 : Value).ownBlock) u302004 x302004_1) ∧ Aside0 (wc.heap[gb290]? = some (.cells #[.int .i64 0, .int .i64 0, (.slice none 0 0), (.slice none 0 0), (.slice none 0 0)] 24 (0, 0))) ∧ Aside0 (wc.heap[gb301]? = some (.cells #[.int .i64 a0, .int .i64 a1, u302002, u302003, u302004] 24 (0, 0))) ∧ Aside0 (wc.heap[gb306]? = some (.cells #[.int .i64 ((rd_T35 t302 x40_1).f0), .int .i64 ((rd_T35 t302 x40_1).f1), .bool ((rd_T35 t302 x40_1).f2), .bool ((rd_T35 t302 x40_1).f3)] 35 (0, 0))) ∧ Aside0 (Below w.heap.size w wc))
         case first =>
          have H := HC38.out
          clear HC38
          by_cases c44 : t307 = true
          ·subst c44
           have H1 : (impl_ImposeSheet.j1 k1 a0 (wrap64 ((wrap64 (2 * x40_1)) + 2)) (wrap64 ((wrap64 (2 * x40_1)) + 1)) t302 (t302.length : Int) x40_1 a0 a1 x302002_1 x302003_1 x302004_1 ((rd_T35 t302 x40_1).f0) ((rd_T35 t302 x40_1).f1) ((rd_T35 t302 x40_1).f2) ((rd_T35 t302 x40_1).f3)) = some (r1, r2, r3, r4, r5, r6) := by rw [if_pos rfl] at H; exact H
           clear H
           have H := H1
           clear H1
           have H' := a_ H
           clear H
           go_wp2
           go_meet
           case rel => exact ⟨_, (wrap64 ((wrap64 (2 * x40_1)) + 2)), (wrap64 ((wrap64 (2 * x40_1)) + 1)), z48_, z48_, H', ⟨z46_⟩, ⟨by (with_reducible repeat (first | apply Kd.R_alloc | apply Kd.R_drewN | apply Kd.R_drew)); exact Kd.R_mono HO_38.out (fun _ hk => hk.2)⟩, ⟨by (with_reducible repeat (first | apply Kd.R_alloc | apply Kd.R_drewN | apply Kd.R_drew)); exact HO_302002.out⟩, ⟨by (with_reducible repeat (first | apply Kd.R_alloc | apply Kd.R_drewN | apply Kd.R_drew)); exact HO_302003.out⟩, ⟨by (with_reducible repeat (first | apply Kd.R_alloc | apply Kd.R_drewN | apply Kd.R_drew)); exact HO_302004.out⟩, ⟨z34_⟩, ⟨z35_⟩, ⟨by (with_reducible repeat (first | refine blk_drewN ?_ _ | refine blk_drew ?_ | refine blk_alloc ?_ _)); exact BK306.out⟩, ⟨z6_⟩⟩
          ·replace c44 := Bool.eq_false_iff.mpr c44
           subst c44
           have H1 : (impl_ImposeSheet.j1 k1 a0 (wrap64 ((wrap64 (2 * x40_1)) + 1)) (wrap64 ((wrap64 (2 * x40_1)) + 2)) t302 (t302.length : Int) x40_1 a0 a1 x302002_1 x302003_1 x302004_1 ((rd_T35 t302 x40_1).f0) ((rd_T35 t302 x40_1).f1) ((rd_T35 t302 x40_1).f2) ((rd_T35 t302 x40_1).f3)) = some (r1, r2, r3, r4, r5, r6) := by rw [if_neg (show ¬ (false = true) by decide)] at H; exact H
           clear H
           have H := H1
           clear H1
           have H' := a_ H
           clear H
           go_wp2
           go_meet
           case rel => exact ⟨_, (wrap64 ((wrap64 (2 * x40_1)) + 1)), (wrap64 ((wrap64 (2 * x40_1)) + 2)), z48_, z48_, H', ⟨z46_⟩, ⟨by (with_reducible repeat (first | apply Kd.R_alloc | apply Kd.R_drewN | apply Kd.R_drew)); exact Kd.R_mono HO_38.out (fun _ hk => hk.2)⟩, ⟨by (with_reducible repeat (first | apply Kd.R_alloc | apply Kd.R_drewN | apply Kd.R_drew)); exact HO_302002.out⟩, ⟨by (with_reducible repeat (first | apply Kd.R_alloc | apply Kd.R_drewN | apply Kd.R_drew)); exact HO_302003.out⟩, ⟨by (with_reducible repeat (first | apply Kd.R_alloc | apply Kd.R_drewN | apply Kd.R_drew)); exact HO_302004.out⟩, ⟨z34_⟩, ⟨z35_⟩, ⟨by (with_reducible repeat (first | refine blk_drewN ?_ _ | refine blk_drew ?_ | refine blk_alloc ?_ _)); exact BK306.out⟩, ⟨z6_⟩⟩
         case rest =>
          clear HC38; try clear c34b0; try clear c35b0; try clear c36b0; try clear hcz42_0 hcz42_1 hcz42_2 hcz42_3; try clear hfz42_0 hfz42_1 hfz42_2 hfz42_3; try clear hx305_0; try clear hx305_1; try clear hx305_2; try clear hx305_3; try clear p305; try clear q305
          obtain ⟨kq, x13_37, x14_37, rfl, rfl, HA, HJ37, HO_38, HO_302002, HO_302003, HO_302004, BK290, BK301, BK306, HB⟩ := hcut
          cases kq with
          | zero => exact absurd HA.out (by simp [impl_ImposeSheet.j1])
          | succ kj37 =>
           have H := HA.out
           clear HA
           simp only [impl_ImposeSheet.j1] at H
           replace H := Option.bind_eq_some_iff.mp H
           obtain ⟨t308, A450, H⟩ := H
           replace H : (if 0 ≤ t308 then (if t308 < (x302002_1.length : Int) then ((impl_backPlace.f a0 ((rd_T35 t302 x40_1).f0) ((rd_T35 t302 x40_1).f1)).bind fun t310 => (if 0 ≤ t310 then (if t310 < (x302003_1.length : Int) then ((impl_frontPlace.f a0 ((rd_T35 t302 x40_1).f0) ((rd_T35 t302 x40_1).f1)).bind fun t312 => ((impl_toInt.f ((rd_T35 t302 x40_1).f3)).bind fun t313 => (if 0 ≤ t312 then (if t312 < (x302004_1.length : Int) then (impl_ImposeSheet.l0 kj37 a0 t302 (t302.length : Int) (wrap64 (x40_1 + 1)) a0 a1 (x302002_1.set (t308 : Int).toNat x13_37) (x302003_1.set (t310 : Int).toNat x14_37) (x302004_1.set (t312 : Int).toNat t313)) else (none)) else (none)))) else (none)) else (none))) else (none)) else (none)) = some (r1, r2, r3, r4, r5, r6) := H
           have A45 := a_ A450
           clear A450
           by_cases c46 : 0 ≤ t308
           ·rw [if_pos c46] at H
            have c46b0 : decide (0 ≤ t308) = true := decide_eq_true c46
            clear c46
            by_cases c47 : t308 < (x302002_1.length : Int)
            ·rw [if_pos c47] at H
             have c47b0 : decide (t308 < (x302002_1.length : Int)) = true := decide_eq_true c47
             clear c47
             obtain ⟨y309, hy309⟩ : ∃ y_ : List Int, y_ = (x302002_1.set (t308 : Int).toNat x13_37) := ⟨_, rfl⟩
             replace H : ((impl_backPlace.f a0 ((rd_T35 t302 x40_1).f0) ((rd_T35 t302 x40_1).f1)).bind fun t310 => (if 0 ≤ t310 then (if t310 < (x302003_1.length : Int) then ((impl_frontPlace.f a0 ((rd_T35 t302 x40_1).f0) ((rd_T35 t302 x40_1).f1)).bind fun t312 => ((impl_toInt.f ((rd_T35 t302 x40_1).f3)).bind fun t313 => (if 0 ≤ t312 then (if t312 < (x302004_1.length : Int) then (impl_ImposeSheet.l0 kj37 a0 t302 (t302.length : Int) (wrap64 (x40_1 + 1)) a0 a1 y309 (x302003_1.set (t310 : Int).toNat x14_37) (x302004_1.set (t312 : Int).toNat t313)) else (none)) else (none)))) else (none)) else (none))) = some (r1, r2, r3, r4, r5, r6) := rh_ hy309 H
             have Ny309 := a_ hy309
             clear hy309
             replace H := Option.bind_eq_some_iff.mp H
             obtain ⟨t310, A490, H⟩ := H
             replace H : (if 0 ≤ t310 then (if t310 < (x302003_1.length : Int) then ((impl_frontPlace.f a0 ((rd_T35 t302 x40_1).f0) ((rd_T35 t302 x40_1).f1)).bind fun t312 => ((impl_toInt.f ((rd_T35 t302 x40_1).f3)).bind fun t313 => (if 0 ≤ t312 then (if t312 < (x302004_1.length : Int) then (impl_ImposeSheet.l0 kj37 a0 t302 (t302.length : Int) (wrap64 (x40_1 + 1)) a0 a1 y309 (x302003_1.set (t310 : Int).toNat x14_37) (x302004_1.set (t312 : Int).toNat t313)) else (none)) else (none)))) else (none)) else (none)) = some (r1, r2, r3, r4, r5, r6) := H
             have A49 := a_ A490
             clear A490
             by_cases c50 : 0 ≤ t310
             ·rw [if_pos c50] at H
              have c50b0 : decide (0 ≤ t310) = true := decide_eq_true c50
              clear c50
              by_cases c51 : t310 < (x302003_1.length : Int)
              ·rw [if_pos c51] at H
               have c51b0 : decide (t310 < (x302003_1.length : Int)) = true := decide_eq_true c51
               clear c51
               obtain ⟨y311, hy311⟩ : ∃ y_ : List Int, y_ = (x302003_1.set (t310 : Int).toNat x14_37) := ⟨_, rfl⟩
               replace H : ((impl_frontPlace.f a0 ((rd_T35 t302 x40_1).f0) ((rd_T35 t302 x40_1).f1)).bind fun t312 => ((impl_toInt.f ((rd_T35 t302 x40_1).f3)).bind fun t313 => (if 0 ≤ t312 then (if t312 < (x302004_1.length : Int) then (impl_ImposeSheet.l0 kj37 a0 t302 (t302.length : Int) (wrap64 (x40_1 + 1)) a0 a1 y309 y311 (x302004_1.set (t312 : Int).toNat t313)) else (none)) else (none)))) = some (r1, r2, r3, r4, r5, r6) := rh_ hy311 H
               have Ny311 := a_ hy311
               clear hy311
               replace H := Option.bind_eq_some_iff.mp H
               obtain ⟨t312, A530, H⟩ := H
               replace H : ((impl_toInt.f ((rd_T35 t302 x40_1).f3)).bind fun t313 => (if 0 ≤ t312 then (if t312 < (x302004_1.length : Int) then (impl_ImposeSheet.l0 kj37 a0 t302 (t302.length : Int) (wrap64 (x40_1 + 1)) a0 a1 y309 y311 (x302004_1.set (t312 : Int).toNat t313)) else (none)) else (none))) = some (r1, r2, r3, r4, r5, r6) := H
               have A53 := a_ A530
               clear A530
               replace H := Option.bind_eq_some_iff.mp H
               obtain ⟨t313, A540, H⟩ := H
               replace H : (if 0 ≤ t312 then (if t312 < (x302004_1.length : Int) then (impl_ImposeSheet.l0 kj37 a0 t302 (t302.length : Int) (wrap64 (x40_1 + 1)) a0 a1 y309 y311 (x302004_1.set (t312 : Int).toNat t313)) else (none)) else (none)) = some (r1, r2, r3, r4, r5, r6) := H
               have A54 := a_ A540
               clear A540
               by_cases c55 : 0 ≤ t312
               ·rw [if_pos c55] at H
                have c55b0 : decide (0 ≤ t312) = true := decide_eq_true c55
                clear c55
                by_cases c56 : t312 < (x302004_1.length : Int)
                ·rw [if_pos c56] at H
                 have c56b0 : decide (t312 < (x302004_1.length : Int)) = true := decide_eq_true c56
                 clear c56
                 obtain ⟨y314, hy314⟩ : ∃ y_ : List Int, y_ = (x302004_1.set (t312 : Int).toNat t313) := ⟨_, rfl⟩
                 replace H : (impl_ImposeSheet.l0 kj37 a0 t302 (t302.length : Int) (wrap64 (x40_1 + 1)) a0 a1 y309 y311 y314) = some (r1, r2, r3, r4, r5, r6) := rh_ hy314 H
                 have Ny314 := a_ hy314
                 clear hy314
                 have H' := a_ H
                 clear H
                 try go_wp2
                 replace HO_38 := a_ (Kd.R_drew HO_38.out)
                 replace HO_302002 := a_ (Kd.R_drew HO_302002.out)
                 replace HO_302003 := a_ (Kd.R_drew HO_302003.out)
                 replace HO_302004 := a_ (Kd.R_drew HO_302004.out)
                 replace BK290 := a_ (blk_drew BK290.out)
                 replace BK301 := a_ (blk_drew BK301.out)
                 replace BK306 := a_ (blk_drew BK306.out)
                 replace HB := a_ (below_drew1 HB.out)
                 refine start_ (n := 11) (S := fun w' => w'.cell? ⟨gb301, 0, none⟩ = some (.int .i64 a0) ∧ w'.cell? ⟨gb301, 1, none⟩ = some (.int .i64 a1) ∧ w'.cell? ⟨gb301, 2, none⟩ = some (u302002) ∧ w'.cell? ⟨gb301, 3, none⟩ = some (u302003) ∧ w'.cell? ⟨gb301, 4, none⟩ = some (u302004) ∧ w'.cell? ⟨gb306, 0, none⟩ = some (.int .i64 ((rd_T35 t302 x40_1).f0)) ∧ w'.cell? ⟨gb306, 1, none⟩ = some (.int .i64 ((rd_T35 t302 x40_1).f1)) ∧ w'.cell? ⟨gb306, 2, none⟩ = some (.bool ((rd_T35 t302 x40_1).f2)) ∧ w'.cell? ⟨gb306, 3, none⟩ = some (.bool ((rd_T35 t302 x40_1).f3))) (ds := [10]) #[false, false, false, false, false, false, false, false, false, false, false] (by kernel_rfl) rfl rfl ⟨(blk_cell BK301.out 0).trans rfl, (blk_cell BK301.out 1).trans rfl, (blk_cell BK301.out 2).trans rfl, (blk_cell BK301.out 3).trans rfl, (blk_cell BK301.out 4).trans rfl, (blk_cell BK306.out 0).trans rfl, (blk_cell BK306.out 1).trans rfl, (blk_cell BK306.out 2).trans rfl, (blk_cell BK306.out 3).trans rfl⟩ (fun hHeld => ?_); refine with_tabW impl_ImposeSheet.tab12 impl_ImposeSheet.bits12 (fun HT_ HW_ => ?_)
                 generalize wc.drew = w58 at HO_38 HO_302002 HO_302003 HO_302004 BK290 BK301 BK306 HB hHeld ⊢
                 refine pv_ (i := 0) (N := some 55) ?_
                 refine pv_ (i := 2) (N := some 57) ?_
                 refine pv_ (i := 3) (N := some 58) ?_
                 refine pv_ (i := 5) (N := some 60) ?_
                 refine pv_ (i := 8) (N := some 63) ?_
                 refine tl9_ (i := 1) (N := some 56) hHeld ?_
                 refine tl9_ (i := 4) (N := some 59) hHeld ?_
                 refine tl9_ (i := 6) (N := some 61) hHeld ?_
                 refine on_ (i := 7) (N := some 62) (fun K hK => ?_)
                 refine goes_ Tryd.func14 (by kernel_rfl) rfl #[.int .i64 a0, .int .i64 ((rd_T35 t302 x40_1).f0), .int .i64 ((rd_T35 t302 x40_1).f1)] (by rfl) rfl rfl z27_ ?_
                 with_reducible refine (impl_frontPlace.calls a0 ((rd_T35 t302 x40_1).f0) ((rd_T35 t302 x40_1).f1) t308 _ A45.out).mono ?_
                 rintro e w' ⟨rfl, ⟨nd, rfl⟩⟩
                 refine ⟨_, rfl, ?_⟩
                 have p48 : 0 ≤ (t308 : Int) := of_decide_eq_true z47_
                 have q48 : (t308 : Int) < ((x302002_1.length : Int) : Int) := of_decide_eq_true z47_
                 obtain ⟨go48, co48, eo48, gb48, gl48, cl48, HG48⟩ := Kd.R_form HO_302002.out (by omega)
                 (first | cases eo48 | (injection eo48 with ea_ en_ ec_; (first | subst ea_ | (injection ea_ with ea_; subst ea_)); subst ec_; clear en_))
                 have GB48 := a_ gb48
                 have GG48 := a_ HG48
                 clear gb48 gl48 HG48
                 obtain ⟨hx48_0, hf48_0⟩ := Kd.R_celln 0 HO_302002.out (t308 : Int) p48 q48
                 replace p48 := eq_true p48
                 replace q48 := eq_true q48
                 have HP59 := Kd.R_putn HO_302002.out (t308 : Int) x13_37
                 rw [← Ny309.out] at HP59
                 have HQ59 := a_ HP59
                 clear HP59
                 refine hK.out _ _ ⟨(blk_cell BK301.out 0).trans rfl, (blk_cell BK301.out 1).trans rfl, (blk_cell BK301.out 2).trans rfl, (blk_cell BK301.out 3).trans rfl, (blk_cell BK301.out 4).trans rfl, (blk_cell BK306.out 0).trans rfl, (blk_cell BK306.out 1).trans rfl, (blk_cell BK306.out 2).trans rfl, (blk_cell BK306.out 3).trans rfl⟩ (fun hHeld => ?_)
                 clear hK K
                 refine nm_ ?_
                 refine pv_ (i := 9) (N := some 64) ?_
                 refine la_ (i := 10) (N := none) (fun K hK => ?_)
                 refine skip_ (w1 := ?_) (by rfl) rfl ?_ ?_
                 rotate_left
                 ·go_simp
                  rfl
                 refine hK.out _ _ ?_
                 clear hK K
                 refine done_ (done_of HT_.out (by kernel_rfl)) ?_
                 try go_wp2
                 (try rw [show ∀ (w_ : World) (n_ : Nat) (a_ : Addr) (v_ : Value), (w_.drewN n_).setCell a_ v_ = (w_.setCell a_ v_).drewN n_ from fun _ _ _ _ => rfl])
                 have n0_ : Aside0 (Kd.R k35 35 (w58.setCell ⟨go48, (t308 : Int).toNat, none⟩ (.int .i64 x13_37)) w.heap.size (fun k_ => k_ ≠ gb306) (.slice (some ad305) t302.length co33) t302) := ⟨by (with_reducible repeat (first | apply Kd.R_alloc | apply Kd.R_drewN | apply Kd.R_drew)); exact Kd.R_mono (Kd.R_far (p := ⟨go48, (t308 : Int).toNat, none⟩) (Kd.R_types HO_38.out GG48.out (by decide)) (fun _ hk => hk.2) (.int .i64 x13_37)) (fun _ hk => hk.1)⟩
                 have n1_ : Aside0 (Kd.R (Kd.int .i64) 2 (w58.setCell ⟨go48, (t308 : Int).toNat, none⟩ (.int .i64 x13_37)) w.heap.size (fun k_ => some k_ ≠ (u302003 : Value).ownBlock ∧ some k_ ≠ (u302004 : Value).ownBlock) (.slice (some ⟨go48, 0, none⟩) x302002_1.length co48) y309) := ⟨by (with_reducible repeat (first | apply Kd.R_alloc | apply Kd.R_drewN | apply Kd.R_drew)); exact HQ59.out⟩
                 have n2_ : Aside0 (Kd.R (Kd.int .i64) 2 (w58.setCell ⟨go48, (t308 : Int).toNat, none⟩ (.int .i64 x13_37)) w.heap.size (fun k_ => some k_ ≠ (.slice (some ⟨go48, 0, none⟩) x302002_1.length co48 : Value).ownBlock ∧ some k_ ≠ (u302004 : Value).ownBlock) u302003 x302003_1) := ⟨by (with_reducible repeat (first | apply Kd.R_alloc | apply Kd.R_drewN | apply Kd.R_drew)); exact Kd.R_mono (Kd.R_far (p := ⟨go48, (t308 : Int).toNat, none⟩) (Kd.R_mono HO_302003.out (fun k_ hk => (⟨hk, fun e_ => hk.1 (by rw [e_]; rfl)⟩ : _ ∧ k_ ≠ go48))) (fun _ hk => hk.2) (.int .i64 x13_37)) (fun _ hk => ⟨hk.1.1, hk.1.2⟩)⟩
                 have n3_ : Aside0 (Kd.R (Kd.int .i64) 2 (w58.setCell ⟨go48, (t308 : Int).toNat, none⟩ (.int .i64 x13_37)) w.heap.size (fun k_ => some k_ ≠ (.slice (some ⟨go48, 0, none⟩) x302002_1.length co48 : Value).ownBlock ∧ some k_ ≠ (u302003 : Value).ownBlock) u302004 x302004_1) := ⟨by (with_reducible repeat (first | apply Kd.R_alloc | apply Kd.R_drewN | apply Kd.R_drew)); exact Kd.R_mono (Kd.R_far (p := ⟨go48, (t308 : Int).toNat, none⟩) (Kd.R_mono HO_302004.out (fun k_ hk => (⟨hk, fun e_ => hk.1 (by rw [e_]; rfl)⟩ : _ ∧ k_ ≠ go48))) (fun _ hk => hk.2) (.int .i64 x13_37)) (fun _ hk => ⟨hk.1.1, hk.1.2⟩)⟩
                 have n4_ : Aside0 ((w58.setCell ⟨go48, (t308 : Int).toNat, none⟩ (.int .i64 x13_37)).heap[gb290]? = some (.cells #[.int .i64 0, .int .i64 0, .slice none 0 0, .slice none 0 0, .slice none 0 0] 24 (0, 0))) := ⟨by (with_reducible repeat (first | refine blk_drewN ?_ _ | refine blk_drew ?_ | refine blk_alloc ?_ _)); refine blk_far ?_ (by have h_ := Kd.R_ne HO_302002.out BK290.out (by decide); intro e_; exact h_ (by rw [e_]; rfl)) _; (with_reducible repeat (first | refine blk_drewN ?_ _ | refine blk_drew ?_ | refine blk_alloc ?_ _)); exact BK290.out⟩
                 have n5_ : Aside0 ((w58.setCell ⟨go48, (t308 : Int).toNat, none⟩ (.int .i64 x13_37)).heap[gb301]? = some (.cells #[.int .i64 a0, .int .i64 a1, .slice (some ⟨go48, 0, none⟩) x302002_1.length co48, u302003, u302004] 24 (0, 0))) := ⟨by (with_reducible repeat (first | refine blk_drewN ?_ _ | refine blk_drew ?_ | refine blk_alloc ?_ _)); refine blk_far ?_ (by have h_ := Kd.R_ne HO_302002.out BK301.out (by decide); intro e_; exact h_ (by rw [e_]; rfl)) _; (with_reducible repeat (first | refine blk_drewN ?_ _ | refine blk_drew ?_ | refine blk_alloc ?_ _)); exact BK301.out⟩
                 have n6_ : Aside0 ((w58.setCell ⟨go48, (t308 : Int).toNat, none⟩ (.int .i64 x13_37)).heap[gb306]? = some (.cells #[.int .i64 ((rd_T35 t302 x40_1).f0), .int .i64 ((rd_T35 t302 x40_1).f1), .bool ((rd_T35 t302 x40_1).f2), .bool ((rd_T35 t302 x40_1).f3)] 35 (0, 0))) := ⟨by (with_reducible repeat (first | refine blk_drewN ?_ _ | refine blk_drew ?_ | refine blk_alloc ?_ _)); refine blk_far ?_ (by have h_ := Kd.R_ne HO_302002.out BK306.out (by decide); intro e_; exact h_ (by rw [e_]; rfl)) _; (with_reducible repeat (first | refine blk_drewN ?_ _ | refine blk_drew ?_ | refine blk_alloc ?_ _)); exact BK306.out⟩
                 have n7_ : Aside0 (Below w.heap.size w (w58.setCell ⟨go48, (t308 : Int).toNat, none⟩ (.int .i64 x13_37))) := ⟨by repeat (first | (with_reducible first | exact HB.out | apply below_alloc | apply pw_below_drewN | apply below_drew1 | refine below_set ?_ GB48.out | refine below_set ?_ GE290.out | refine below_set ?_ GE301.out | refine below_set ?_ GE306.out) | exact HB.out)⟩
                 (try clear HO_38)
                 (try clear HO_302002)
                 (try clear HO_302003)
                 (try clear HO_302004)
                 (try clear BK290)
                 (try clear BK301)
                 (try clear BK306)
                 (try clear HB)
                 generalize (w58.setCell ⟨go48, (t308 : Int).toNat, none⟩ (.int .i64 x13_37)) = w60 at n0_ n1_ n2_ n3_ n4_ n5_ n6_ n7_ ⊢
                 have HO_38 := n0_
                 have HO_302002 := n1_
                 have HO_302003 := n2_
                 have HO_302004 := n3_
                 have BK290 := n4_
                 have BK301 := n5_
                 have BK306 := n6_
                 have HB := n7_
                 clear n0_ n1_ n2_ n3_ n4_ n5_ n6_ n7_
                 (try (rw [drewN_self w60]; generalize hq_ : World.drewN w60 _ = w60; have n0_ : Aside0 (Kd.R (Kd.int .i64) 2 w60 w.heap.size (fun k_ => some k_ ≠ (u302003 : Value).ownBlock ∧ some k_ ≠ (u302004 : Value).ownBlock) (.slice (some ⟨go48, 0, none⟩) x302002_1.length co48) y309) := ⟨by rw [← hq_]; exact (ra_ HO_302002.out)⟩; have n1_ : Aside0 (Kd.R (Kd.int .i64) 2 w60 w.heap.size (fun k_ => some k_ ≠ (.slice (some ⟨go48, 0, none⟩) x302002_1.length co48 : Value).ownBlock ∧ some k_ ≠ (u302004 : Value).ownBlock) u302003 x302003_1) := ⟨by rw [← hq_]; exact (ra_ HO_302003.out)⟩; have n2_ : Aside0 (Kd.R (Kd.int .i64) 2 w60 w.heap.size (fun k_ => some k_ ≠ (.slice (some ⟨go48, 0, none⟩) x302002_1.length co48 : Value).ownBlock ∧ some k_ ≠ (u302003 : Value).ownBlock) u302004 x302004_1) := ⟨by rw [← hq_]; exact (ra_ HO_302004.out)⟩; have n3_ : Aside0 (Kd.R k35 35 w60 w.heap.size (fun k_ => k_ ≠ gb306) (.slice (some ad305) t302.length co33) t302) := ⟨by rw [← hq_]; exact (ra_ HO_38.out)⟩; have n4_ : Aside0 (w60.heap[gb290]? = some (.cells #[.int .i64 0, .int .i64 0, .slice none 0 0, .slice none 0 0, .slice none 0 0] 24 (0, 0))) := ⟨by rw [← hq_]; exact (rb_ BK290.out)⟩; have n5_ : Aside0 (w60.heap[gb301]? = some (.cells #[.int .i64 a0, .int .i64 a1, .slice (some ⟨go48, 0, none⟩) x302002_1.length co48, u302003, u302004] 24 (0, 0))) := ⟨by rw [← hq_]; exact (rb_ BK301.out)⟩; have n6_ : Aside0 (w60.heap[gb306]? = some (.cells #[.int .i64 ((rd_T35 t302 x40_1).f0), .int .i64 ((rd_T35 t302 x40_1).f1), .bool ((rd_T35 t302 x40_1).f2), .bool ((rd_T35 t302 x40_1).f3)] 35 (0, 0))) := ⟨by rw [← hq_]; exact (rb_ BK306.out)⟩; have n7_ : Aside0 (Below w.heap.size w w60) := ⟨by rw [← hq_]; exact z6_⟩; clear HO_302002 HO_302003 HO_302004 HO_38 BK290 BK301 BK306 HB hq_; have HO_302002 := n0_; have HO_302003 := n1_; have HO_302004 := n2_; have HO_38 := n3_; have BK290 := n4_; have BK301 := n5_; have BK306 := n6_; have HB := n7_; clear n0_ n1_ n2_ n3_ n4_ n5_ n6_ n7_))
                 replace HO_38 := a_ (Kd.R_drew HO_38.out)
                 replace HO_302002 := a_ (Kd.R_drew HO_302002.out)
                 replace HO_302003 := a_ (Kd.R_drew HO_302003.out)
                 replace HO_302004 := a_ (Kd.R_drew HO_302004.out)
                 replace BK290 := a_ (blk_drew BK290.out)
                 replace BK301 := a_ (blk_drew BK301.out)
                 replace BK306 := a_ (blk_drew BK306.out)
                 replace HB := a_ (below_drew1 HB.out)
                 refine start_ (n := 11) (S := fun w' => w'.cell? ⟨gb301, 0, none⟩ = some (.int .i64 a0) ∧ w'.cell? ⟨gb301, 1, none⟩ = some (.int .i64 a1) ∧ w'.cell? ⟨gb301, 2, none⟩ = some (.slice (some ⟨go48, 0, none⟩) x302002_1.length co48) ∧ w'.cell? ⟨gb301, 3, none⟩ = some (u302003) ∧ w'.cell? ⟨gb301, 4, none⟩ = some (u302004) ∧ w'.cell? ⟨gb306, 0, none⟩ = some (.int .i64 ((rd_T35 t302 x40_1).f0)) ∧ w'.cell? ⟨gb306, 1, none⟩ = some (.int .i64 ((rd_T35 t302 x40_1).f1)) ∧ w'.cell? ⟨gb306, 2, none⟩ = some (.bool ((rd_T35 t302 x40_1).f2)) ∧ w'.cell? ⟨gb306, 3, none⟩ = some (.bool ((rd_T35 t302 x40_1).f3))) (ds := [10]) #[false, false, false, false, false, false, false, false, false, false, false] (by kernel_rfl) rfl rfl ⟨(blk_cell BK301.out 0).trans rfl, (blk_cell BK301.out 1).trans rfl, (blk_cell BK301.out 2).trans rfl, (blk_cell BK301.out 3).trans rfl, (blk_cell BK301.out 4).trans rfl, (blk_cell BK306.out 0).trans rfl, (blk_cell BK306.out 1).trans rfl, (blk_cell BK306.out 2).trans rfl, (blk_cell BK306.out 3).trans rfl⟩ (fun hHeld => ?_); refine with_tabW impl_ImposeSheet.tab13 impl_ImposeSheet.bits13 (fun HT_ HW_ => ?_)
                 generalize w60.drew = w61 at HO_38 HO_302002 HO_302003 HO_302004 BK290 BK301 BK306 HB HQ59 hHeld ⊢
                 refine pv_ (i := 0) (N := some 65) ?_
                 refine pv_ (i := 2) (N := some 67) ?_
                 refine pv_ (i := 3) (N := some 68) ?_
                 refine pv_ (i := 5) (N := some 70) ?_
                 refine pv_ (i := 8) (N := some 73) ?_
                 refine tl9_ (i := 1) (N := some 66) hHeld ?_
                 refine tl9_ (i := 4) (N := some 69) hHeld ?_
                 refine tl9_ (i := 6) (N := some 71) hHeld ?_
                 refine on_ (i := 7) (N := some 72) (fun K hK => ?_)
                 refine goes_ Tryd.func15 (by kernel_rfl) rfl #[.int .i64 a0, .int .i64 ((rd_T35 t302 x40_1).f0), .int .i64 ((rd_T35 t302 x40_1).f1)] (by rfl) rfl rfl z27_ ?_
                 with_reducible refine (impl_backPlace.calls a0 ((rd_T35 t302 x40_1).f0) ((rd_T35 t302 x40_1).f1) t310 _ A49.out).mono ?_
                 rintro e w' ⟨rfl, ⟨nd, rfl⟩⟩
                 refine ⟨_, rfl, ?_⟩
                 have p52 : 0 ≤ (t310 : Int) := of_decide_eq_true z47_
                 have q52 : (t310 : Int) < ((x302003_1.length : Int) : Int) := of_decide_eq_true z47_
                 obtain ⟨go52, co52, eo52, gb52, gl52, cl52, HG52⟩ := Kd.R_form HO_302003.out (by omega)
                 (first | cases eo52 | (injection eo52 with ea_ en_ ec_; (first | subst ea_ | (injection ea_ with ea_; subst ea_)); subst ec_; clear en_))
                 have GB52 := a_ gb52
                 have GG52 := a_ HG52
                 clear gb52 gl52 HG52
                 obtain ⟨hx52_0, hf52_0⟩ := Kd.R_celln 0 HO_302003.out (t310 : Int) p52 q52
                 replace p52 := eq_true p52
                 replace q52 := eq_true q52
                 have HP62 := Kd.R_putn HO_302003.out (t310 : Int) x14_37
                 rw [← Ny311.out] at HP62
                 have HQ62 := a_ HP62
                 clear HP62
                 refine hK.out _ _ ⟨(blk_cell BK301.out 0).trans rfl, (blk_cell BK301.out 1).trans rfl, (blk_cell BK301.out 2).trans rfl, (blk_cell BK301.out 3).trans rfl, (blk_cell BK301.out 4).trans rfl, (blk_cell BK306.out 0).trans rfl, (blk_cell BK306.out 1).trans rfl, (blk_cell BK306.out 2).trans rfl, (blk_cell BK306.out 3).trans rfl⟩ (fun hHeld => ?_)
                 clear hK K
                 refine nm_ ?_
                 refine pv_ (i := 9) (N := some 74) ?_
                 refine la_ (i := 10) (N := none) (fun K hK => ?_)
                 refine skip_ (w1 := ?_) (by rfl) rfl ?_ ?_
                 rotate_left
                 ·go_simp
                  rfl
                 refine hK.out _ _ ?_
                 clear hK K
                 refine done_ (done_of HT_.out (by kernel_rfl)) ?_
                 try go_wp2
                 (try rw [show ∀ (w_ : World) (n_ : Nat) (a_ : Addr) (v_ : Value), (w_.drewN n_).setCell a_ v_ = (w_.setCell a_ v_).drewN n_ from fun _ _ _ _ => rfl])
                 have n0_ : Aside0 (Kd.R k35 35 (w61.setCell ⟨go52, (t310 : Int).toNat, none⟩ (.int .i64 x14_37)) w.heap.size (fun k_ => k_ ≠ gb306) (.slice (some ad305) t302.length co33) t302) := ⟨by (with_reducible repeat (first | apply Kd.R_alloc | apply Kd.R_drewN | apply Kd.R_drew)); exact Kd.R_mono (Kd.R_far (p := ⟨go52, (t310 : Int).toNat, none⟩) (Kd.R_types HO_38.out GG52.out (by decide)) (fun _ hk => hk.2) (.int .i64 x14_37)) (fun _ hk => hk.1)⟩
                 have n1_ : Aside0 (Kd.R (Kd.int .i64) 2 (w61.setCell ⟨go52, (t310 : Int).toNat, none⟩ (.int .i64 x14_37)) w.heap.size (fun k_ => some k_ ≠ (.slice (some ⟨go52, 0, none⟩) x302003_1.length co52 : Value).ownBlock ∧ some k_ ≠ (u302004 : Value).ownBlock) (.slice (some ⟨go48, 0, none⟩) x302002_1.length co48) y309) := ⟨by (with_reducible repeat (first | apply Kd.R_alloc | apply Kd.R_drewN | apply Kd.R_drew)); exact Kd.R_mono (Kd.R_far (p := ⟨go52, (t310 : Int).toNat, none⟩) (Kd.R_mono HO_302002.out (fun k_ hk => (⟨hk, fun e_ => hk.1 (by rw [e_]; rfl)⟩ : _ ∧ k_ ≠ go52))) (fun _ hk => hk.2) (.int .i64 x14_37)) (fun _ hk => ⟨hk.1.1, hk.1.2⟩)⟩
                 have n2_ : Aside0 (Kd.R (Kd.int .i64) 2 (w61.setCell ⟨go52, (t310 : Int).toNat, none⟩ (.int .i64 x14_37)) w.heap.size (fun k_ => some k_ ≠ (.slice (some ⟨go48, 0, none⟩) x302002_1.length co48 : Value).ownBlock ∧ some k_ ≠ (u302004 : Value).ownBlock) (.slice (some ⟨go52, 0, none⟩) x302003_1.length co52) y311) := ⟨by (with_reducible repeat (first | apply Kd.R_alloc | apply Kd.R_drewN | apply Kd.R_drew)); exact HQ62.out⟩
                 have n3_ : Aside0 (Kd.R (Kd.int .i64) 2 (w61.setCell ⟨go52, (t310 : Int).toNat, none⟩ (.int .i64 x14_37)) w.heap.size (fun k_ => some k_ ≠ (.slice (some ⟨go48, 0, none⟩) x302002_1.length co48 : Value).ownBlock ∧ some k_ ≠ (.slice (some ⟨go52, 0, none⟩) x302003_1.length co52 : Value).ownBlock) u302004 x302004_1) := ⟨by (with_reducible repeat (first | apply Kd.R_alloc | apply Kd.R_drewN | apply Kd.R_drew)); exact Kd.R_mono (Kd.R_far (p := ⟨go52, (t310 : Int).toNat, none⟩) (Kd.R_mono HO_302004.out (fun k_ hk => (⟨hk, fun e_ => hk.2 (by rw [e_]; rfl)⟩ : _ ∧ k_ ≠ go52))) (fun _ hk => hk.2) (.int .i64 x14_37)) (fun _ hk => ⟨hk.1.1, hk.1.2⟩)⟩
                 have n4_ : Aside0 ((w61.setCell ⟨go52, (t310 : Int).toNat, none⟩ (.int .i64 x14_37)).heap[gb290]? = some (.cells #[.int .i64 0, .int .i64 0, .slice none 0 0, .slice none 0 0, .slice none 0 0] 24 (0, 0))) := ⟨by (with_reducible repeat (first | refine blk_drewN ?_ _ | refine blk_drew ?_ | refine blk_alloc ?_ _)); refine blk_far ?_ (by have h_ := Kd.R_ne HO_302003.out BK290.out (by decide); intro e_; exact h_ (by rw [e_]; rfl)) _; (with_reducible repeat (first | refine blk_drewN ?_ _ | refine blk_drew ?_ | refine blk_alloc ?_ _)); exact BK290.out⟩
                 have n5_ : Aside0 ((w61.setCell ⟨go52, (t310 : Int).toNat, none⟩ (.int .i64 x14_37)).heap[gb301]? = some (.cells #[.int .i64 a0, .int .i64 a1, .slice (some ⟨go48, 0, none⟩) x302002_1.length co48, .slice (some ⟨go52, 0, none⟩) x302003_1.length co52, u302004] 24 (0, 0))) := ⟨by (with_reducible repeat (first | refine blk_drewN ?_ _ | refine blk_drew ?_ | refine blk_alloc ?_ _)); refine blk_far ?_ (by have h_ := Kd.R_ne HO_302003.out BK301.out (by decide); intro e_; exact h_ (by rw [e_]; rfl)) _; (with_reducible repeat (first | refine blk_drewN ?_ _ | refine blk_drew ?_ | refine blk_alloc ?_ _)); exact BK301.out⟩
                 have n6_ : Aside0 ((w61.setCell ⟨go52, (t310 : Int).toNat, none⟩ (.int .i64 x14_37)).heap[gb306]? = some (.cells #[.int .i64 ((rd_T35 t302 x40_1).f0), .int .i64 ((rd_T35 t302 x40_1).f1), .bool ((rd_T35 t302 x40_1).f2), .bool ((rd_T35 t302 x40_1).f3)] 35 (0, 0))) := ⟨by (with_reducible repeat (first | refine blk_drewN ?_ _ | refine blk_drew ?_ | refine blk_alloc ?_ _)); refine blk_far ?_ (by have h_ := Kd.R_ne HO_302003.out BK306.out (by decide); intro e_; exact h_ (by rw [e_]; rfl)) _; (with_reducible repeat (first | refine blk_drewN ?_ _ | refine blk_drew ?_ | refine blk_alloc ?_ _)); exact BK306.out⟩
                 have n7_ : Aside0 (Below w.heap.size w (w61.setCell ⟨go52, (t310 : Int).toNat, none⟩ (.int .i64 x14_37))) := ⟨by repeat (first | (with_reducible first | exact HB.out | apply below_alloc | apply pw_below_drewN | apply below_drew1 | refine below_set ?_ GB52.out | refine below_set ?_ GE290.out | refine below_set ?_ GE301.out | refine below_set ?_ GE306.out) | exact HB.out)⟩
                 (try clear HO_38)
                 (try clear HO_302002)
                 (try clear HO_302003)
                 (try clear HO_302004)
                 (try clear BK290)
                 (try clear BK301)
                 (try clear BK306)
                 (try clear HB)
                 generalize (w61.setCell ⟨go52, (t310 : Int).toNat, none⟩ (.int .i64 x14_37)) = w63 at n0_ n1_ n2_ n3_ n4_ n5_ n6_ n7_ ⊢
                 have HO_38 := n0_
                 have HO_302002 := n1_
                 have HO_302003 := n2_
                 have HO_302004 := n3_
                 have BK290 := n4_
                 have BK301 := n5_
                 have BK306 := n6_
                 have HB := n7_
                 clear n0_ n1_ n2_ n3_ n4_ n5_ n6_ n7_
                 (try (rw [drewN_self w63]; generalize hq_ : World.drewN w63 _ = w63; have n0_ : Aside0 (Kd.R (Kd.int .i64) 2 w63 w.heap.size (fun k_ => some k_ ≠ (.slice (some ⟨go52, 0, none⟩) x302003_1.length co52 : Value).ownBlock ∧ some k_ ≠ (u302004 : Value).ownBlock) (.slice (some ⟨go48, 0, none⟩) x302002_1.length co48) y309) := ⟨by rw [← hq_]; exact (ra_ HO_302002.out)⟩; have n1_ : Aside0 (Kd.R (Kd.int .i64) 2 w63 w.heap.size (fun k_ => some k_ ≠ (.slice (some ⟨go48, 0, none⟩) x302002_1.length co48 : Value).ownBlock ∧ some k_ ≠ (u302004 : Value).ownBlock) (.slice (some ⟨go52, 0, none⟩) x302003_1.length co52) y311) := ⟨by rw [← hq_]; exact (ra_ HO_302003.out)⟩; have n2_ : Aside0 (Kd.R (Kd.int .i64) 2 w63 w.heap.size (fun k_ => some k_ ≠ (.slice (some ⟨go48, 0, none⟩) x302002_1.length co48 : Value).ownBlock ∧ some k_ ≠ (.slice (some ⟨go52, 0, none⟩) x302003_1.length co52 : Value).ownBlock) u302004 x302004_1) := ⟨by rw [← hq_]; exact (ra_ HO_302004.out)⟩; have n3_ : Aside0 (Kd.R k35 35 w63 w.heap.size (fun k_ => k_ ≠ gb306) (.slice (some ad305) t302.length co33) t302) := ⟨by rw [← hq_]; exact (ra_ HO_38.out)⟩; have n4_ : Aside0 (w63.heap[gb290]? = some (.cells #[.int .i64 0, .int .i64 0, .slice none 0 0, .slice none 0 0, .slice none 0 0] 24 (0, 0))) := ⟨by rw [← hq_]; exact (rb_ BK290.out)⟩; have n5_ : Aside0 (w63.heap[gb301]? = some (.cells #[.int .i64 a0, .int .i64 a1, .slice (some ⟨go48, 0, none⟩) x302002_1.length co48, .slice (some ⟨go52, 0, none⟩) x302003_1.length co52, u302004] 24 (0, 0))) := ⟨by rw [← hq_]; exact (rb_ BK301.out)⟩; have n6_ : Aside0 (w63.heap[gb306]? = some (.cells #[.int .i64 ((rd_T35 t302 x40_1).f0), .int .i64 ((rd_T35 t302 x40_1).f1), .bool ((rd_T35 t302 x40_1).f2), .bool ((rd_T35 t302 x40_1).f3)] 35 (0, 0))) := ⟨by rw [← hq_]; exact (rb_ BK306.out)⟩; have n7_ : Aside0 (Below w.heap.size w w63) := ⟨by rw [← hq_]; exact z6_⟩; clear HO_302002 HO_302003 HO_302004 HO_38 BK290 BK301 BK306 HB hq_; have HO_302002 := n0_; have HO_302003 := n1_; have HO_302004 := n2_; have HO_38 := n3_; have BK290 := n4_; have BK301 := n5_; have BK306 := n6_; have HB := n7_; clear n0_ n1_ n2_ n3_ n4_ n5_ n6_ n7_))
                 replace HO_38 := a_ (Kd.R_drew HO_38.out)
                 replace HO_302002 := a_ (Kd.R_drew HO_302002.out)
                 replace HO_302003 := a_ (Kd.R_drew HO_302003.out)
                 replace HO_302004 := a_ (Kd.R_drew HO_302004.out)
                 replace BK290 := a_ (blk_drew BK290.out)
                 replace BK301 := a_ (blk_drew BK301.out)
                 replace BK306 := a_ (blk_drew BK306.out)
                 replace HB := a_ (below_drew1 HB.out)
                 refine start_ (n := 13) (S := fun w' => w'.cell? ⟨gb301, 0, none⟩ = some (.int .i64 a0) ∧ w'.cell? ⟨gb301, 1, none⟩ = some (.int .i64 a1) ∧ w'.cell? ⟨gb301, 2, none⟩ = some (.slice (some ⟨go48, 0, none⟩) x302002_1.length co48) ∧ w'.cell? ⟨gb301, 3, none⟩ = some (.slice (some ⟨go52, 0, none⟩) x302003_1.length co52) ∧ w'.cell? ⟨gb301, 4, none⟩ = some (u302004) ∧ w'.cell? ⟨gb306, 0, none⟩ = some (.int .i64 ((rd_T35 t302 x40_1).f0)) ∧ w'.cell? ⟨gb306, 1, none⟩ = some (.int .i64 ((rd_T35 t302 x40_1).f1)) ∧ w'.cell? ⟨gb306, 2, none⟩ = some (.bool ((rd_T35 t302 x40_1).f2)) ∧ w'.cell? ⟨gb306, 3, none⟩ = some (.bool ((rd_T35 t302 x40_1).f3))) (ds := [12]) #[false, false, false, false, false, false, false, false, false, false, false, false, false] (by kernel_rfl) rfl rfl ⟨(blk_cell BK301.out 0).trans rfl, (blk_cell BK301.out 1).trans rfl, (blk_cell BK301.out 2).trans rfl, (blk_cell BK301.out 3).trans rfl, (blk_cell BK301.out 4).trans rfl, (blk_cell BK306.out 0).trans rfl, (blk_cell BK306.out 1).trans rfl, (blk_cell BK306.out 2).trans rfl, (blk_cell BK306.out 3).trans rfl⟩ (fun hHeld => ?_); refine with_tabW impl_ImposeSheet.tab14 impl_ImposeSheet.bits14 (fun HT_ HW_ => ?_)
                 generalize w63.drew = w64 at HO_38 HO_302002 HO_302003 HO_302004 BK290 BK301 BK306 HB HQ62 hHeld ⊢
                 refine pv_ (i := 0) (N := some 75) ?_
                 refine pv_ (i := 2) (N := some 77) ?_
                 refine pv_ (i := 3) (N := some 78) ?_
                 refine pv_ (i := 5) (N := some 80) ?_
                 refine pv_ (i := 8) (N := some 83) ?_
                 refine tl9_ (i := 1) (N := some 76) hHeld ?_
                 refine tl9_ (i := 4) (N := some 79) hHeld ?_
                 refine tl9_ (i := 6) (N := some 81) hHeld ?_
                 refine tl9_ (i := 9) (N := some 84) hHeld ?_
                 refine on_ (i := 7) (N := some 82) (fun K hK => ?_)
                 refine goes_ Tryd.func14 (by kernel_rfl) rfl #[.int .i64 a0, .int .i64 ((rd_T35 t302 x40_1).f0), .int .i64 ((rd_T35 t302 x40_1).f1)] (by rfl) rfl rfl z27_ ?_
                 with_reducible refine (impl_frontPlace.calls a0 ((rd_T35 t302 x40_1).f0) ((rd_T35 t302 x40_1).f1) t312 _ A53.out).mono ?_
                 rintro e w' ⟨rfl, ⟨nd, rfl⟩⟩
                 refine ⟨_, rfl, ?_⟩
                 refine hK.out _ _ ⟨(blk_cell BK301.out 0).trans rfl, (blk_cell BK301.out 1).trans rfl, (blk_cell BK301.out 2).trans rfl, (blk_cell BK301.out 3).trans rfl, (blk_cell BK301.out 4).trans rfl, (blk_cell BK306.out 0).trans rfl, (blk_cell BK306.out 1).trans rfl, (blk_cell BK306.out 2).trans rfl, (blk_cell BK306.out 3).trans rfl⟩ (fun hHeld => ?_)
                 clear hK K
                 refine nm_ ?_
                 refine on_ (i := 10) (N := some 85) (fun K hK => ?_)
                 refine goes_ Tryd.func16 (by kernel_rfl) rfl #[.bool ((rd_T35 t302 x40_1).f3)] (by rfl) rfl rfl z27_ ?_
                 with_reducible refine (impl_toInt.calls ((rd_T35 t302 x40_1).f3) t313 _ A54.out).mono ?_
                 rintro e w' ⟨rfl, ⟨nd, rfl⟩⟩
                 refine ⟨_, rfl, ?_⟩
                 have p57 : 0 ≤ (t312 : Int) := of_decide_eq_true z47_
                 have q57 : (t312 : Int) < ((x302004_1.length : Int) : Int) := of_decide_eq_true z47_
                 obtain ⟨go57, co57, eo57, gb57, gl57, cl57, HG57⟩ := Kd.R_form HO_302004.out (by omega)
                 (first | cases eo57 | (injection eo57 with ea_ en_ ec_; (first | subst ea_ | (injection ea_ with ea_; subst ea_)); subst ec_; clear en_))
                 have GB57 := a_ gb57
                 have GG57 := a_ HG57
                 clear gb57 gl57 HG57
                 obtain ⟨hx57_0, hf57_0⟩ := Kd.R_celln 0 HO_302004.out (t312 : Int) p57 q57
                 replace p57 := eq_true p57
                 replace q57 := eq_true q57
                 have HP65 := Kd.R_putn HO_302004.out (t312 : Int) t313
                 rw [← Ny314.out] at HP65
                 have HQ65 := a_ HP65
                 clear HP65
                 refine hK.out _ _ ⟨(blk_cell BK301.out 0).trans rfl, (blk_cell BK301.out 1).trans rfl, (blk_cell BK301.out 2).trans rfl, (blk_cell BK301.out 3).trans rfl, (blk_cell BK301.out 4).trans rfl, (blk_cell BK306.out 0).trans rfl, (blk_cell BK306.out 1).trans rfl, (blk_cell BK306.out 2).trans rfl, (blk_cell BK306.out 3).trans rfl⟩ (fun hHeld => ?_)
                 clear hK K
                 refine nm_ ?_
                 refine pv_ (i := 11) (N := some 86) ?_
                 refine la_ (i := 12) (N := none) (fun K hK => ?_)
                 refine skip_ (w1 := ?_) (by rfl) rfl ?_ ?_
                 rotate_left
                 ·go_simp
                  rfl
                 refine hK.out _ _ ?_
                 clear hK K
                 refine done_ (done_of HT_.out (by kernel_rfl)) ?_
                 try go_wp2
                 go_roundg kj37
                 case measure => have := HK1.out; have := HJ37.out; omega
                 case rel => exact ⟨(wrap64 (x40_1 + 1)), (y309), (y311), (y314), (.slice (some ⟨go48, 0, none⟩) x302002_1.length co48), (.slice (some ⟨go52, 0, none⟩) x302003_1.length co52), (.slice (some ⟨go57, 0, none⟩) x302004_1.length co57), z48_, H', ⟨by have := HK1.out; have := HJ37.out; omega⟩, ⟨by (with_reducible repeat (first | apply Kd.R_alloc | apply Kd.R_drewN | apply Kd.R_drew)); exact Kd.R_mono (Kd.R_far (p := ⟨go57, (t312 : Int).toNat, none⟩) (Kd.R_types HO_38.out GG57.out (by decide)) (fun _ hk => hk.2) (.int .i64 t313)) (fun _ hk => trivial)⟩, ⟨by (with_reducible repeat (first | apply Kd.R_alloc | apply Kd.R_drewN | apply Kd.R_drew)); exact Kd.R_mono (Kd.R_far (p := ⟨go57, (t312 : Int).toNat, none⟩) (Kd.R_mono HO_302002.out (fun k_ hk => (⟨hk, fun e_ => hk.2 (by rw [e_]; rfl)⟩ : _ ∧ k_ ≠ go57))) (fun _ hk => hk.2) (.int .i64 t313)) (fun _ hk => ⟨hk.1.1, hk.1.2⟩)⟩, ⟨by (with_reducible repeat (first | apply Kd.R_alloc | apply Kd.R_drewN | apply Kd.R_drew)); exact Kd.R_mono (Kd.R_far (p := ⟨go57, (t312 : Int).toNat, none⟩) (Kd.R_mono HO_302003.out (fun k_ hk => (⟨hk, fun e_ => hk.2 (by rw [e_]; rfl)⟩ : _ ∧ k_ ≠ go57))) (fun _ hk => hk.2) (.int .i64 t313)) (fun _ hk => ⟨hk.1.1, hk.1.2⟩)⟩, ⟨by (with_reducible repeat (first | apply Kd.R_alloc | apply Kd.R_drewN | apply Kd.R_drew)); exact HQ65.out⟩, ⟨by (with_reducible repeat (first | refine blk_drewN ?_ _ | refine blk_drew ?_ | refine blk_alloc ?_ _)); refine blk_far ?_ (by have h_ := Kd.R_ne HO_302004.out BK290.out (by decide); intro e_; exact h_ (by rw [e_]; rfl)) _; (with_reducible repeat (first | refine blk_drewN ?_ _ | refine blk_drew ?_ | refine blk_alloc ?_ _)); exact BK290.out⟩, ⟨by (with_reducible repeat (first | refine blk_drewN ?_ _ | refine blk_drew ?_ | refine blk_alloc ?_ _)); refine blk_far ?_ (by have h_ := Kd.R_ne HO_302004.out BK301.out (by decide); intro e_; exact h_ (by rw [e_]; rfl)) _; (with_reducible repeat (first | refine blk_drewN ?_ _ | refine blk_drew ?_ | refine blk_alloc ?_ _)); exact BK301.out⟩, ⟨by repeat (first | (with_reducible first | exact HB.out | apply below_alloc | apply pw_below_drewN | apply below_drew1 | refine below_set ?_ GB57.out | refine below_set ?_ GE290.out | refine below_set ?_ GE301.out | refine below_set ?_ GE306.out) | exact HB.out)⟩⟩
                ·rw [if_neg c56] at H
                 exact absurd H (by simp)
               ·rw [if_neg c55] at H
                exact absurd H (by simp)
              ·rw [if_neg c51] at H
               exact absurd H (by simp)
             ·rw [if_neg c50] at H
              exact absurd H (by simp)
            ·rw [if_neg c47] at H
             exact absurd H (by simp)
           ·rw [if_neg c46] at H
            exact absurd H (by simp)
        ·rw [if_neg c36] at H
         exact absurd H (by simp)
       ·rw [if_neg c35] at H
        exact absurd H (by simp)
      ·rw [if_neg c34] at H
       have c34b0 : decide (x40_1 < (t302.length : Int)) = false := decide_eq_false c34
       clear c34
       simp only [Option.some.injEq, Prod.mk.injEq] at H
       obtain ⟨rfl, rfl, rfl, rfl, rfl, rfl⟩ := H
       have hnb66 := NB301_290.out
       have hnc66 := NB290_301.out
       obtain ⟨hcz67_0, hcz67_1, hcz67_2, hcz67_3, hcz67_4, hfz67_0, hfz67_1, hfz67_2, hfz67_3, hfz67_4⟩ := cz5_ (w := wr) BK301.out
       obtain ⟨hcz68_0, hcz68_1, hcz68_2, hcz68_3, hcz68_4, hfz68_0, hfz68_1, hfz68_2, hfz68_3, hfz68_4⟩ := cz5_ (w := wr) BK290.out
       obtain ⟨Ao69, co69, eo69⟩ := Kd.R_slice HO_302002.out
       subst eo69
       obtain ⟨Ao70, co70, eo70⟩ := Kd.R_slice HO_302003.out
       subst eo70
       obtain ⟨Ao71, co71, eo71⟩ := Kd.R_slice HO_302004.out
       subst eo71
       go_wp2
       refine bodyPost_ret (results_ct rfl _ _ gb290 24 #[.int .i64 a0, .int .i64 a1, .slice Ao69 x302002_1.length co69, .slice Ao70 x302003_1.length co70, .slice Ao71 x302004_1.length co71] (0, 0) _ rfl (rb2_ (h := by exact bp5x5_ BK290.out)) Tryd.underlying24 rfl (by kernel_rfl)) rfl ?_
       exact ⟨_, _, _, by first | rfl | (simp only [Go.IntWalk.i64_left]; first | done | rfl) | (simp [errW_none, errW_some] <;> rfl) | (simp only [← hji6]; first | rfl | (simp [errW_none, errW_some] <;> rfl)) | (simp [*, errW_none, errW_some] <;> rfl), by (with_reducible repeat (first | apply Kd.R_alloc | apply Kd.R_drewN | apply Kd.R_drew)); exact Kd.R_mono (rt5_ HO_302002.out BK290.out) (fun _ hk => ⟨hk.1.1, hk.1.2⟩), by (with_reducible repeat (first | apply Kd.R_alloc | apply Kd.R_drewN | apply Kd.R_drew)); exact Kd.R_mono (rt5_ HO_302003.out BK290.out) (fun _ hk => ⟨hk.1.1, hk.1.2⟩), by (with_reducible repeat (first | apply Kd.R_alloc | apply Kd.R_drewN | apply Kd.R_drew)); exact Kd.R_mono (rt5_ HO_302004.out BK290.out) (fun _ hk => ⟨hk.1.1, hk.1.2⟩), z9_⟩
   ·rw [if_neg c8] at H
    exact absurd H (by simp)
  ·rw [if_neg c7] at H
   exact absurd H (by simp)
 ·rw [if_neg c5] at H
  have c5b0 : (t291 == 0) = false := beq_eq_false_iff_ne.mpr c5
  have c5b1 : (t291 != 0) = true := bne_iff_ne.mpr c5
  simp only [Option.some.injEq, Prod.mk.injEq] at H
  obtain ⟨rfl, rfl, rfl, rfl, rfl, rfl⟩ := H
  go_enter Tryd.func5, Tryd.ntmps5
  go_wp2_with (first | ((with_reducible refine gate_dst (N := 6) rfl ?_); refine box_event ?hg (N := 6) ?hd (cs := #[.int .i64 0, .int .i64 0, .slice none 0 0, .slice none 0 0, .slice none 0 0]) (t := 24) ?hr ?_; (case hd => rfl); (case hg => rfl); (case hr => first | (go_simp; done) | (go_simp; rfl)); intro gb290 hg w72 hbox hb; have BK290 := a_ (hbox); have GW290 := a_ ((z22_ : w.heap.size ≤ gb290)); have GE290 := a_ ((z22_ : w.heap.size ≤ gb290)); replace HB := bst_ z23_ hb; clear hb hbox hg) | ((with_reducible refine gate_callee (f := 11) rfl ?_); refine goesL_ (some 18) rfl rfl Tryd.func11 (by kernel_rfl) rfl #[.int .i64 a0, .int .i64 a1, .string a2] rfl z27_ ?_; (with_reducible refine (impl_checkScheme.calls k a0 a1 a2 t291 _ A4.out).mono ?_); rintro e w73 ⟨rfl, hb⟩; refine ⟨_, rfl, ?_⟩; replace BK290 := bb_ gb290 BK290 hb; replace HB := bst_ z17_ hb; (try clear hb); (try clear hb2); (try clear hk); (try clear hi); obtain ⟨hcz74_0, hcz74_1, hcz74_2, hcz74_3, hcz74_4, hfz74_0, hfz74_1, hfz74_2, hfz74_3, hfz74_4⟩ := cz5_ (w := w73) BK290.out))
  refine bodyPost_ret (results_ct rfl _ _ gb290 24 #[.int .i64 0, .int .i64 0, .slice none 0 0, .slice none 0 0, .slice none 0 0] (0, 0) _ rfl (rb2_ (h := by exact bp5x5_ BK290.out)) Tryd.underlying24 rfl (by kernel_rfl)) rfl ?_
  exact ⟨_, _, _, z24_, z26_, z26_, z26_, z17_⟩

end Go.Proofs.YtkpidjmhdagkfaaDoor.QFnExactImposeSheet
-- halved
