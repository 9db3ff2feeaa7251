-- Written by own_print.py of this session's repo over the kit's print (its output, turned at some places).
import Derived.Test.YtkpidjmhdagkfaaQFnPagePlacesx0
import Derived.Test.YtkpidjmhdagkfaaQFnPagePlacesx8
import Derived.Test.YtkpidjmhdagkfaaQFnPagePlacesx9
import Derived.Test.YtkpidjmhdagkfaaQFnPagePlacesx14
namespace Go.Proofs.Ytkpidjmhdagkfaa.QFnPagePlaces
open Go.RowKit Go.Proofs.YtkpidjmhdagkfaaW.PrintWords Go.Proofs.YtkpidjmhdagkfaaW.PrintLast Go.Proofs.YtkpidjmhdagkfaaW.PrintMore
attribute [local go_sem] max2_int min2_int max_two min_two max_three min_three max_four min_four   -- for this text's walks alone
set_option linter.unusedVariables false
set_option linter.unusedSimpArgs false

/-! ### spec_l05Draw: function 55 -/
def spec_l05Draw.j0 : Nat → ByteArray → List Int → Int → Int → Int → Int → List Int → List Int → List Int → Option (Int × Int × List Int × List Int × List Int × ByteArray × Int × Int)
 | 0, _, _, _, _, _, _, _, _, _ => none
 | k + 1, x6, x1000, x1001, x1002, x428000, x428001, x428002, x428003, x428004 => some (x428000, x428001, x428002, x428003, x428004, x6, x1001, x1002)
def spec_l05Draw.f (k : Nat) (s0_0 : List Int) (s0_1 : Int) (s0_2 : Int) : Option (Int × Int × List Int × List Int × List Int × ByteArray × Int × Int) := (spec_l04Draw.f k s0_0 s0_1 s0_2).bind fun bt410 => ((spec_ImposeSheet.f k bt410.1 bt410.2.1 bt410.2.2.1).bind fun bt415 => (if bt415.2.2.2.2.2 = 0 then ((spec_l01Next.f s0_0 bt410.2.2.2.1 bt410.2.2.2.2 200).bind fun bt437 => ((spec_l01Pick.f s0_0 bt437.2.1 bt437.2.2 (([0, 0, 16, bt437.1] : List Int))).bind fun bt443 => ((spec_l05Shift.f k bt415.2.2.1 bt443.1).bind fun t446 => ((spec_l05Shift.f k bt415.2.2.2.1 bt443.1).bind fun t449 => ((spec_l01Next.f s0_0 bt443.2.1 bt443.2.2 (t446.length : Int)).bind fun bt452 => ((spec_l01Next.f s0_0 bt452.2.1 bt452.2.2 16).bind fun bt455 => (if bt455.1 = 0 then (if 0 ≤ bt452.1 then (if bt452.1 < (bt415.2.2.2.2.1.length : Int) then (spec_l05Draw.j0 k bt410.2.2.1 s0_0 bt455.2.1 bt455.2.2 bt415.1 bt415.2.1 t446 t449 (bt415.2.2.2.2.1.set (bt452.1 : Int).toNat (wrap64 (1 - (rd bt415.2.2.2.2.1 bt452.1))))) else (none)) else (none)) else (if bt455.1 = 1 then (if 0 ≤ bt452.1 then (if bt452.1 < (t446.length : Int) then (if bt452.1 < (t449.length : Int) then (spec_l05Draw.j0 k bt410.2.2.1 s0_0 bt455.2.1 bt455.2.2 bt415.1 bt415.2.1 (t446.set (bt452.1 : Int).toNat (rd t449 bt452.1)) (t449.set (bt452.1 : Int).toNat (rd t446 bt452.1)) bt415.2.2.2.2.1) else (none)) else (none)) else (none)) else (if bt455.1 = 2 then (if 0 < (t446.length : Int) then ((spec_l01Pick.f s0_0 bt455.2.1 bt455.2.2 (([0, 1, rd t446 0, 1000000000] : List Int))).bind fun bt468 => (if 0 ≤ bt452.1 then (if bt452.1 < (t446.length : Int) then (spec_l05Draw.j0 k bt410.2.2.1 s0_0 bt468.2.1 bt468.2.2 bt415.1 bt415.2.1 (t446.set (bt452.1 : Int).toNat bt468.1) t449 bt415.2.2.2.2.1) else (none)) else (none))) else (none)) else (if bt455.1 = 3 then ((spec_l01Next.f s0_0 bt455.2.1 bt455.2.2 3).bind fun bt472 => (if bt472.1 = 0 then (if bt415.2.2.2.2.1.length < 17592186044416 then (spec_l05Draw.j0 k bt410.2.2.1 s0_0 bt472.2.1 bt472.2.2 bt415.1 bt415.2.1 t446 t449 (bt415.2.2.2.2.1 ++ [0])) else (none)) else (spec_l05Draw.j0 k bt410.2.2.1 s0_0 bt472.2.1 bt472.2.2 bt415.1 bt415.2.1 t446 t449 bt415.2.2.2.2.1))) else (spec_l05Draw.j0 k bt410.2.2.1 s0_0 bt455.2.1 bt455.2.2 bt415.1 bt415.2.1 t446 t449 bt415.2.2.2.2.1))))))))))) else (some (bt410.1, bt410.2.1, (([1] : List Int)), (([2] : List Int)), (([0] : List Int)), bt410.2.2.1, bt410.2.2.2.1, bt410.2.2.2.2))))
theorem spec_l05Draw.mono_l : ∀ k, (∀ y0 y1 y2 y3 y4 y5 y6 y7 y8, LeO (spec_l05Draw.j0 k y0 y1 y2 y3 y4 y5 y6 y7 y8) (spec_l05Draw.j0 (k + 1) y0 y1 y2 y3 y4 y5 y6 y7 y8))
 | 0 => fun _ _ _ _ _ _ _ _ _ r h => by simp [spec_l05Draw.j0] at h
 | k + 1 => by
  have ih0 := spec_l05Draw.mono_l k
  ·intro y0 y1 y2 y3 y4 y5 y6 y7 y8
   unfold spec_l05Draw.j0
   repeat' first
   | (with_reducible exact ih0 _ _ _ _ _ _ _ _ _)
   | (with_reducible exact spec_ImposeSheet.mono _ _ _ _)
   | (with_reducible exact spec_l04Draw.mono _ _ _ _)
   | (with_reducible exact spec_l05Shift.mono _ _ _)
   | (with_reducible exact LeO.refl _)
   | (with_reducible exact LeO.none _)
   | (with_reducible refine LeO.ite ?_ ?_)
   | (with_reducible refine LeO.bind ?_ (fun _ => ?_))
   | exact ih0 _ _ _ _ _ _ _ _ _
   | exact spec_ImposeSheet.mono _ _ _ _
   | exact spec_l04Draw.mono _ _ _ _
   | exact spec_l05Shift.mono _ _ _
   | exact LeO.none _
   | refine LeO.ite ?_ ?_
   | refine LeO.bind ?_ (fun _ => ?_)
theorem spec_l05Draw.mono : ∀ a0 a1 a2 k, LeO (spec_l05Draw.f k a0 a1 a2) (spec_l05Draw.f (k + 1) a0 a1 a2) := by
 intro a0 a1 a2 k
 have ih0 := spec_l05Draw.mono_l k
 unfold spec_l05Draw.f
 repeat' first
   | (with_reducible exact ih0 _ _ _ _ _ _ _ _ _)
   | (with_reducible exact spec_ImposeSheet.mono _ _ _ _)
   | (with_reducible exact spec_l04Draw.mono _ _ _ _)
   | (with_reducible exact spec_l05Shift.mono _ _ _)
   | (with_reducible exact LeO.refl _)
   | (with_reducible exact LeO.none _)
   | (with_reducible refine LeO.ite ?_ ?_)
   | (with_reducible refine LeO.bind ?_ (fun _ => ?_))
   | exact ih0 _ _ _ _ _ _ _ _ _
   | exact spec_ImposeSheet.mono _ _ _ _
   | exact spec_l04Draw.mono _ _ _ _
   | exact spec_l05Shift.mono _ _ _
   | exact LeO.none _
   | refine LeO.ite ?_ ?_
   | refine LeO.bind ?_ (fun _ => ?_)
def spec_l05Draw.T11 : Bool × List (List Nat × List Nat) := (true, [([], []), ([0], [0]), ([], []), ([], []), ([3], [3]), ([], []), ([4, 5], [4, 5]), ([6], [6]), ([7], [7]), ([1, 2, 0, 1, 2, 3, 4, 5, 6, 7, 8], [1, 2]), ([9, 8, 0, 1, 2, 3, 4, 5, 6, 7, 8], [8, 9])])
def spec_l05Draw.B11 : List Nat := [0, 1, 0, 0, 8, 0, 56, 120, 248, 511, 1023]
theorem spec_l05Draw.tab11 : rtab .any (opsOf Try.f55 11) = spec_l05Draw.T11 := by kernel_rfl
theorem spec_l05Draw.bits11 : waitsOk spec_l05Draw.T11.2 spec_l05Draw.B11 = true := by kernel_rfl
def spec_l05Draw.T14 : Bool × List (List Nat × List Nat) := (true, [([], []), ([0], [0]), ([], []), ([], []), ([3], [3]), ([], []), ([4, 5], [4, 5]), ([6], [6]), ([1, 2, 0, 1, 2, 3, 4, 5, 6, 7], [1, 2]), ([8, 7, 0, 1, 2, 3, 4, 5, 6, 7], [7, 8])])
def spec_l05Draw.B14 : List Nat := [0, 1, 0, 0, 8, 0, 56, 120, 255, 511]
theorem spec_l05Draw.tab14 : rtab .any (opsOf Try.f55 14) = spec_l05Draw.T14 := by kernel_rfl
theorem spec_l05Draw.bits14 : waitsOk spec_l05Draw.T14.2 spec_l05Draw.B14 = true := by kernel_rfl
def spec_l05Draw.T17 : Bool × List (List Nat × List Nat) := (true, [([], []), ([0], [0]), ([], []), ([], []), ([], []), ([4], [4]), ([5], [5]), ([6], [6]), ([7], [7]), ([3, 8], [3, 8]), ([1, 2, 0, 1, 2, 3, 4, 5, 6, 7, 8, 9], [1, 2]), ([10, 9, 9, 0, 1, 2, 3, 4, 5, 6, 7, 8, 9], [9, 10])])
def spec_l05Draw.B17 : List Nat := [0, 1, 0, 0, 0, 16, 48, 112, 240, 504, 1023, 2047]
theorem spec_l05Draw.tab17 : rtab .any (opsOf Try.f55 17) = spec_l05Draw.T17 := by kernel_rfl
theorem spec_l05Draw.bits17 : waitsOk spec_l05Draw.T17.2 spec_l05Draw.B17 = true := by kernel_rfl
set_option maxHeartbeats 8000000 in
set_option maxRecDepth 100000 in
theorem spec_l05Draw.calls (k : Nat) (g : Nat) (s0_0 : List Int) (s0_1 : Int) (s0_2 : Int) (r1 : Int) (r2 : Int) (r3 : List Int) (r4 : List Int) (r5 : List Int) (r6 : ByteArray) (r7 : Int) (r8 : Int) (w0 w : World) (hI : IsS84 w0 w g s0_0 s0_1 s0_2) (hB : Below w0.heap.size w0 w) (h : spec_l05Draw.f k s0_0 s0_1 s0_2 = some (r1, r2, r3, r4, r5, r6, r7, r8)) :
  Calls Try.prog 55 #[.pointer (some ⟨g, 0, none⟩)] w fun e w' => ∃ v2_ v3_ v4_ : Value, e = .returned (.tuple #[.agg #[.int .i64 r1, .int .i64 r2, v2_, v3_, v4_], .string r6]) ∧ Kd.R (Kd.int .i64) 2 w' w.heap.size (fun k_ => some k_ ≠ (v3_ : Value).ownBlock ∧ some k_ ≠ (v4_ : Value).ownBlock) v2_ r3 ∧ Kd.R (Kd.int .i64) 2 w' w.heap.size (fun k_ => some k_ ≠ (v2_ : Value).ownBlock ∧ some k_ ≠ (v4_ : Value).ownBlock) v3_ r4 ∧ Kd.R (Kd.int .i64) 2 w' w.heap.size (fun k_ => some k_ ≠ (v2_ : Value).ownBlock ∧ some k_ ≠ (v3_ : Value).ownBlock) v4_ r5 ∧ IsS84 w0 w' g s0_0 r7 r8 ∧ Below w0.heap.size w0 w' ∧ KeepBut w w' g none := by
 have hu27 := Try.underlying27
 have HI0 := Aside0.mk hI
 have HK := a_ (KeepBut.refl w g none)
 have HL := Aside0.mk hB.size
 clear hI
 have HW0 := Aside0.mk hB.size
 have HB := Aside0.mk hB
 clear hB
 have H : ((spec_l04Draw.f k s0_0 s0_1 s0_2).bind fun bt410 => ((spec_ImposeSheet.f k bt410.1 bt410.2.1 bt410.2.2.1).bind fun bt415 => (if bt415.2.2.2.2.2 = 0 then ((spec_l01Next.f s0_0 bt410.2.2.2.1 bt410.2.2.2.2 200).bind fun bt437 => ((spec_l01Pick.f s0_0 bt437.2.1 bt437.2.2 (([0, 0, 16, bt437.1] : List Int))).bind fun bt443 => ((spec_l05Shift.f k bt415.2.2.1 bt443.1).bind fun t446 => ((spec_l05Shift.f k bt415.2.2.2.1 bt443.1).bind fun t449 => ((spec_l01Next.f s0_0 bt443.2.1 bt443.2.2 (t446.length : Int)).bind fun bt452 => ((spec_l01Next.f s0_0 bt452.2.1 bt452.2.2 16).bind fun bt455 => (if bt455.1 = 0 then (if 0 ≤ bt452.1 then (if bt452.1 < (bt415.2.2.2.2.1.length : Int) then (spec_l05Draw.j0 k bt410.2.2.1 s0_0 bt455.2.1 bt455.2.2 bt415.1 bt415.2.1 t446 t449 (bt415.2.2.2.2.1.set (bt452.1 : Int).toNat (wrap64 (1 - (rd bt415.2.2.2.2.1 bt452.1))))) else (none)) else (none)) else (if bt455.1 = 1 then (if 0 ≤ bt452.1 then (if bt452.1 < (t446.length : Int) then (if bt452.1 < (t449.length : Int) then (spec_l05Draw.j0 k bt410.2.2.1 s0_0 bt455.2.1 bt455.2.2 bt415.1 bt415.2.1 (t446.set (bt452.1 : Int).toNat (rd t449 bt452.1)) (t449.set (bt452.1 : Int).toNat (rd t446 bt452.1)) bt415.2.2.2.2.1) else (none)) else (none)) else (none)) else (if bt455.1 = 2 then (if 0 < (t446.length : Int) then ((spec_l01Pick.f s0_0 bt455.2.1 bt455.2.2 (([0, 1, rd t446 0, 1000000000] : List Int))).bind fun bt468 => (if 0 ≤ bt452.1 then (if bt452.1 < (t446.length : Int) then (spec_l05Draw.j0 k bt410.2.2.1 s0_0 bt468.2.1 bt468.2.2 bt415.1 bt415.2.1 (t446.set (bt452.1 : Int).toNat bt468.1) t449 bt415.2.2.2.2.1) else (none)) else (none))) else (none)) else (if bt455.1 = 3 then ((spec_l01Next.f s0_0 bt455.2.1 bt455.2.2 3).bind fun bt472 => (if bt472.1 = 0 then (if bt415.2.2.2.2.1.length < 17592186044416 then (spec_l05Draw.j0 k bt410.2.2.1 s0_0 bt472.2.1 bt472.2.2 bt415.1 bt415.2.1 t446 t449 (bt415.2.2.2.2.1 ++ [0])) else (none)) else (spec_l05Draw.j0 k bt410.2.2.1 s0_0 bt472.2.1 bt472.2.2 bt415.1 bt415.2.1 t446 t449 bt415.2.2.2.2.1))) else (spec_l05Draw.j0 k bt410.2.2.1 s0_0 bt455.2.1 bt455.2.2 bt415.1 bt415.2.1 t446 t449 bt415.2.2.2.2.1))))))))))) else (some (bt410.1, bt410.2.1, (([1] : List Int)), (([2] : List Int)), (([0] : List Int)), bt410.2.2.1, bt410.2.2.2.1, bt410.2.2.2.2))))) = some (r1, r2, r3, r4, r5, r6, r7, r8) := h
 clear h
 replace H := Option.bind_eq_some_iff.mp H
 obtain ⟨⟨t410, t411, t412, t413, t414⟩, A20, H⟩ := H
 replace H : ((spec_ImposeSheet.f k t410 t411 t412).bind fun bt415 => (if bt415.2.2.2.2.2 = 0 then ((spec_l01Next.f s0_0 t413 t414 200).bind fun bt437 => ((spec_l01Pick.f s0_0 bt437.2.1 bt437.2.2 (([0, 0, 16, bt437.1] : List Int))).bind fun bt443 => ((spec_l05Shift.f k bt415.2.2.1 bt443.1).bind fun t446 => ((spec_l05Shift.f k bt415.2.2.2.1 bt443.1).bind fun t449 => ((spec_l01Next.f s0_0 bt443.2.1 bt443.2.2 (t446.length : Int)).bind fun bt452 => ((spec_l01Next.f s0_0 bt452.2.1 bt452.2.2 16).bind fun bt455 => (if bt455.1 = 0 then (if 0 ≤ bt452.1 then (if bt452.1 < (bt415.2.2.2.2.1.length : Int) then (spec_l05Draw.j0 k t412 s0_0 bt455.2.1 bt455.2.2 bt415.1 bt415.2.1 t446 t449 (bt415.2.2.2.2.1.set (bt452.1 : Int).toNat (wrap64 (1 - (rd bt415.2.2.2.2.1 bt452.1))))) else (none)) else (none)) else (if bt455.1 = 1 then (if 0 ≤ bt452.1 then (if bt452.1 < (t446.length : Int) then (if bt452.1 < (t449.length : Int) then (spec_l05Draw.j0 k t412 s0_0 bt455.2.1 bt455.2.2 bt415.1 bt415.2.1 (t446.set (bt452.1 : Int).toNat (rd t449 bt452.1)) (t449.set (bt452.1 : Int).toNat (rd t446 bt452.1)) bt415.2.2.2.2.1) else (none)) else (none)) else (none)) else (if bt455.1 = 2 then (if 0 < (t446.length : Int) then ((spec_l01Pick.f s0_0 bt455.2.1 bt455.2.2 (([0, 1, rd t446 0, 1000000000] : List Int))).bind fun bt468 => (if 0 ≤ bt452.1 then (if bt452.1 < (t446.length : Int) then (spec_l05Draw.j0 k t412 s0_0 bt468.2.1 bt468.2.2 bt415.1 bt415.2.1 (t446.set (bt452.1 : Int).toNat bt468.1) t449 bt415.2.2.2.2.1) else (none)) else (none))) else (none)) else (if bt455.1 = 3 then ((spec_l01Next.f s0_0 bt455.2.1 bt455.2.2 3).bind fun bt472 => (if bt472.1 = 0 then (if bt415.2.2.2.2.1.length < 17592186044416 then (spec_l05Draw.j0 k t412 s0_0 bt472.2.1 bt472.2.2 bt415.1 bt415.2.1 t446 t449 (bt415.2.2.2.2.1 ++ [0])) else (none)) else (spec_l05Draw.j0 k t412 s0_0 bt472.2.1 bt472.2.2 bt415.1 bt415.2.1 t446 t449 bt415.2.2.2.2.1))) else (spec_l05Draw.j0 k t412 s0_0 bt455.2.1 bt455.2.2 bt415.1 bt415.2.1 t446 t449 bt415.2.2.2.2.1))))))))))) else (some (t410, t411, (([1] : List Int)), (([2] : List Int)), (([0] : List Int)), t412, t413, t414)))) = some (r1, r2, r3, r4, r5, r6, r7, r8) := H
 have A2 := Aside0.mk A20
 clear A20
 replace H := Option.bind_eq_some_iff.mp H
 obtain ⟨⟨t415, t416, t417, t420, t423, t426⟩, A30, H⟩ := H
 replace H : (if t426 = 0 then ((spec_l01Next.f s0_0 t413 t414 200).bind fun bt437 => ((spec_l01Pick.f s0_0 bt437.2.1 bt437.2.2 (([0, 0, 16, bt437.1] : List Int))).bind fun bt443 => ((spec_l05Shift.f k t417 bt443.1).bind fun t446 => ((spec_l05Shift.f k t420 bt443.1).bind fun t449 => ((spec_l01Next.f s0_0 bt443.2.1 bt443.2.2 (t446.length : Int)).bind fun bt452 => ((spec_l01Next.f s0_0 bt452.2.1 bt452.2.2 16).bind fun bt455 => (if bt455.1 = 0 then (if 0 ≤ bt452.1 then (if bt452.1 < (t423.length : Int) then (spec_l05Draw.j0 k t412 s0_0 bt455.2.1 bt455.2.2 t415 t416 t446 t449 (t423.set (bt452.1 : Int).toNat (wrap64 (1 - (rd t423 bt452.1))))) else (none)) else (none)) else (if bt455.1 = 1 then (if 0 ≤ bt452.1 then (if bt452.1 < (t446.length : Int) then (if bt452.1 < (t449.length : Int) then (spec_l05Draw.j0 k t412 s0_0 bt455.2.1 bt455.2.2 t415 t416 (t446.set (bt452.1 : Int).toNat (rd t449 bt452.1)) (t449.set (bt452.1 : Int).toNat (rd t446 bt452.1)) t423) else (none)) else (none)) else (none)) else (if bt455.1 = 2 then (if 0 < (t446.length : Int) then ((spec_l01Pick.f s0_0 bt455.2.1 bt455.2.2 (([0, 1, rd t446 0, 1000000000] : List Int))).bind fun bt468 => (if 0 ≤ bt452.1 then (if bt452.1 < (t446.length : Int) then (spec_l05Draw.j0 k t412 s0_0 bt468.2.1 bt468.2.2 t415 t416 (t446.set (bt452.1 : Int).toNat bt468.1) t449 t423) else (none)) else (none))) else (none)) else (if bt455.1 = 3 then ((spec_l01Next.f s0_0 bt455.2.1 bt455.2.2 3).bind fun bt472 => (if bt472.1 = 0 then (if t423.length < 17592186044416 then (spec_l05Draw.j0 k t412 s0_0 bt472.2.1 bt472.2.2 t415 t416 t446 t449 (t423 ++ [0])) else (none)) else (spec_l05Draw.j0 k t412 s0_0 bt472.2.1 bt472.2.2 t415 t416 t446 t449 t423))) else (spec_l05Draw.j0 k t412 s0_0 bt455.2.1 bt455.2.2 t415 t416 t446 t449 t423))))))))))) else (some (t410, t411, (([1] : List Int)), (([2] : List Int)), (([0] : List Int)), t412, t413, t414))) = some (r1, r2, r3, r4, r5, r6, r7, r8) := H
 have A3 := Aside0.mk A30
 clear A30
 by_cases c4 : t426 = 0
 ·rw [if_pos c4] at H
  have c4b0 : (t426 == 0) = true := beq_iff_eq.mpr c4
  have c4b1 : (t426 != 0) = false := bne_eq_false_iff_eq.mpr c4
  clear c4
  replace H := Option.bind_eq_some_iff.mp H
  obtain ⟨⟨t437, t438, t439⟩, A50, H⟩ := H
  replace H : ((spec_l01Pick.f s0_0 t438 t439 (([0, 0, 16, t437] : List Int))).bind fun bt443 => ((spec_l05Shift.f k t417 bt443.1).bind fun t446 => ((spec_l05Shift.f k t420 bt443.1).bind fun t449 => ((spec_l01Next.f s0_0 bt443.2.1 bt443.2.2 (t446.length : Int)).bind fun bt452 => ((spec_l01Next.f s0_0 bt452.2.1 bt452.2.2 16).bind fun bt455 => (if bt455.1 = 0 then (if 0 ≤ bt452.1 then (if bt452.1 < (t423.length : Int) then (spec_l05Draw.j0 k t412 s0_0 bt455.2.1 bt455.2.2 t415 t416 t446 t449 (t423.set (bt452.1 : Int).toNat (wrap64 (1 - (rd t423 bt452.1))))) else (none)) else (none)) else (if bt455.1 = 1 then (if 0 ≤ bt452.1 then (if bt452.1 < (t446.length : Int) then (if bt452.1 < (t449.length : Int) then (spec_l05Draw.j0 k t412 s0_0 bt455.2.1 bt455.2.2 t415 t416 (t446.set (bt452.1 : Int).toNat (rd t449 bt452.1)) (t449.set (bt452.1 : Int).toNat (rd t446 bt452.1)) t423) else (none)) else (none)) else (none)) else (if bt455.1 = 2 then (if 0 < (t446.length : Int) then ((spec_l01Pick.f s0_0 bt455.2.1 bt455.2.2 (([0, 1, rd t446 0, 1000000000] : List Int))).bind fun bt468 => (if 0 ≤ bt452.1 then (if bt452.1 < (t446.length : Int) then (spec_l05Draw.j0 k t412 s0_0 bt468.2.1 bt468.2.2 t415 t416 (t446.set (bt452.1 : Int).toNat bt468.1) t449 t423) else (none)) else (none))) else (none)) else (if bt455.1 = 3 then ((spec_l01Next.f s0_0 bt455.2.1 bt455.2.2 3).bind fun bt472 => (if bt472.1 = 0 then (if t423.length < 17592186044416 then (spec_l05Draw.j0 k t412 s0_0 bt472.2.1 bt472.2.2 t415 t416 t446 t449 (t423 ++ [0])) else (none)) else (spec_l05Draw.j0 k t412 s0_0 bt472.2.1 bt472.2.2 t415 t416 t446 t449 t423))) else (spec_l05Draw.j0 k t412 s0_0 bt455.2.1 bt455.2.2 t415 t416 t446 t449 t423)))))))))) = some (r1, r2, r3, r4, r5, r6, r7, r8) := H
  have A5 := Aside0.mk A50
  clear A50
  obtain ⟨y440, hy440⟩ : ∃ y_ : List Int, y_ = (([0, 0, 16, t437] : List Int)) := ⟨_, rfl⟩
  replace H : ((spec_l01Pick.f s0_0 t438 t439 y440).bind fun bt443 => ((spec_l05Shift.f k t417 bt443.1).bind fun t446 => ((spec_l05Shift.f k t420 bt443.1).bind fun t449 => ((spec_l01Next.f s0_0 bt443.2.1 bt443.2.2 (t446.length : Int)).bind fun bt452 => ((spec_l01Next.f s0_0 bt452.2.1 bt452.2.2 16).bind fun bt455 => (if bt455.1 = 0 then (if 0 ≤ bt452.1 then (if bt452.1 < (t423.length : Int) then (spec_l05Draw.j0 k t412 s0_0 bt455.2.1 bt455.2.2 t415 t416 t446 t449 (t423.set (bt452.1 : Int).toNat (wrap64 (1 - (rd t423 bt452.1))))) else (none)) else (none)) else (if bt455.1 = 1 then (if 0 ≤ bt452.1 then (if bt452.1 < (t446.length : Int) then (if bt452.1 < (t449.length : Int) then (spec_l05Draw.j0 k t412 s0_0 bt455.2.1 bt455.2.2 t415 t416 (t446.set (bt452.1 : Int).toNat (rd t449 bt452.1)) (t449.set (bt452.1 : Int).toNat (rd t446 bt452.1)) t423) else (none)) else (none)) else (none)) else (if bt455.1 = 2 then (if 0 < (t446.length : Int) then ((spec_l01Pick.f s0_0 bt455.2.1 bt455.2.2 (([0, 1, rd t446 0, 1000000000] : List Int))).bind fun bt468 => (if 0 ≤ bt452.1 then (if bt452.1 < (t446.length : Int) then (spec_l05Draw.j0 k t412 s0_0 bt468.2.1 bt468.2.2 t415 t416 (t446.set (bt452.1 : Int).toNat bt468.1) t449 t423) else (none)) else (none))) else (none)) else (if bt455.1 = 3 then ((spec_l01Next.f s0_0 bt455.2.1 bt455.2.2 3).bind fun bt472 => (if bt472.1 = 0 then (if t423.length < 17592186044416 then (spec_l05Draw.j0 k t412 s0_0 bt472.2.1 bt472.2.2 t415 t416 t446 t449 (t423 ++ [0])) else (none)) else (spec_l05Draw.j0 k t412 s0_0 bt472.2.1 bt472.2.2 t415 t416 t446 t449 t423))) else (spec_l05Draw.j0 k t412 s0_0 bt455.2.1 bt455.2.2 t415 t416 t446 t449 t423)))))))))) = some (r1, r2, r3, r4, r5, r6, r7, r8) := rh_ hy440 H
  have Ny440 := Aside0.mk hy440
  clear hy440
  replace H := Option.bind_eq_some_iff.mp H
  obtain ⟨⟨t443, t444, t445⟩, A60, H⟩ := H
  replace H : ((spec_l05Shift.f k t417 t443).bind fun t446 => ((spec_l05Shift.f k t420 t443).bind fun t449 => ((spec_l01Next.f s0_0 t444 t445 (t446.length : Int)).bind fun bt452 => ((spec_l01Next.f s0_0 bt452.2.1 bt452.2.2 16).bind fun bt455 => (if bt455.1 = 0 then (if 0 ≤ bt452.1 then (if bt452.1 < (t423.length : Int) then (spec_l05Draw.j0 k t412 s0_0 bt455.2.1 bt455.2.2 t415 t416 t446 t449 (t423.set (bt452.1 : Int).toNat (wrap64 (1 - (rd t423 bt452.1))))) else (none)) else (none)) else (if bt455.1 = 1 then (if 0 ≤ bt452.1 then (if bt452.1 < (t446.length : Int) then (if bt452.1 < (t449.length : Int) then (spec_l05Draw.j0 k t412 s0_0 bt455.2.1 bt455.2.2 t415 t416 (t446.set (bt452.1 : Int).toNat (rd t449 bt452.1)) (t449.set (bt452.1 : Int).toNat (rd t446 bt452.1)) t423) else (none)) else (none)) else (none)) else (if bt455.1 = 2 then (if 0 < (t446.length : Int) then ((spec_l01Pick.f s0_0 bt455.2.1 bt455.2.2 (([0, 1, rd t446 0, 1000000000] : List Int))).bind fun bt468 => (if 0 ≤ bt452.1 then (if bt452.1 < (t446.length : Int) then (spec_l05Draw.j0 k t412 s0_0 bt468.2.1 bt468.2.2 t415 t416 (t446.set (bt452.1 : Int).toNat bt468.1) t449 t423) else (none)) else (none))) else (none)) else (if bt455.1 = 3 then ((spec_l01Next.f s0_0 bt455.2.1 bt455.2.2 3).bind fun bt472 => (if bt472.1 = 0 then (if t423.length < 17592186044416 then (spec_l05Draw.j0 k t412 s0_0 bt472.2.1 bt472.2.2 t415 t416 t446 t449 (t423 ++ [0])) else (none)) else (spec_l05Draw.j0 k t412 s0_0 bt472.2.1 bt472.2.2 t415 t416 t446 t449 t423))) else (spec_l05Draw.j0 k t412 s0_0 bt455.2.1 bt455.2.2 t415 t416 t446 t449 t423))))))))) = some (r1, r2, r3, r4, r5, r6, r7, r8) := H
  have A6 := Aside0.mk A60
  clear A60
  replace H := Option.bind_eq_some_iff.mp H
  obtain ⟨t446, A70, H⟩ := H
  replace H : ((spec_l05Shift.f k t420 t443).bind fun t449 => ((spec_l01Next.f s0_0 t444 t445 (t446.length : Int)).bind fun bt452 => ((spec_l01Next.f s0_0 bt452.2.1 bt452.2.2 16).bind fun bt455 => (if bt455.1 = 0 then (if 0 ≤ bt452.1 then (if bt452.1 < (t423.length : Int) then (spec_l05Draw.j0 k t412 s0_0 bt455.2.1 bt455.2.2 t415 t416 t446 t449 (t423.set (bt452.1 : Int).toNat (wrap64 (1 - (rd t423 bt452.1))))) else (none)) else (none)) else (if bt455.1 = 1 then (if 0 ≤ bt452.1 then (if bt452.1 < (t446.length : Int) then (if bt452.1 < (t449.length : Int) then (spec_l05Draw.j0 k t412 s0_0 bt455.2.1 bt455.2.2 t415 t416 (t446.set (bt452.1 : Int).toNat (rd t449 bt452.1)) (t449.set (bt452.1 : Int).toNat (rd t446 bt452.1)) t423) else (none)) else (none)) else (none)) else (if bt455.1 = 2 then (if 0 < (t446.length : Int) then ((spec_l01Pick.f s0_0 bt455.2.1 bt455.2.2 (([0, 1, rd t446 0, 1000000000] : List Int))).bind fun bt468 => (if 0 ≤ bt452.1 then (if bt452.1 < (t446.length : Int) then (spec_l05Draw.j0 k t412 s0_0 bt468.2.1 bt468.2.2 t415 t416 (t446.set (bt452.1 : Int).toNat bt468.1) t449 t423) else (none)) else (none))) else (none)) else (if bt455.1 = 3 then ((spec_l01Next.f s0_0 bt455.2.1 bt455.2.2 3).bind fun bt472 => (if bt472.1 = 0 then (if t423.length < 17592186044416 then (spec_l05Draw.j0 k t412 s0_0 bt472.2.1 bt472.2.2 t415 t416 t446 t449 (t423 ++ [0])) else (none)) else (spec_l05Draw.j0 k t412 s0_0 bt472.2.1 bt472.2.2 t415 t416 t446 t449 t423))) else (spec_l05Draw.j0 k t412 s0_0 bt455.2.1 bt455.2.2 t415 t416 t446 t449 t423)))))))) = some (r1, r2, r3, r4, r5, r6, r7, r8) := H
  have A7 := Aside0.mk A70
  clear A70
  replace H := Option.bind_eq_some_iff.mp H
  obtain ⟨t449, A80, H⟩ := H
  replace H : ((spec_l01Next.f s0_0 t444 t445 (t446.length : Int)).bind fun bt452 => ((spec_l01Next.f s0_0 bt452.2.1 bt452.2.2 16).bind fun bt455 => (if bt455.1 = 0 then (if 0 ≤ bt452.1 then (if bt452.1 < (t423.length : Int) then (spec_l05Draw.j0 k t412 s0_0 bt455.2.1 bt455.2.2 t415 t416 t446 t449 (t423.set (bt452.1 : Int).toNat (wrap64 (1 - (rd t423 bt452.1))))) else (none)) else (none)) else (if bt455.1 = 1 then (if 0 ≤ bt452.1 then (if bt452.1 < (t446.length : Int) then (if bt452.1 < (t449.length : Int) then (spec_l05Draw.j0 k t412 s0_0 bt455.2.1 bt455.2.2 t415 t416 (t446.set (bt452.1 : Int).toNat (rd t449 bt452.1)) (t449.set (bt452.1 : Int).toNat (rd t446 bt452.1)) t423) else (none)) else (none)) else (none)) else (if bt455.1 = 2 then (if 0 < (t446.length : Int) then ((spec_l01Pick.f s0_0 bt455.2.1 bt455.2.2 (([0, 1, rd t446 0, 1000000000] : List Int))).bind fun bt468 => (if 0 ≤ bt452.1 then (if bt452.1 < (t446.length : Int) then (spec_l05Draw.j0 k t412 s0_0 bt468.2.1 bt468.2.2 t415 t416 (t446.set (bt452.1 : Int).toNat bt468.1) t449 t423) else (none)) else (none))) else (none)) else (if bt455.1 = 3 then ((spec_l01Next.f s0_0 bt455.2.1 bt455.2.2 3).bind fun bt472 => (if bt472.1 = 0 then (if t423.length < 17592186044416 then (spec_l05Draw.j0 k t412 s0_0 bt472.2.1 bt472.2.2 t415 t416 t446 t449 (t423 ++ [0])) else (none)) else (spec_l05Draw.j0 k t412 s0_0 bt472.2.1 bt472.2.2 t415 t416 t446 t449 t423))) else (spec_l05Draw.j0 k t412 s0_0 bt455.2.1 bt455.2.2 t415 t416 t446 t449 t423))))))) = some (r1, r2, r3, r4, r5, r6, r7, r8) := H
  have A8 := Aside0.mk A80
  clear A80
  replace H := Option.bind_eq_some_iff.mp H
  obtain ⟨⟨t452, t453, t454⟩, A90, H⟩ := H
  replace H : ((spec_l01Next.f s0_0 t453 t454 16).bind fun bt455 => (if bt455.1 = 0 then (if 0 ≤ t452 then (if t452 < (t423.length : Int) then (spec_l05Draw.j0 k t412 s0_0 bt455.2.1 bt455.2.2 t415 t416 t446 t449 (t423.set (t452 : Int).toNat (wrap64 (1 - (rd t423 t452))))) else (none)) else (none)) else (if bt455.1 = 1 then (if 0 ≤ t452 then (if t452 < (t446.length : Int) then (if t452 < (t449.length : Int) then (spec_l05Draw.j0 k t412 s0_0 bt455.2.1 bt455.2.2 t415 t416 (t446.set (t452 : Int).toNat (rd t449 t452)) (t449.set (t452 : Int).toNat (rd t446 t452)) t423) else (none)) else (none)) else (none)) else (if bt455.1 = 2 then (if 0 < (t446.length : Int) then ((spec_l01Pick.f s0_0 bt455.2.1 bt455.2.2 (([0, 1, rd t446 0, 1000000000] : List Int))).bind fun bt468 => (if 0 ≤ t452 then (if t452 < (t446.length : Int) then (spec_l05Draw.j0 k t412 s0_0 bt468.2.1 bt468.2.2 t415 t416 (t446.set (t452 : Int).toNat bt468.1) t449 t423) else (none)) else (none))) else (none)) else (if bt455.1 = 3 then ((spec_l01Next.f s0_0 bt455.2.1 bt455.2.2 3).bind fun bt472 => (if bt472.1 = 0 then (if t423.length < 17592186044416 then (spec_l05Draw.j0 k t412 s0_0 bt472.2.1 bt472.2.2 t415 t416 t446 t449 (t423 ++ [0])) else (none)) else (spec_l05Draw.j0 k t412 s0_0 bt472.2.1 bt472.2.2 t415 t416 t446 t449 t423))) else (spec_l05Draw.j0 k t412 s0_0 bt455.2.1 bt455.2.2 t415 t416 t446 t449 t423)))))) = some (r1, r2, r3, r4, r5, r6, r7, r8) := H
  have A9 := Aside0.mk A90
  clear A90
  replace H := Option.bind_eq_some_iff.mp H
  obtain ⟨⟨t455, t456, t457⟩, A100, H⟩ := H
  replace H : (if t455 = 0 then (if 0 ≤ t452 then (if t452 < (t423.length : Int) then (spec_l05Draw.j0 k t412 s0_0 t456 t457 t415 t416 t446 t449 (t423.set (t452 : Int).toNat (wrap64 (1 - (rd t423 t452))))) else (none)) else (none)) else (if t455 = 1 then (if 0 ≤ t452 then (if t452 < (t446.length : Int) then (if t452 < (t449.length : Int) then (spec_l05Draw.j0 k t412 s0_0 t456 t457 t415 t416 (t446.set (t452 : Int).toNat (rd t449 t452)) (t449.set (t452 : Int).toNat (rd t446 t452)) t423) else (none)) else (none)) else (none)) else (if t455 = 2 then (if 0 < (t446.length : Int) then ((spec_l01Pick.f s0_0 t456 t457 (([0, 1, rd t446 0, 1000000000] : List Int))).bind fun bt468 => (if 0 ≤ t452 then (if t452 < (t446.length : Int) then (spec_l05Draw.j0 k t412 s0_0 bt468.2.1 bt468.2.2 t415 t416 (t446.set (t452 : Int).toNat bt468.1) t449 t423) else (none)) else (none))) else (none)) else (if t455 = 3 then ((spec_l01Next.f s0_0 t456 t457 3).bind fun bt472 => (if bt472.1 = 0 then (if t423.length < 17592186044416 then (spec_l05Draw.j0 k t412 s0_0 bt472.2.1 bt472.2.2 t415 t416 t446 t449 (t423 ++ [0])) else (none)) else (spec_l05Draw.j0 k t412 s0_0 bt472.2.1 bt472.2.2 t415 t416 t446 t449 t423))) else (spec_l05Draw.j0 k t412 s0_0 t456 t457 t415 t416 t446 t449 t423))))) = some (r1, r2, r3, r4, r5, r6, r7, r8) := H
  have A10 := Aside0.mk A100
  clear A100
  have HC11 := Aside0.mk H
  clear H
  go_enter Try.func55, Try.ntmps55
  go_upto_block 0 with (first | ((with_reducible refine gate_dst (N := 2) rfl ?_); refine box_event ?hg (N := 2) ?hd (cs := #[.int .i64 0, .int .i64 0, .slice none 0 0, .slice none 0 0, .slice none 0 0]) (t := 27) ?hr ?_; (case hd => rfl); (case hg => rfl); (case hr => first | (go_simp; done) | (go_simp; rfl)); intro gb409 hg w12 hbox hb; replace HB := a_ (below_step z35_ hb); have BK409 := a_ (hbox); have GW409 := a_ ((z27_ : w.heap.size ≤ gb409)); have GE409 := a_ ((Nat.le_trans HW0.out (z27_ : w.heap.size ≤ gb409) : w0.heap.size ≤ gb409)); replace HK := a_ (KeepBut.trans z52_ (KeepBut.of_below hb g none) (.inl rfl)); have NB0_409 := a_ ((by rw [hg]; exact Nat.ne_of_lt (IsS84.lt (show IsS84 w0 _ g s0_0 s0_1 s0_2 from z36_)) : g ≠ gb409)); have NB409_0 := a_ ((by rw [hg]; exact Nat.ne_of_gt (IsS84.lt (show IsS84 w0 _ g s0_0 s0_1 s0_2 from z36_)) : gb409 ≠ g)); replace HI0 := a_ (IsS84.below z36_ hb); clear hb hbox hg) | ((with_reducible refine gate_callee (f := 74) rfl ?_); refine goesL_ (some 14) rfl rfl Try.func74 (by kernel_rfl) rfl #[.pointer (some ⟨g, 0, none⟩)] rfl z57_ ?_; (with_reducible refine (spec_l04Draw.calls k g s0_0 s0_1 s0_2 t410 t411 t412 t413 t414 w0 _ ?side1 ?side2 A2.out).mono ?_); (case side1 => exact z19_); (case side2 => exact z20_); rintro e w13 ⟨rfl, hi, hb, hk⟩; refine ⟨_, rfl, ?_⟩; replace BK409 := a_ (KeepBut.blk hk (g' := gb409) (rb_ BK409.out) NB409_0.out (by simp)); replace HK := a_ (KeepBut.trans z28_ hk (.inl rfl)); replace HB := a_ (hb); replace HI0 := a_ (hi); (try clear hb); (try clear hb2); (try clear hk); (try clear hi)) | ((with_reducible refine gate_callee (f := 75) rfl ?_); refine goesL_ (some 22) rfl rfl Try.func75 (by kernel_rfl) rfl #[.int .i64 t410, .int .i64 t411, .string t412] rfl z57_ ?_; (with_reducible refine (spec_ImposeSheet.calls k t410 t411 t412 t415 t416 t417 t420 t423 t426 _ A3.out).mono ?_); rintro e w14 ⟨v418, v421, v424, rfl, ho0, ho1, ho2, hb⟩; refine ⟨_, rfl, ?_⟩; have HO419 := a_ (Kd.R_lower ho0 (keep_size (w := w) (g := g) (row := none) z28_)); have HO422 := a_ (Kd.R_lower ho1 (keep_size (w := w) (g := g) (row := none) z28_)); have HO425 := a_ (Kd.R_lower ho2 (keep_size (w := w) (g := g) (row := none) z28_)); replace BK409 := a_ (blk_below (g := gb409) (rb_ BK409.out) hb); replace HK := a_ (KeepBut.trans z28_ (KeepBut.of_below hb g none) (.inl rfl)); replace HB := a_ (below_step z20_ hb); replace HI0 := a_ (IsS84.below z19_ hb); (try clear hb); (try clear hb2); (try clear hk); (try clear hi); (try clear ho0); (try clear ho1); (try clear ho2)) | ((with_reducible refine gate_dst (N := 7) rfl ?_); refine box_event ?hg (N := 7) ?hd (cs := #[.int .i64 0, .int .i64 0, .slice none 0 0, .slice none 0 0, .slice none 0 0]) (t := 27) ?hr ?_; (case hd => rfl); (case hg => rfl); (case hr => first | (go_simp; done) | (go_simp; rfl)); intro gb427 hg w15 hbox hb; replace HO419 := a_ (Kd.R_below (ra_ HO419.out) hb); replace HO422 := a_ (Kd.R_below (ra_ HO422.out) hb); replace HO425 := a_ (Kd.R_below (ra_ HO425.out) hb); replace HB := a_ (below_step z20_ hb); have BK427 := a_ (hbox); have GW427 := a_ ((z12_ : w.heap.size ≤ gb427)); have GE427 := a_ ((Nat.le_trans HW0.out (z12_ : w.heap.size ≤ gb427) : w0.heap.size ≤ gb427)); replace HK := a_ (KeepBut.trans z28_ (KeepBut.of_below hb g none) (.inl rfl)); have NB409_427 := a_ ((by rw [hg]; exact Nat.ne_of_lt (blk_lt (g := gb409) (rb_ BK409.out)) : gb409 ≠ gb427)); have NB427_409 := a_ ((by rw [hg]; exact Nat.ne_of_gt (blk_lt (g := gb409) (rb_ BK409.out)) : gb427 ≠ gb409)); replace BK409 := a_ (blk_below (g := gb409) (rb_ BK409.out) hb); have NB0_427 := a_ ((by rw [hg]; exact Nat.ne_of_lt (IsS84.lt (show IsS84 w0 _ g s0_0 t413 t414 from z19_)) : g ≠ gb427)); have NB427_0 := a_ ((by rw [hg]; exact Nat.ne_of_gt (IsS84.lt (show IsS84 w0 _ g s0_0 t413 t414 from z19_)) : gb427 ≠ g)); replace HI0 := a_ (IsS84.below z19_ hb); clear hb hbox hg; have hnb16 := NB427_409.out; have hnc16 := NB409_427.out; have hnb17 := NB427_0.out; have hnc17 := NB0_427.out; obtain ⟨hcz18_0, hcz18_1, hcz18_2, hcz18_3, hcz18_4, hfz18_0, hfz18_1, hfz18_2, hfz18_3, hfz18_4⟩ := cz5_ (w := w15) BK427.out; obtain ⟨Ao19, co19, eo19⟩ := Kd.R_slice HO419.out; subst eo19; obtain ⟨Ao20, co20, eo20⟩ := Kd.R_slice HO422.out; subst eo20; obtain ⟨Ao21, co21, eo21⟩ := Kd.R_slice HO425.out; subst eo21) | ((with_reducible refine gate_callee (f := 56) rfl ?_); refine goesL_ (some 36) rfl rfl Try.func56 (by kernel_rfl) rfl #[.pointer (some ⟨g, 0, none⟩), .int .i64 200] rfl z57_ ?_; (with_reducible refine (spec_l01Next.calls g s0_0 t413 t414 200 t437 t438 t439 w0 _ ?side1 ?side2 A5.out).mono ?_); (case side1 => exact z6_); (case side2 => exact z8_); rintro e w22 ⟨rfl, hi, hb, hk⟩; refine ⟨_, rfl, ?_⟩; replace BK409 := a_ (KeepBut.blk hk (g' := gb409) (o := .cells #[.int .i64 0, .int .i64 0, .slice none 0 0, .slice none 0 0, .slice none 0 0] 27 (0, 0)) (rb2_ (h := by exact bf5_ NB409_427.out BK409.out)) NB409_0.out (by simp)); replace HO419 := a_ (Kd.R_mono (Kd.R_keep (IsS84.apart (show IsS84 w0 _ g s0_0 t413 t414 from z6_) (rc_ (h := by exact Kd.R_mono (rt5_ HO419.out BK427.out) (fun _ h_ => h_.1))) (by decide)) hk (fun _ h => h.2)) (fun _ h => h.1)); replace HO422 := a_ (Kd.R_mono (Kd.R_keep (IsS84.apart (show IsS84 w0 _ g s0_0 t413 t414 from z6_) (rc_ (h := by exact Kd.R_mono (rt5_ HO422.out BK427.out) (fun _ h_ => h_.1))) (by decide)) hk (fun _ h => h.2)) (fun _ h => h.1)); replace HO425 := a_ (Kd.R_mono (Kd.R_keep (IsS84.apart (show IsS84 w0 _ g s0_0 t413 t414 from z6_) (rc_ (h := by exact Kd.R_mono (rt5_ HO425.out BK427.out) (fun _ h_ => h_.1))) (by decide)) hk (fun _ h => h.2)) (fun _ h => h.1)); replace BK427 := a_ (KeepBut.blk hk (g' := gb427) (o := .cells #[.int .i64 t415, .int .i64 t416, .slice Ao19 t417.length co19, .slice Ao20 t420.length co20, .slice Ao21 t423.length co21] 27 (0, 0)) (rb2_ (h := by exact bp5_ BK427.out)) NB427_0.out (by simp)); replace HK := a_ (KeepBut.trans z13_ hk (.inl rfl)); replace HB := a_ (hb); replace HI0 := a_ (hi); (try clear hb); (try clear hb2); (try clear hk); (try clear hi)) | ((with_reducible refine gate_dst (N := 37) rfl ?_); refine Kd.R_lit (Kd.int .i64) _ 2 ?hg (N := 37) ?hd (xs := ([0, 0, 16, t437] : List Int)) (inner := [.int .i64 0, .int .i64 0, .int .i64 16, .int .i64 t437]) (ok := fun _ => True) (okp := fun _ => True) ?hr ?hp (fun _ hk => hk) trivial (Below.refl _ _) (Nat.le_refl _) (by simp) ?_; (case hd => rfl); (case hg => rfl); (case hr => first | (go_simp; done) | (go_simp; rfl)); (case hp => exact (Reps.one (show Kd.M (Kd.int .i64) _ _ _ 0 [.int .i64 0] from rfl) (Reps.one (show Kd.M (Kd.int .i64) _ _ _ 0 [.int .i64 0] from rfl) (Reps.one (show Kd.M (Kd.int .i64) _ _ _ 16 [.int .i64 16] from rfl) (Reps.one (show Kd.M (Kd.int .i64) _ _ _ t437 [.int .i64 t437] from rfl) (Reps.none _ _)))))); intro v441 w23 ho24 hb hg_ hnew_; clear hg_ hnew_; (first | rw [← Ny440.out] at ho24 | (simp only [Int.reduceToNat] at ho24; rw [← Ny440.out] at ho24)); have HO442 := a_ (Kd.R_lower (Kd.R_new' (Kd.R_new' (Kd.R_new' ho24 (Kd.R_lt (ra_ HO419.out))) (Kd.R_lt (ra_ HO422.out))) (Kd.R_lt (ra_ HO425.out))) (keep_size (w := w) (g := g) (row := none) z13_)); replace HO419 := a_ (Kd.R_elder' (ra_ HO419.out) (Kd.R_base ho24) hb); replace HO422 := a_ (Kd.R_elder' (ra_ HO422.out) (Kd.R_base ho24) hb); replace HO425 := a_ (Kd.R_elder' (ra_ HO425.out) (Kd.R_base ho24) hb); replace BK409 := a_ (blk_below (g := gb409) (rb_ BK409.out) hb); replace BK427 := a_ (blk_below (g := gb427) (rb_ BK427.out) hb); replace HK := a_ (KeepBut.trans z13_ (KeepBut.of_below hb g none) (.inl rfl)); replace HB := a_ (below_step z8_ hb); replace HI0 := a_ (IsS84.below z6_ hb); clear hb ho24; obtain ⟨Ao25, co25, eo25⟩ := Kd.R_slice HO442.out; subst eo25) | ((with_reducible refine gate_callee (f := 76) rfl ?_); refine goesL_ (some 38) rfl rfl Try.func76 (by kernel_rfl) rfl #[.pointer (some ⟨g, 0, none⟩), .slice Ao25 y440.length co25] rfl z57_ ?_; (with_reducible refine (spec_l01Pick.calls g s0_0 t438 t439 _ _ y440 t443 t444 t445 w0 _ ?side1 ?side2 ?side3 ?side4 ?side5 A6.out).mono ?_); (case side1 => exact z6_); (case side2 => exact z8_); (case side3 => exact (by (repeat (first | exact (Kd.R_reads' HO442.out).2.2 | (with_reducible refine Kd.C_alloc ?_ _) | (with_reducible refine Kd.C_drewN ?_ _) | (with_reducible refine Kd.C_drew ?_))); first | done | fail)); (case side4 => exact (Kd.R_reads' HO442.out).2.1); (case side5 => exact far_slice (IsS84.own_ne HI0.out HO442.out (by decide))); rintro e w26 ⟨rfl, hi, hb, hk⟩; refine ⟨_, rfl, ?_⟩; replace BK409 := a_ (KeepBut.blk hk (g' := gb409) (rb_ BK409.out) NB409_0.out (by simp)); replace HO419 := a_ (Kd.R_mono (Kd.R_keep (IsS84.apart (show IsS84 w0 _ g s0_0 t438 t439 from z6_) (ra_ HO419.out) (by decide)) hk (fun _ h => h.2)) (fun _ h => h.1)); replace HO422 := a_ (Kd.R_mono (Kd.R_keep (IsS84.apart (show IsS84 w0 _ g s0_0 t438 t439 from z6_) (ra_ HO422.out) (by decide)) hk (fun _ h => h.2)) (fun _ h => h.1)); replace HO425 := a_ (Kd.R_mono (Kd.R_keep (IsS84.apart (show IsS84 w0 _ g s0_0 t438 t439 from z6_) (ra_ HO425.out) (by decide)) hk (fun _ h => h.2)) (fun _ h => h.1)); replace BK427 := a_ (KeepBut.blk hk (g' := gb427) (rb_ BK427.out) NB427_0.out (by simp)); replace HO442 := a_ (Kd.R_mono (Kd.R_keep (IsS84.apart (show IsS84 w0 _ g s0_0 t438 t439 from z6_) (ra_ HO442.out) (by decide)) hk (fun _ h => h.2)) (fun _ h => h.1)); replace HK := a_ (KeepBut.trans z13_ hk (.inl rfl)); replace HB := a_ (hb); replace HI0 := a_ (hi); (try clear hb); (try clear hb2); (try clear hk); (try clear hi); obtain ⟨hcz27_0, hcz27_1, hcz27_2, hcz27_3, hcz27_4, hfz27_0, hfz27_1, hfz27_2, hfz27_3, hfz27_4⟩ := cz5_ (w := w26) BK427.out) | ((with_reducible refine gate_callee (f := 52) rfl ?_); refine goesL_ (some 42) rfl rfl Try.func52 (by kernel_rfl) rfl #[.slice Ao19 t417.length co19, .int .i64 t443] rfl z57_ ?_; (with_reducible refine (spec_l05Shift.calls k _ _ t417 t443 t446 _ ?side1 ?side2 A7.out).mono ?_); (case side1 => exact (by (repeat (first | exact (Kd.R_reads' HO419.out).2.2 | (with_reducible refine Kd.C_alloc ?_ _) | (with_reducible refine Kd.C_drewN ?_ _) | (with_reducible refine Kd.C_drew ?_))); first | done | fail)); (case side2 => exact (Kd.R_reads' HO419.out).2.1); rintro e w28 ⟨v447, rfl, ho0, hb⟩; refine ⟨_, rfl, ?_⟩; have HO448 := a_ (Kd.R_lower (Kd.R_new' (Kd.R_new' (Kd.R_new' (Kd.R_new' ho0 (Kd.R_lt (ra_ HO419.out))) (Kd.R_lt (ra_ HO422.out))) (Kd.R_lt (ra_ HO425.out))) (Kd.R_lt (ra_ HO442.out))) (keep_size (w := w) (g := g) (row := none) z13_)); replace HO419 := a_ (Kd.R_elder' (ra_ HO419.out) (Kd.R_base ho0) hb); replace HO422 := a_ (Kd.R_elder' (ra_ HO422.out) (Kd.R_base ho0) hb); replace HO425 := a_ (Kd.R_elder' (ra_ HO425.out) (Kd.R_base ho0) hb); replace HO442 := a_ (Kd.R_elder' (ra_ HO442.out) (Kd.R_base ho0) hb); replace BK409 := a_ (blk_below (g := gb409) (rb_ BK409.out) hb); replace BK427 := a_ (blk_below (g := gb427) (rb_ BK427.out) hb); replace HK := a_ (KeepBut.trans z13_ (KeepBut.of_below hb g none) (.inl rfl)); replace HB := a_ (below_step z8_ hb); replace HI0 := a_ (IsS84.below z6_ hb); (try clear hb); (try clear hb2); (try clear hk); (try clear hi); (try clear ho0); obtain ⟨Ao29, co29, eo29⟩ := Kd.R_slice HO448.out; subst eo29; obtain ⟨hcz30_0, hcz30_1, hcz30_2, hcz30_3, hcz30_4, hfz30_0, hfz30_1, hfz30_2, hfz30_3, hfz30_4⟩ := cz5_ (w := w28) BK427.out) | ((with_reducible refine gate_callee (f := 52) rfl ?_); refine goesL_ (some 47) rfl rfl Try.func52 (by kernel_rfl) rfl #[.slice Ao20 t420.length co20, .int .i64 t443] rfl z57_ ?_; (with_reducible refine (spec_l05Shift.calls k _ _ t420 t443 t449 _ ?side1 ?side2 A8.out).mono ?_); (case side1 => refine (Kd.R_reads' (e := 2) (base := w.heap.size) (ok := fun k_ => (((nb_ k_ Ao19 t417.length co19 ∧ nb_ k_ Ao21 t423.length co21) ∧ nb_ k_ Ao25 y440.length co25) ∧ nb_ k_ Ao29 t446.length co29)) (n := t420.length) (c := co20) ?_).2.2; exact (rc_ (h := by exact Kd.R_mono (Kd.R_far (p := ⟨gb427, 2, none⟩) (Kd.R_types HO422.out BK427.out (by decide)) (fun _ hk => hk.2) (.slice Ao29 t446.length co29)) (fun _ h_ => h_.1)))); (case side2 => exact (Kd.R_reads' HO422.out).2.1); rintro e w31 ⟨v450, rfl, ho0, hb⟩; refine ⟨_, rfl, ?_⟩; have HO451 := a_ (Kd.R_lower (Kd.R_new' (Kd.R_new' (Kd.R_new' (Kd.R_new' (Kd.R_new' ho0 (Kd.R_lt (rc_ (h := by exact Kd.R_mono (Kd.R_far (p := ⟨gb427, 2, none⟩) (Kd.R_types HO419.out BK427.out (by decide)) (fun _ hk => hk.2) (.slice Ao29 t446.length co29)) (fun _ h_ => h_.1))))) (Kd.R_lt (rc_ (h := by exact Kd.R_mono (Kd.R_far (p := ⟨gb427, 2, none⟩) (Kd.R_types HO422.out BK427.out (by decide)) (fun _ hk => hk.2) (.slice Ao29 t446.length co29)) (fun _ h_ => h_.1))))) (Kd.R_lt (rc_ (h := by exact Kd.R_mono (Kd.R_far (p := ⟨gb427, 2, none⟩) (Kd.R_types HO425.out BK427.out (by decide)) (fun _ hk => hk.2) (.slice Ao29 t446.length co29)) (fun _ h_ => h_.1))))) (Kd.R_lt (rc_ (h := by exact Kd.R_mono (Kd.R_far (p := ⟨gb427, 2, none⟩) (Kd.R_types HO442.out BK427.out (by decide)) (fun _ hk => hk.2) (.slice Ao29 t446.length co29)) (fun _ h_ => h_.1))))) (Kd.R_lt (rc_ (h := by exact Kd.R_mono (Kd.R_far (p := ⟨gb427, 2, none⟩) (Kd.R_types HO448.out BK427.out (by decide)) (fun _ hk => hk.2) (.slice Ao29 t446.length co29)) (fun _ h_ => h_.1))))) (keep_size (w := w) (g := g) (row := none) z13_)); replace HO419 := a_ (Kd.R_elder' (rc_ (h := by exact Kd.R_mono (Kd.R_far (p := ⟨gb427, 2, none⟩) (Kd.R_types HO419.out BK427.out (by decide)) (fun _ hk => hk.2) (.slice Ao29 t446.length co29)) (fun _ h_ => h_.1))) (Kd.R_base ho0) hb); replace HO422 := a_ (Kd.R_elder' (rc_ (h := by exact Kd.R_mono (Kd.R_far (p := ⟨gb427, 2, none⟩) (Kd.R_types HO422.out BK427.out (by decide)) (fun _ hk => hk.2) (.slice Ao29 t446.length co29)) (fun _ h_ => h_.1))) (Kd.R_base ho0) hb); replace HO425 := a_ (Kd.R_elder' (rc_ (h := by exact Kd.R_mono (Kd.R_far (p := ⟨gb427, 2, none⟩) (Kd.R_types HO425.out BK427.out (by decide)) (fun _ hk => hk.2) (.slice Ao29 t446.length co29)) (fun _ h_ => h_.1))) (Kd.R_base ho0) hb); replace HO442 := a_ (Kd.R_elder' (rc_ (h := by exact Kd.R_mono (Kd.R_far (p := ⟨gb427, 2, none⟩) (Kd.R_types HO442.out BK427.out (by decide)) (fun _ hk => hk.2) (.slice Ao29 t446.length co29)) (fun _ h_ => h_.1))) (Kd.R_base ho0) hb); replace HO448 := a_ (Kd.R_elder' (rc_ (h := by exact Kd.R_mono (Kd.R_far (p := ⟨gb427, 2, none⟩) (Kd.R_types HO448.out BK427.out (by decide)) (fun _ hk => hk.2) (.slice Ao29 t446.length co29)) (fun _ h_ => h_.1))) (Kd.R_base ho0) hb); replace BK409 := a_ (blk_below (g := gb409) (o := .cells #[.int .i64 0, .int .i64 0, .slice none 0 0, .slice none 0 0, .slice none 0 0] 27 (0, 0)) (rb2_ (h := by exact bf1_ NB409_427.out BK409.out)) hb); replace BK427 := a_ (blk_below (g := gb427) (o := .cells #[.int .i64 t415, .int .i64 t416, .slice Ao29 t446.length co29, .slice Ao20 t420.length co20, .slice Ao21 t423.length co21] 27 (0, 0)) (by (with_reducible repeat (first | refine blk_drewN ?_ _ | refine blk_drew ?_ | refine blk_alloc ?_ _)); refine blk_put (cs := #[.int .i64 t415, .int .i64 t416, .slice Ao19 t417.length co19, .slice Ao20 t420.length co20, .slice Ao21 t423.length co21]) ?_ 2 _ rfl; (with_reducible repeat (first | refine blk_drewN ?_ _ | refine blk_drew ?_ | refine blk_alloc ?_ _)); exact BK427.out) hb); replace HK := a_ (KeepBut.trans z13_ (KeepBut.of_below hb g none) (.inl rfl)); replace HB := a_ (below_step z8_ hb); replace HI0 := a_ (IsS84.below (show IsS84 w0 (w28.setCell ⟨gb427, 2, none⟩ (.slice Ao29 t446.length co29)) g s0_0 t444 t445 from z6_) hb); (try clear hb); (try clear hb2); (try clear hk); (try clear hi); (try clear ho0); obtain ⟨Ao32, co32, eo32⟩ := Kd.R_slice HO451.out; subst eo32; obtain ⟨hcz33_0, hcz33_1, hcz33_2, hcz33_3, hcz33_4, hfz33_0, hfz33_1, hfz33_2, hfz33_3, hfz33_4⟩ := cz5_ (w := w31) BK427.out) | ((with_reducible refine gate_callee (f := 56) rfl ?_); refine goesL_ (some 53) rfl rfl Try.func56 (by kernel_rfl) rfl #[.pointer (some ⟨g, 0, none⟩), .int .i64 (t446.length : Int)] rfl z57_ ?_; (with_reducible refine (spec_l01Next.calls g s0_0 t444 t445 (t446.length : Int) t452 t453 t454 w0 _ ?side1 ?side2 A9.out).mono ?_); (case side1 => exact z6_); (case side2 => exact z8_); rintro e w34 ⟨rfl, hi, hb, hk⟩; refine ⟨_, rfl, ?_⟩; replace BK409 := a_ (KeepBut.blk hk (g' := gb409) (o := .cells #[.int .i64 0, .int .i64 0, .slice none 0 0, .slice none 0 0, .slice none 0 0] 27 (0, 0)) (rb2_ (h := by exact bf1_ NB409_427.out BK409.out)) NB409_0.out (by simp)); replace HO419 := a_ (Kd.R_mono (Kd.R_keep (IsS84.apart (show IsS84 w0 _ g s0_0 t444 t445 from z6_) (rc_ (h := by exact Kd.R_mono (Kd.R_far (p := ⟨gb427, 3, none⟩) (Kd.R_types HO419.out BK427.out (by decide)) (fun _ hk => hk.2) (.slice Ao32 t449.length co32)) (fun _ h_ => h_.1))) (by decide)) hk (fun _ h => h.2)) (fun _ h => h.1)); replace HO422 := a_ (Kd.R_mono (Kd.R_keep (IsS84.apart (show IsS84 w0 _ g s0_0 t444 t445 from z6_) (rc_ (h := by exact Kd.R_mono (Kd.R_far (p := ⟨gb427, 3, none⟩) (Kd.R_types HO422.out BK427.out (by decide)) (fun _ hk => hk.2) (.slice Ao32 t449.length co32)) (fun _ h_ => h_.1))) (by decide)) hk (fun _ h => h.2)) (fun _ h => h.1)); replace HO425 := a_ (Kd.R_mono (Kd.R_keep (IsS84.apart (show IsS84 w0 _ g s0_0 t444 t445 from z6_) (rc_ (h := by exact Kd.R_mono (Kd.R_far (p := ⟨gb427, 3, none⟩) (Kd.R_types HO425.out BK427.out (by decide)) (fun _ hk => hk.2) (.slice Ao32 t449.length co32)) (fun _ h_ => h_.1))) (by decide)) hk (fun _ h => h.2)) (fun _ h => h.1)); replace HO442 := a_ (Kd.R_mono (Kd.R_keep (IsS84.apart (show IsS84 w0 _ g s0_0 t444 t445 from z6_) (rc_ (h := by exact Kd.R_mono (Kd.R_far (p := ⟨gb427, 3, none⟩) (Kd.R_types HO442.out BK427.out (by decide)) (fun _ hk => hk.2) (.slice Ao32 t449.length co32)) (fun _ h_ => h_.1))) (by decide)) hk (fun _ h => h.2)) (fun _ h => h.1)); replace HO448 := a_ (Kd.R_mono (Kd.R_keep (IsS84.apart (show IsS84 w0 _ g s0_0 t444 t445 from z6_) (rc_ (h := by exact Kd.R_mono (Kd.R_far (p := ⟨gb427, 3, none⟩) (Kd.R_types HO448.out BK427.out (by decide)) (fun _ hk => hk.2) (.slice Ao32 t449.length co32)) (fun _ h_ => h_.1))) (by decide)) hk (fun _ h => h.2)) (fun _ h => h.1)); replace HO451 := a_ (Kd.R_mono (Kd.R_keep (IsS84.apart (show IsS84 w0 _ g s0_0 t444 t445 from z6_) (rc_ (h := by exact Kd.R_mono (Kd.R_far (p := ⟨gb427, 3, none⟩) (Kd.R_types HO451.out BK427.out (by decide)) (fun _ hk => hk.2) (.slice Ao32 t449.length co32)) (fun _ h_ => h_.1))) (by decide)) hk (fun _ h => h.2)) (fun _ h => h.1)); replace BK427 := a_ (KeepBut.blk hk (g' := gb427) (o := .cells #[.int .i64 t415, .int .i64 t416, .slice Ao29 t446.length co29, .slice Ao32 t449.length co32, .slice Ao21 t423.length co21] 27 (0, 0)) (by (with_reducible repeat (first | refine blk_drewN ?_ _ | refine blk_drew ?_ | refine blk_alloc ?_ _)); refine blk_put (cs := #[.int .i64 t415, .int .i64 t416, .slice Ao29 t446.length co29, .slice Ao20 t420.length co20, .slice Ao21 t423.length co21]) ?_ 3 _ rfl; (with_reducible repeat (first | refine blk_drewN ?_ _ | refine blk_drew ?_ | refine blk_alloc ?_ _)); exact BK427.out) NB427_0.out (by simp)); replace HK := a_ (KeepBut.trans z13_ hk (.inl rfl)); replace HB := a_ (hb); replace HI0 := a_ (hi); (try clear hb); (try clear hb2); (try clear hk); (try clear hi)) | ((with_reducible refine gate_callee (f := 56) rfl ?_); refine goesL_ (some 55) rfl rfl Try.func56 (by kernel_rfl) rfl #[.pointer (some ⟨g, 0, none⟩), .int .i64 16] rfl z57_ ?_; (with_reducible refine (spec_l01Next.calls g s0_0 t453 t454 16 t455 t456 t457 w0 _ ?side1 ?side2 A10.out).mono ?_); (case side1 => exact z6_); (case side2 => exact z8_); rintro e w35 ⟨rfl, hi, hb, hk⟩; refine ⟨_, rfl, ?_⟩; replace BK409 := a_ (KeepBut.blk hk (g' := gb409) (rb_ BK409.out) NB409_0.out (by simp)); replace HO419 := a_ (Kd.R_mono (Kd.R_keep (IsS84.apart (show IsS84 w0 _ g s0_0 t453 t454 from z6_) (ra_ HO419.out) (by decide)) hk (fun _ h => h.2)) (fun _ h => h.1)); replace HO422 := a_ (Kd.R_mono (Kd.R_keep (IsS84.apart (show IsS84 w0 _ g s0_0 t453 t454 from z6_) (ra_ HO422.out) (by decide)) hk (fun _ h => h.2)) (fun _ h => h.1)); replace HO425 := a_ (Kd.R_mono (Kd.R_keep (IsS84.apart (show IsS84 w0 _ g s0_0 t453 t454 from z6_) (ra_ HO425.out) (by decide)) hk (fun _ h => h.2)) (fun _ h => h.1)); replace BK427 := a_ (KeepBut.blk hk (g' := gb427) (rb_ BK427.out) NB427_0.out (by simp)); replace HO442 := a_ (Kd.R_mono (Kd.R_keep (IsS84.apart (show IsS84 w0 _ g s0_0 t453 t454 from z6_) (ra_ HO442.out) (by decide)) hk (fun _ h => h.2)) (fun _ h => h.1)); replace HO448 := a_ (Kd.R_mono (Kd.R_keep (IsS84.apart (show IsS84 w0 _ g s0_0 t453 t454 from z6_) (ra_ HO448.out) (by decide)) hk (fun _ h => h.2)) (fun _ h => h.1)); replace HO451 := a_ (Kd.R_mono (Kd.R_keep (IsS84.apart (show IsS84 w0 _ g s0_0 t453 t454 from z6_) (ra_ HO451.out) (by decide)) hk (fun _ h => h.2)) (fun _ h => h.1)); replace HK := a_ (KeepBut.trans z13_ hk (.inl rfl)); replace HB := a_ (hb); replace HI0 := a_ (hi); (try clear hb); (try clear hb2); (try clear hk); (try clear hi)))
  (try simp only [Act.put, List.setIfInBounds_toArray, List.set_cons_zero, List.set_cons_succ])
  go_cut [] (fun wc => ∃ (kq : Nat) (x1001_10 : Int) (x1002_10 : Int) (x428002_10 : List Int) (x428003_10 : List Int) (x428004_10 : List Int) (u428002 : Value) (u428003 : Value) (u428004 : Value), Aside0 (spec_l05Draw.j0 kq t412 s0_0 x1001_10 x1002_10 t415 t416 x428002_10 x428003_10 x428004_10 = some (r1, r2, r3, r4, r5, r6, r7, r8)) ∧ Aside0 (kq ≤ k) ∧ Aside0 (Kd.R (Kd.int .i64) 2 wc w.heap.size (fun k_ => some k_ ≠ (u428003 : Value).ownBlock ∧ some k_ ≠ (u428004 : Value).ownBlock) u428002 x428002_10) ∧ Aside0 (Kd.R (Kd.int .i64) 2 wc w.heap.size (fun k_ => some k_ ≠ (u428002 : Value).ownBlock ∧ some k_ ≠ (u428004 : Value).ownBlock) u428003 x428003_10) ∧ Aside0 (Kd.R (Kd.int .i64) 2 wc w.heap.size (fun k_ => some k_ ≠ (u428002 : Value).ownBlock ∧ some k_ ≠ (u428003 : Value).ownBlock) u428004 x428004_10) ∧ Aside0 (wc.heap[gb409]? = some (.cells #[.int .i64 0, .int .i64 0, (.slice none 0 0), (.slice none 0 0), (.slice none 0 0)] 27 (0, 0))) ∧ Aside0 (wc.heap[gb427]? = some (.cells #[.int .i64 t415, .int .i64 t416, u428002, u428003, u428004] 27 (0, 0))) ∧ Aside0 (IsS84 w0 wc g s0_0 x1001_10 x1002_10) ∧ Aside0 (KeepBut w wc g none) ∧ Aside0 (Below w0.heap.size w0 wc))
  case first =>
   have H := HC11.out
   clear HC11
   by_cases c36 : t455 = 0
   ·rw [if_pos c36] at H
    have c36b0 : (t455 == 0) = true := beq_iff_eq.mpr c36
    have c36b1 : (t455 != 0) = false := bne_eq_false_iff_eq.mpr c36
    clear c36
    (first | rw [c36b0] | (simp only [i64_w, i32_w]; rw [c36b0]) | skip)
    by_cases c37 : 0 ≤ t452
    ·rw [if_pos c37] at H
     have c37b0 : decide (0 ≤ t452) = true := decide_eq_true c37
     clear c37
     by_cases c38 : t452 < (t423.length : Int)
     ·rw [if_pos c38] at H
      have c38b0 : decide (t452 < (t423.length : Int)) = true := decide_eq_true c38
      clear c38
      obtain ⟨y459, hy459⟩ : ∃ y_ : List Int, y_ = (t423.set (t452 : Int).toNat (wrap64 (1 - (rd t423 t452)))) := ⟨_, rfl⟩
      replace H : (spec_l05Draw.j0 k t412 s0_0 t456 t457 t415 t416 t446 t449 y459) = some (r1, r2, r3, r4, r5, r6, r7, r8) := rh_ hy459 H
      have Ny459 := Aside0.mk hy459
      clear hy459
      have H' := Aside0.mk H
      clear H
      try go_wp2
      replace HO419 := a_ (Kd.R_drew HO419.out)
      replace HO422 := a_ (Kd.R_drew HO422.out)
      replace HO425 := a_ (Kd.R_drew HO425.out)
      replace HO442 := a_ (Kd.R_drew HO442.out)
      replace HO448 := a_ (Kd.R_drew HO448.out)
      replace HO451 := a_ (Kd.R_drew HO451.out)
      replace BK409 := a_ (blk_drew BK409.out)
      replace BK427 := a_ (blk_drew BK427.out)
      replace HI0 := a_ (IsS84.drew HI0.out)
      replace HK := a_ (keep_drew HK.out)
      replace HB := a_ (below_drew1 HB.out)
      have p458 : 0 ≤ (t452 : Int) := of_decide_eq_true z90_
      have q458 : t452 < (t423.length : Int) := of_decide_eq_true z90_
      obtain ⟨ad458, e458, hx458_0⟩ := Kd.at_int (Kd.R_reads' HO425.out).2.2 t452 p458 q458
      cases e458
      replace p458 := eq_true p458
      replace q458 := eq_true q458
      have p39 : 0 ≤ (t452 : Int) := of_decide_eq_true z90_
      have q39 : (t452 : Int) < ((t423.length : Int) : Int) := of_decide_eq_true z90_
      obtain ⟨go39, co39, eo39, gb39, gl39, cl39, HG39⟩ := Kd.R_form HO425.out (by omega)
      (first | cases eo39 | (injection eo39 with ea_ en_ ec_; (first | subst ea_ | (injection ea_ with ea_; subst ea_)); subst ec_; clear en_))
      have GB39 := Aside0.mk gb39
      have GG39 := Aside0.mk HG39
      clear gb39 gl39 HG39
      (first | simp only [add_plain] at hx458_0 | skip)
      obtain ⟨hx39_0, hf39_0⟩ := Kd.R_celln 0 HO425.out (t452 : Int) p39 q39
      replace p39 := eq_true p39
      replace q39 := eq_true q39
      have HN0_go39 := a_ (show g ≠ go39 from by have h_ := IsS84.own_ne HI0.out HO425.out (by decide); intro e_; exact h_ (by rw [e_]; rfl))
      have HP41 := Kd.R_putn HO425.out (t452 : Int) (wrap64 (1 - (rd t423 t452)))
      rw [← Ny459.out] at HP41
      have HQ41 := Aside0.mk HP41
      clear HP41
      refine start_ (n := 11) (S := fun w' => w'.cell? ⟨gb427, 0, none⟩ = some (.int .i64 t415) ∧ w'.cell? ⟨gb427, 1, none⟩ = some (.int .i64 t416) ∧ w'.cell? ⟨gb427, 2, none⟩ = some (.slice Ao29 t446.length co29) ∧ w'.cell? ⟨gb427, 3, none⟩ = some (.slice Ao32 t449.length co32) ∧ w'.cell? ⟨gb427, 4, none⟩ = some (.slice (some ⟨go39, 0, none⟩) t423.length co21) ∧ w'.cell? ⟨go39, (t452).toNat, none⟩ = some (.int .i64 (rd t423 t452))) (ds := [10]) #[false, false, false, false, false, false, false, false, false, false, false] (by kernel_rfl) rfl rfl ⟨(blk_cell BK427.out 0).trans rfl, (blk_cell BK427.out 1).trans rfl, (blk_cell BK427.out 2).trans rfl, (blk_cell BK427.out 3).trans rfl, (blk_cell BK427.out 4).trans rfl, hx458_0⟩ (fun hHeld => ?_); refine with_tabW spec_l05Draw.tab11 spec_l05Draw.bits11 (fun HT_ HW_ => ?_)
      generalize w35.drew = w40 at HO419 HO422 HO425 HO442 HO448 HO451 BK409 BK427 HI0 HK HB GG39 HQ41 hf39_0 hx39_0 hx458_0 hHeld ⊢
      refine pu_ (i := 0) (N := some 58) (bs_ 11 1) ?_
      refine pu_ (i := 2) (N := some 60) (bs_ 11 5) ?_
      refine pu_ (i := 3) (N := some 61) (bs_ 11 13) ?_
      refine pu_ (i := 5) (N := some 63) (bs_ 11 45) ?_
      refine tk6_ (i := 1) (N := some 59) (bs_ 11 47) hHeld ?_
      refine tk6_ (i := 4) (N := some 62) (bs_ 11 63) hHeld ?_
      refine pu_ (i := 6) (N := some 64) (bs_ 11 127) ?_
      refine tk6_ (i := 7) (N := some 65) (bs_ 11 255) hHeld ?_
      refine pu_ (i := 8) (N := some 66) (bs_ 11 511) ?_
      refine pu_ (i := 9) (N := some 67) (bs_ 11 1023) ?_
      refine last_ (i := 10) (N := none) (bs_ 11 2047) rfl rfl (one_of HT_.out (by kernel_rfl)) (by decide) (fun K hK => ?_)
      refine skip_ (w1 := ?_) (by rfl) rfl ?_ ?_
      rotate_left
      ·go_simp
       rfl
      refine hK.out _ _ ?_
      clear hK K
      refine done_ (done_of HT_.out (by kernel_rfl)) ?_
      try go_wp2
      go_meet
      case rel => exact ⟨_, (t456), (t457), (t446), (t449), (y459), (.slice Ao29 t446.length co29), (.slice Ao32 t449.length co32), (.slice (some ⟨go39, 0, none⟩) t423.length co21), H', ⟨z93_⟩, ⟨by (with_reducible repeat (first | apply Kd.R_alloc | apply Kd.R_drewN | apply Kd.R_drew)); exact Kd.R_mono (Kd.R_far (p := ⟨go39, (t452 : Int).toNat, none⟩) (Kd.R_mono HO448.out (fun k_ hk => (⟨hk, fun e_ => hk.1.1.2 (by rw [e_]; rfl)⟩ : _ ∧ k_ ≠ go39))) (fun _ hk => hk.2) (.int .i64 (wrap64 (1 - (rd t423 t452))))) (fun _ hk => ⟨hk.1.2, hk.1.1.1.2⟩)⟩, ⟨by (with_reducible repeat (first | apply Kd.R_alloc | apply Kd.R_drewN | apply Kd.R_drew)); exact Kd.R_mono (Kd.R_far (p := ⟨go39, (t452 : Int).toNat, none⟩) (Kd.R_mono HO451.out (fun k_ hk => (⟨hk, fun e_ => hk.1.1.2 (by rw [e_]; rfl)⟩ : _ ∧ k_ ≠ go39))) (fun _ hk => hk.2) (.int .i64 (wrap64 (1 - (rd t423 t452))))) (fun _ hk => ⟨hk.1.2, hk.1.1.1.2⟩)⟩, ⟨by (with_reducible repeat (first | apply Kd.R_alloc | apply Kd.R_drewN | apply Kd.R_drew)); exact Kd.R_mono HQ41.out (fun _ hk => ⟨hk.1.2, hk.2⟩)⟩, ⟨by (with_reducible repeat (first | refine blk_drewN ?_ _ | refine blk_drew ?_ | refine blk_alloc ?_ _)); refine blk_far ?_ (by have h_ := Kd.R_ne HO425.out BK409.out (by decide); intro e_; exact h_ (by rw [e_]; rfl)) _; (with_reducible repeat (first | refine blk_drewN ?_ _ | refine blk_drew ?_ | refine blk_alloc ?_ _)); exact BK409.out⟩, ⟨by (with_reducible repeat (first | refine blk_drewN ?_ _ | refine blk_drew ?_ | refine blk_alloc ?_ _)); refine blk_far ?_ (by have h_ := Kd.R_ne HO425.out BK427.out (by decide); intro e_; exact h_ (by rw [e_]; rfl)) _; (with_reducible repeat (first | refine blk_drewN ?_ _ | refine blk_drew ?_ | refine blk_alloc ?_ _)); exact BK427.out⟩, ⟨by repeat (first | (with_reducible first | exact HI0.out | apply IsS84.alloc | apply IsS84.drewN | apply IsS84.drew | apply IsS84.set_1 | apply IsS84.set_2 | refine IsS84.far ?_ HN0_go39.out _ | refine IsS84.far ?_ NB0_409.out _ | refine IsS84.far ?_ NB0_427.out _) | exact HI0.out)⟩, ⟨by repeat (first | (with_reducible first | exact HK.out | apply KeepBut.set_ | apply keep_drewN | apply keep_drew | apply keep_alloc | refine keep_far ?_ GB39.out _ | refine keep_far ?_ GW409.out _ | refine keep_far ?_ GW427.out _) | exact HK.out)⟩, ⟨by repeat (first | (with_reducible first | exact HB.out | apply below_alloc | apply pw_below_drewN | apply below_drew1 | refine below_set ?_ (Nat.le_trans HL.out GB39.out) | refine below_set ?_ (IsS84.ge HI0.out) | refine below_set ?_ GE409.out | refine below_set ?_ GE427.out) | exact HB.out)⟩⟩
     ·rw [if_neg c38] at H
      exact absurd H (by simp)
    ·rw [if_neg c37] at H
     exact absurd H (by simp)
   ·rw [if_neg c36] at H
    have c36b0 : (t455 == 0) = false := beq_eq_false_iff_ne.mpr c36
    have c36b1 : (t455 != 0) = true := bne_iff_ne.mpr c36
    (first | rw [c36b0] | (simp only [i64_w, i32_w]; rw [c36b0]) | skip)
    by_cases c42 : t455 = 1
    ·rw [if_pos c42] at H
     have c42b0 : (t455 == 1) = true := beq_iff_eq.mpr c42
     have c42b1 : (t455 != 1) = false := bne_eq_false_iff_eq.mpr c42
     clear c42
     by_cases c43 : 0 ≤ t452
     ·rw [if_pos c43] at H
      have c43b0 : decide (0 ≤ t452) = true := decide_eq_true c43
      clear c43
      by_cases c44 : t452 < (t446.length : Int)
      ·rw [if_pos c44] at H
       have c44b0 : decide (t452 < (t446.length : Int)) = true := decide_eq_true c44
       clear c44
       by_cases c45 : t452 < (t449.length : Int)
       ·rw [if_pos c45] at H
        have c45b0 : decide (t452 < (t449.length : Int)) = true := decide_eq_true c45
        clear c45
        obtain ⟨y462, hy462⟩ : ∃ y_ : List Int, y_ = (t446.set (t452 : Int).toNat (rd t449 t452)) := ⟨_, rfl⟩
        replace H : (spec_l05Draw.j0 k t412 s0_0 t456 t457 t415 t416 y462 (t449.set (t452 : Int).toNat (rd t446 t452)) t423) = some (r1, r2, r3, r4, r5, r6, r7, r8) := rh_ hy462 H
        have Ny462 := Aside0.mk hy462
        clear hy462
        obtain ⟨y463, hy463⟩ : ∃ y_ : List Int, y_ = (t449.set (t452 : Int).toNat (rd t446 t452)) := ⟨_, rfl⟩
        replace H : (spec_l05Draw.j0 k t412 s0_0 t456 t457 t415 t416 y462 y463 t423) = some (r1, r2, r3, r4, r5, r6, r7, r8) := rh_ hy463 H
        have Ny463 := Aside0.mk hy463
        clear hy463
        have H' := Aside0.mk H
        clear H
        have hnb48 := NB427_409.out
        have hnc48 := NB409_427.out
        have hnb49 := NB427_0.out
        have hnc49 := NB0_427.out
        obtain ⟨hcz50_0, hcz50_1, hcz50_2, hcz50_3, hcz50_4, hfz50_0, hfz50_1, hfz50_2, hfz50_3, hfz50_4⟩ := cz5_ (w := w35) BK427.out
        have p460 : 0 ≤ (t452 : Int) := of_decide_eq_true z90_
        have q460 : t452 < (t446.length : Int) := of_decide_eq_true z90_
        obtain ⟨ad460, e460, hx460_0⟩ := Kd.at_int (Kd.R_reads' HO448.out).2.2 t452 p460 q460
        cases e460
        replace p460 := eq_true p460
        replace q460 := eq_true q460
        try go_wp2
        replace HO419 := a_ (Kd.R_drew HO419.out)
        replace HO422 := a_ (Kd.R_drew HO422.out)
        replace HO425 := a_ (Kd.R_drew HO425.out)
        replace HO442 := a_ (Kd.R_drew HO442.out)
        replace HO448 := a_ (Kd.R_drew HO448.out)
        replace HO451 := a_ (Kd.R_drew HO451.out)
        replace BK409 := a_ (blk_drew BK409.out)
        replace BK427 := a_ (blk_drew BK427.out)
        replace HI0 := a_ (IsS84.drew HI0.out)
        replace HK := a_ (keep_drew HK.out)
        replace HB := a_ (below_drew1 HB.out)
        have p461 : 0 ≤ (t452 : Int) := of_decide_eq_true z90_
        have q461 : t452 < (t449.length : Int) := of_decide_eq_true z90_
        obtain ⟨ad461, e461, hx461_0⟩ := Kd.at_int (Kd.R_reads' HO451.out).2.2 t452 p461 q461
        cases e461
        replace p461 := eq_true p461
        replace q461 := eq_true q461
        have p46 : 0 ≤ (t452 : Int) := of_decide_eq_true z90_
        have q46 : (t452 : Int) < ((t446.length : Int) : Int) := of_decide_eq_true z90_
        obtain ⟨go46, co46, eo46, gb46, gl46, cl46, HG46⟩ := Kd.R_form HO448.out (by omega)
        (first | cases eo46 | (injection eo46 with ea_ en_ ec_; (first | subst ea_ | (injection ea_ with ea_; subst ea_)); subst ec_; clear en_))
        have GB46 := Aside0.mk gb46
        have GG46 := Aside0.mk HG46
        clear gb46 gl46 HG46
        (first | simp only [add_plain] at hx460_0 | skip)
        obtain ⟨hx46_0, hf46_0⟩ := Kd.R_celln 0 HO448.out (t452 : Int) p46 q46
        replace p46 := eq_true p46
        replace q46 := eq_true q46
        have HN0_go46 := a_ (show g ≠ go46 from by have h_ := IsS84.own_ne HI0.out HO448.out (by decide); intro e_; exact h_ (by rw [e_]; rfl))
        have HP52 := Kd.R_putn HO448.out (t452 : Int) (rd t449 t452)
        rw [← Ny462.out] at HP52
        have HQ52 := Aside0.mk HP52
        clear HP52
        refine start_ (n := 10) (S := fun w' => w'.cell? ⟨gb427, 0, none⟩ = some (.int .i64 t415) ∧ w'.cell? ⟨gb427, 1, none⟩ = some (.int .i64 t416) ∧ w'.cell? ⟨gb427, 2, none⟩ = some (.slice (some ⟨go46, 0, none⟩) t446.length co29) ∧ w'.cell? ⟨gb427, 3, none⟩ = some (.slice (some ad461) t449.length co32) ∧ w'.cell? ⟨gb427, 4, none⟩ = some (.slice Ao21 t423.length co21) ∧ w'.cell? (ad461.add (t452).toNat) = some (.int .i64 (rd t449 t452))) (ds := [9]) #[false, false, false, false, false, false, false, false, false, false] (by kernel_rfl) rfl rfl ⟨(blk_cell BK427.out 0).trans rfl, (blk_cell BK427.out 1).trans rfl, (blk_cell BK427.out 2).trans rfl, (blk_cell BK427.out 3).trans rfl, (blk_cell BK427.out 4).trans rfl, hx461_0⟩ (fun hHeld => ?_); refine with_tabW spec_l05Draw.tab14 spec_l05Draw.bits14 (fun HT_ HW_ => ?_)
        generalize w35.drew = w51 at HO419 HO422 HO425 HO442 HO448 HO451 BK409 BK427 HI0 HK HB GG46 HQ52 hf46_0 hx460_0 hx461_0 hx46_0 hHeld ⊢
        refine pu_ (i := 0) (N := some 75) (bs_ 10 1) ?_
        refine pu_ (i := 2) (N := some 77) (bs_ 10 5) ?_
        refine pu_ (i := 3) (N := some 78) (bs_ 10 13) ?_
        refine pu_ (i := 5) (N := some 80) (bs_ 10 45) ?_
        refine tk6_ (i := 1) (N := some 76) (bs_ 10 47) hHeld ?_
        refine tk6_ (i := 4) (N := some 79) (bs_ 10 63) hHeld ?_
        refine pu_ (i := 6) (N := some 81) (bs_ 10 127) ?_
        refine tk6_ (i := 7) (N := some 82) (bs_ 10 255) hHeld ?_
        refine pu_ (i := 8) (N := some 83) (bs_ 10 511) ?_
        refine last_ (i := 9) (N := none) (bs_ 10 1023) rfl rfl (one_of HT_.out (by kernel_rfl)) (by decide) (fun K hK => ?_)
        refine skip_ (w1 := ?_) (by rfl) rfl ?_ ?_
        rotate_left
        ·go_simp
         rfl
        refine hK.out _ _ ?_
        clear hK K
        refine done_ (done_of HT_.out (by kernel_rfl)) ?_
        have n0_ : Aside0 (Kd.R (Kd.int .i64) 2 (w51.setCell ⟨go46, (t452 : Int).toNat, none⟩ (.int .i64 (rd t449 t452))) w.heap.size (fun k_ => nb_ k_ Ao20 t420.length co20 ∧ nb_ k_ Ao21 t423.length co21 ∧ nb_ k_ Ao25 y440.length co25 ∧ some k_ ≠ (.slice (some ⟨go46, 0, none⟩) t446.length co29 : Value).ownBlock ∧ some k_ ≠ (.slice (some ad461) t449.length co32 : Value).ownBlock) (.slice Ao19 t417.length co19) t417) := ⟨by (with_reducible repeat (first | apply Kd.R_alloc | apply Kd.R_drewN | apply Kd.R_drew)); exact Kd.R_mono (Kd.R_far (p := ⟨go46, (t452 : Int).toNat, none⟩) (Kd.R_mono HO419.out (fun k_ hk => (⟨hk, fun e_ => hk.1.2 (by rw [e_]; rfl)⟩ : _ ∧ k_ ≠ go46))) (fun _ hk => hk.2) (.int .i64 (rd t449 t452))) (fun _ hk => ⟨hk.1.1.1.1.1, ⟨hk.1.1.1.1.2, ⟨hk.1.1.1.2, ⟨hk.1.1.2, hk.1.2⟩⟩⟩⟩)⟩
        have n1_ : Aside0 (Kd.R (Kd.int .i64) 2 (w51.setCell ⟨go46, (t452 : Int).toNat, none⟩ (.int .i64 (rd t449 t452))) w.heap.size (fun k_ => nb_ k_ Ao19 t417.length co19 ∧ nb_ k_ Ao21 t423.length co21 ∧ nb_ k_ Ao25 y440.length co25 ∧ some k_ ≠ (.slice (some ⟨go46, 0, none⟩) t446.length co29 : Value).ownBlock ∧ some k_ ≠ (.slice (some ad461) t449.length co32 : Value).ownBlock) (.slice Ao20 t420.length co20) t420) := ⟨by (with_reducible repeat (first | apply Kd.R_alloc | apply Kd.R_drewN | apply Kd.R_drew)); exact Kd.R_mono (Kd.R_far (p := ⟨go46, (t452 : Int).toNat, none⟩) (Kd.R_mono HO422.out (fun k_ hk => (⟨hk, fun e_ => hk.1.2 (by rw [e_]; rfl)⟩ : _ ∧ k_ ≠ go46))) (fun _ hk => hk.2) (.int .i64 (rd t449 t452))) (fun _ hk => ⟨hk.1.1.1.1.1, ⟨hk.1.1.1.1.2, ⟨hk.1.1.1.2, ⟨hk.1.1.2, hk.1.2⟩⟩⟩⟩)⟩
        have n2_ : Aside0 (Kd.R (Kd.int .i64) 2 (w51.setCell ⟨go46, (t452 : Int).toNat, none⟩ (.int .i64 (rd t449 t452))) w.heap.size (fun k_ => nb_ k_ Ao19 t417.length co19 ∧ nb_ k_ Ao20 t420.length co20 ∧ nb_ k_ Ao25 y440.length co25 ∧ some k_ ≠ (.slice (some ⟨go46, 0, none⟩) t446.length co29 : Value).ownBlock ∧ some k_ ≠ (.slice (some ad461) t449.length co32 : Value).ownBlock) (.slice Ao21 t423.length co21) t423) := ⟨by (with_reducible repeat (first | apply Kd.R_alloc | apply Kd.R_drewN | apply Kd.R_drew)); exact Kd.R_mono (Kd.R_far (p := ⟨go46, (t452 : Int).toNat, none⟩) (Kd.R_mono HO425.out (fun k_ hk => (⟨hk, fun e_ => hk.1.2 (by rw [e_]; rfl)⟩ : _ ∧ k_ ≠ go46))) (fun _ hk => hk.2) (.int .i64 (rd t449 t452))) (fun _ hk => ⟨hk.1.1.1.1.1, ⟨hk.1.1.1.1.2, ⟨hk.1.1.1.2, ⟨hk.1.1.2, hk.1.2⟩⟩⟩⟩)⟩
        have n3_ : Aside0 (Kd.R (Kd.int .i64) 2 (w51.setCell ⟨go46, (t452 : Int).toNat, none⟩ (.int .i64 (rd t449 t452))) w.heap.size (fun k_ => nb_ k_ Ao19 t417.length co19 ∧ nb_ k_ Ao20 t420.length co20 ∧ nb_ k_ Ao21 t423.length co21 ∧ some k_ ≠ (.slice (some ⟨go46, 0, none⟩) t446.length co29 : Value).ownBlock ∧ some k_ ≠ (.slice (some ad461) t449.length co32 : Value).ownBlock) (.slice Ao25 y440.length co25) y440) := ⟨by (with_reducible repeat (first | apply Kd.R_alloc | apply Kd.R_drewN | apply Kd.R_drew)); exact Kd.R_mono (Kd.R_far (p := ⟨go46, (t452 : Int).toNat, none⟩) (Kd.R_mono HO442.out (fun k_ hk => (⟨hk, fun e_ => hk.1.2 (by rw [e_]; rfl)⟩ : _ ∧ k_ ≠ go46))) (fun _ hk => hk.2) (.int .i64 (rd t449 t452))) (fun _ hk => ⟨hk.1.1.1.1.1.2, ⟨hk.1.1.1.1.2, ⟨hk.1.1.1.2, ⟨hk.1.1.2, hk.1.2⟩⟩⟩⟩)⟩
        have n4_ : Aside0 (Kd.R (Kd.int .i64) 2 (w51.setCell ⟨go46, (t452 : Int).toNat, none⟩ (.int .i64 (rd t449 t452))) w.heap.size (fun k_ => nb_ k_ Ao19 t417.length co19 ∧ nb_ k_ Ao20 t420.length co20 ∧ nb_ k_ Ao21 t423.length co21 ∧ nb_ k_ Ao25 y440.length co25 ∧ some k_ ≠ (.slice (some ad461) t449.length co32 : Value).ownBlock) (.slice (some ⟨go46, 0, none⟩) t446.length co29) y462) := ⟨by (with_reducible repeat (first | apply Kd.R_alloc | apply Kd.R_drewN | apply Kd.R_drew)); exact Kd.R_mono HQ52.out (fun _ hk => ⟨hk.1.1.1.1.2, ⟨hk.1.1.1.2, ⟨hk.1.1.2, ⟨hk.1.2, hk.2⟩⟩⟩⟩)⟩
        have n5_ : Aside0 (Kd.R (Kd.int .i64) 2 (w51.setCell ⟨go46, (t452 : Int).toNat, none⟩ (.int .i64 (rd t449 t452))) w.heap.size (fun k_ => nb_ k_ Ao19 t417.length co19 ∧ nb_ k_ Ao20 t420.length co20 ∧ nb_ k_ Ao21 t423.length co21 ∧ nb_ k_ Ao25 y440.length co25 ∧ some k_ ≠ (.slice (some ⟨go46, 0, none⟩) t446.length co29 : Value).ownBlock) (.slice (some ad461) t449.length co32) t449) := ⟨by (with_reducible repeat (first | apply Kd.R_alloc | apply Kd.R_drewN | apply Kd.R_drew)); exact Kd.R_mono (Kd.R_far (p := ⟨go46, (t452 : Int).toNat, none⟩) (Kd.R_mono HO451.out (fun k_ hk => (⟨hk, fun e_ => hk.2 (by rw [e_]; rfl)⟩ : _ ∧ k_ ≠ go46))) (fun _ hk => hk.2) (.int .i64 (rd t449 t452))) (fun _ hk => ⟨hk.1.1.1.1.1.2, ⟨hk.1.1.1.1.2, ⟨hk.1.1.1.2, ⟨hk.1.1.2, hk.1.2⟩⟩⟩⟩)⟩
        have n6_ : Aside0 ((w51.setCell ⟨go46, (t452 : Int).toNat, none⟩ (.int .i64 (rd t449 t452))).heap[gb409]? = some (.cells #[.int .i64 0, .int .i64 0, .slice none 0 0, .slice none 0 0, .slice none 0 0] 27 (0, 0))) := ⟨by (with_reducible repeat (first | refine blk_drewN ?_ _ | refine blk_drew ?_ | refine blk_alloc ?_ _)); refine blk_far ?_ (by have h_ := Kd.R_ne HO448.out BK409.out (by decide); intro e_; exact h_ (by rw [e_]; rfl)) _; (with_reducible repeat (first | refine blk_drewN ?_ _ | refine blk_drew ?_ | refine blk_alloc ?_ _)); exact BK409.out⟩
        have n7_ : Aside0 ((w51.setCell ⟨go46, (t452 : Int).toNat, none⟩ (.int .i64 (rd t449 t452))).heap[gb427]? = some (.cells #[.int .i64 t415, .int .i64 t416, .slice (some ⟨go46, 0, none⟩) t446.length co29, .slice (some ad461) t449.length co32, .slice Ao21 t423.length co21] 27 (0, 0))) := ⟨by (with_reducible repeat (first | refine blk_drewN ?_ _ | refine blk_drew ?_ | refine blk_alloc ?_ _)); refine blk_far ?_ (by have h_ := Kd.R_ne HO448.out BK427.out (by decide); intro e_; exact h_ (by rw [e_]; rfl)) _; (with_reducible repeat (first | refine blk_drewN ?_ _ | refine blk_drew ?_ | refine blk_alloc ?_ _)); exact BK427.out⟩
        have n8_ : Aside0 (IsS84 w0 (w51.setCell ⟨go46, (t452 : Int).toNat, none⟩ (.int .i64 (rd t449 t452))) g s0_0 t456 t457) := ⟨by repeat (first | (with_reducible first | exact HI0.out | apply IsS84.alloc | apply IsS84.drewN | apply IsS84.drew | apply IsS84.set_1 | apply IsS84.set_2 | refine IsS84.far ?_ HN0_go46.out _ | refine IsS84.far ?_ NB0_409.out _ | refine IsS84.far ?_ NB0_427.out _) | exact HI0.out)⟩
        have n9_ : Aside0 (KeepBut w (w51.setCell ⟨go46, (t452 : Int).toNat, none⟩ (.int .i64 (rd t449 t452))) g none) := ⟨by repeat (first | (with_reducible first | exact HK.out | apply KeepBut.set_ | apply keep_drewN | apply keep_drew | apply keep_alloc | refine keep_far ?_ GB46.out _ | refine keep_far ?_ GW409.out _ | refine keep_far ?_ GW427.out _) | exact HK.out)⟩
        have n10_ : Aside0 (Below w0.heap.size w0 (w51.setCell ⟨go46, (t452 : Int).toNat, none⟩ (.int .i64 (rd t449 t452)))) := ⟨by repeat (first | (with_reducible first | exact HB.out | apply below_alloc | apply pw_below_drewN | apply below_drew1 | refine below_set ?_ (Nat.le_trans HL.out GB46.out) | refine below_set ?_ (IsS84.ge HI0.out) | refine below_set ?_ GE409.out | refine below_set ?_ GE427.out) | exact HB.out)⟩
        (try clear HO419)
        (try clear HO422)
        (try clear HO425)
        (try clear HO442)
        (try clear HO448)
        (try clear HO451)
        (try clear BK409)
        (try clear BK427)
        (try clear HI0)
        (try clear HK)
        (try clear HB)
        generalize (w51.setCell ⟨go46, (t452 : Int).toNat, none⟩ (.int .i64 (rd t449 t452))) = w53 at n0_ n1_ n2_ n3_ n4_ n5_ n6_ n7_ n8_ n9_ n10_ ⊢
        have HO419 := n0_
        have HO422 := n1_
        have HO425 := n2_
        have HO442 := n3_
        have HO448 := n4_
        have HO451 := n5_
        have BK409 := n6_
        have BK427 := n7_
        have HI0 := n8_
        have HK := n9_
        have HB := n10_
        clear n0_ n1_ n2_ n3_ n4_ n5_ n6_ n7_ n8_ n9_ n10_
        obtain ⟨hcz54_0, hcz54_1, hcz54_2, hcz54_3, hcz54_4, hfz54_0, hfz54_1, hfz54_2, hfz54_3, hfz54_4⟩ := cz5_ (w := w53) BK427.out
        have p47 : 0 ≤ (t452 : Int) := of_decide_eq_true z90_
        have q47 : (t452 : Int) < ((t449.length : Int) : Int) := of_decide_eq_true z90_
        obtain ⟨go47, co47, eo47, gb47, gl47, cl47, HG47⟩ := Kd.R_form HO451.out (by omega)
        (first | cases eo47 | (injection eo47 with ea_ en_ ec_; (first | subst ea_ | (injection ea_ with ea_; subst ea_)); subst ec_; clear en_))
        have GB47 := Aside0.mk gb47
        have GG47 := Aside0.mk HG47
        clear gb47 gl47 HG47
        (first | simp only [add_plain] at hx461_0 | skip)
        obtain ⟨hx47_0, hf47_0⟩ := Kd.R_celln 0 HO451.out (t452 : Int) p47 q47
        replace p47 := eq_true p47
        replace q47 := eq_true q47
        obtain ⟨hy55_, hz55_⟩ := Kd.R_celln 0 HO451.out (t452 : Int) (of_decide_eq_true z90_) (of_decide_eq_true z90_)
        have HP55 := Kd.R_putg HO451.out (t452 : Int) (rd t446 t452)
        try go_wp2_with (first | ((with_reducible refine gate_store (t := 2) (p := 88) rfl ?_); refine store_event (t := 2) (p := 88) (v := ?vo_w56) (w1 := (w53.setCell ⟨go47, (t452 : Int).toNat, none⟩ (.int .i64 (rd t446 t452)))) ?hg ?ho ?hn ?hr ?_; (case ho => rfl); (case hg => rfl); (case hn => rfl); (case hr => first | (go_simp; done) | (go_simp; rfl)); intro w56 hw; have hg : w53.grownBy w56 (some go47) := (by rw [hw]; exact HP55.2); have hp_ : Kd.R (Kd.int .i64) 2 w56 w.heap.size (fun k_ => nb_ k_ Ao19 t417.length co19 ∧ nb_ k_ Ao20 t420.length co20 ∧ nb_ k_ Ao21 t423.length co21 ∧ nb_ k_ Ao25 y440.length co25 ∧ some k_ ≠ (.slice (some ⟨go46, 0, none⟩) t446.length co29 : Value).ownBlock) (.slice (some ⟨go47, 0, none⟩) t449.length co32) y463 := (by rw [hw, Ny463.out]; exact HP55.1); clear HP55; replace HI0 := a_ (IsS84.grown z6_ hg (IsS84.own_ne HI0.out HO451.out (by decide))); replace BK409 := a_ (blk_grown (g := gb409) (rb_ BK409.out) hg (Kd.R_ne HO451.out BK409.out (by decide))); replace HO419 := a_ (Kd.R_after (v := (.slice (some ⟨go47, 0, none⟩) t449.length co32)) (v1 := (.slice (some ⟨go47, 0, none⟩) t449.length co32)) (ok := (fun k_ => nb_ k_ Ao20 t420.length co20 ∧ nb_ k_ Ao21 t423.length co21 ∧ nb_ k_ Ao25 y440.length co25 ∧ some k_ ≠ (.slice (some ⟨go46, 0, none⟩) t446.length co29 : Value).ownBlock)) (rc_ (h := by exact Kd.R_mono HO419.out (fun _ hk => ⟨⟨hk.1, ⟨hk.2.1, ⟨hk.2.2.1, hk.2.2.2.1⟩⟩⟩, hk.2.2.2.2⟩))) hg (.inl rfl)); replace HO422 := a_ (Kd.R_after (v := (.slice (some ⟨go47, 0, none⟩) t449.length co32)) (v1 := (.slice (some ⟨go47, 0, none⟩) t449.length co32)) (ok := (fun k_ => nb_ k_ Ao19 t417.length co19 ∧ nb_ k_ Ao21 t423.length co21 ∧ nb_ k_ Ao25 y440.length co25 ∧ some k_ ≠ (.slice (some ⟨go46, 0, none⟩) t446.length co29 : Value).ownBlock)) (rc_ (h := by exact Kd.R_mono HO422.out (fun _ hk => ⟨⟨hk.1, ⟨hk.2.1, ⟨hk.2.2.1, hk.2.2.2.1⟩⟩⟩, hk.2.2.2.2⟩))) hg (.inl rfl)); replace HO425 := a_ (Kd.R_after (v := (.slice (some ⟨go47, 0, none⟩) t449.length co32)) (v1 := (.slice (some ⟨go47, 0, none⟩) t449.length co32)) (ok := (fun k_ => nb_ k_ Ao19 t417.length co19 ∧ nb_ k_ Ao20 t420.length co20 ∧ nb_ k_ Ao25 y440.length co25 ∧ some k_ ≠ (.slice (some ⟨go46, 0, none⟩) t446.length co29 : Value).ownBlock)) (rc_ (h := by exact Kd.R_mono HO425.out (fun _ hk => ⟨⟨hk.1, ⟨hk.2.1, ⟨hk.2.2.1, hk.2.2.2.1⟩⟩⟩, hk.2.2.2.2⟩))) hg (.inl rfl)); replace BK427 := a_ (blk_grown (g := gb427) (rb_ BK427.out) hg (Kd.R_ne HO451.out BK427.out (by decide))); replace HO442 := a_ (Kd.R_after (v := (.slice (some ⟨go47, 0, none⟩) t449.length co32)) (v1 := (.slice (some ⟨go47, 0, none⟩) t449.length co32)) (ok := (fun k_ => nb_ k_ Ao19 t417.length co19 ∧ nb_ k_ Ao20 t420.length co20 ∧ nb_ k_ Ao21 t423.length co21 ∧ some k_ ≠ (.slice (some ⟨go46, 0, none⟩) t446.length co29 : Value).ownBlock)) (rc_ (h := by exact Kd.R_mono HO442.out (fun _ hk => ⟨⟨hk.1, ⟨hk.2.1, ⟨hk.2.2.1, hk.2.2.2.1⟩⟩⟩, hk.2.2.2.2⟩))) hg (.inl rfl)); replace HO448 := a_ (Kd.R_after (v := (.slice (some ⟨go47, 0, none⟩) t449.length co32)) (v1 := (.slice (some ⟨go47, 0, none⟩) t449.length co32)) (ok := (fun k_ => nb_ k_ Ao19 t417.length co19 ∧ nb_ k_ Ao20 t420.length co20 ∧ nb_ k_ Ao21 t423.length co21 ∧ nb_ k_ Ao25 y440.length co25)) (rc_ (h := by exact Kd.R_mono HO448.out (fun _ hk => ⟨⟨hk.1, ⟨hk.2.1, ⟨hk.2.2.1, hk.2.2.2.1⟩⟩⟩, hk.2.2.2.2⟩))) hg (.inl rfl)); replace HB := a_ ((by rw [hw]; exact below_set (HB.out) (Nat.le_trans HL.out GB47.out) : Below w0.heap.size w0 w56)); replace HK := a_ (KeepBut.trans z13_ (KeepBut.of_grown hg g) (Kd.R_base2 HO451.out)); replace HO451 := a_ (hp_); clear hg hw hp_))
        go_meet
        case rel => exact ⟨_, (t456), (t457), (y462), (y463), (t423), (.slice (some ⟨go46, 0, none⟩) t446.length co29), (.slice (some ⟨go47, 0, none⟩) t449.length co32), (.slice Ao21 t423.length co21), H', ⟨z93_⟩, ⟨by (with_reducible repeat (first | apply Kd.R_alloc | apply Kd.R_drewN | apply Kd.R_drew)); exact Kd.R_mono HO448.out (fun _ hk => ⟨hk.2, hk.1.2.2.1⟩)⟩, ⟨by (with_reducible repeat (first | apply Kd.R_alloc | apply Kd.R_drewN | apply Kd.R_drew)); exact Kd.R_mono HO451.out (fun _ hk => ⟨hk.2.2.2.2, hk.2.2.1⟩)⟩, ⟨by (with_reducible repeat (first | apply Kd.R_alloc | apply Kd.R_drewN | apply Kd.R_drew)); exact Kd.R_mono HO425.out (fun _ hk => ⟨hk.1.2.2.2, hk.2⟩)⟩, ⟨z66_⟩, ⟨z67_⟩, ⟨z6_⟩, ⟨z13_⟩, ⟨z8_⟩⟩
       ·rw [if_neg c45] at H
        exact absurd H (by simp)
      ·rw [if_neg c44] at H
       exact absurd H (by simp)
     ·rw [if_neg c43] at H
      exact absurd H (by simp)
    ·rw [if_neg c42] at H
     have c42b0 : (t455 == 1) = false := beq_eq_false_iff_ne.mpr c42
     have c42b1 : (t455 != 1) = true := bne_iff_ne.mpr c42
     by_cases c57 : t455 = 2
     ·rw [if_pos c57] at H
      have c57b0 : (t455 == 2) = true := beq_iff_eq.mpr c57
      have c57b1 : (t455 != 2) = false := bne_eq_false_iff_eq.mpr c57
      clear c57
      by_cases c58 : 0 < (t446.length : Int)
      ·rw [if_pos c58] at H
       have c58b0 : decide (0 < (t446.length : Int)) = true := decide_eq_true c58
       have c58b1 : decide (0 < t446.length) = true := decide_eq_true (by omega)
       clear c58
       obtain ⟨y465, hy465⟩ : ∃ y_ : List Int, y_ = (([0, 1, rd t446 0, 1000000000] : List Int)) := ⟨_, rfl⟩
       replace H : ((spec_l01Pick.f s0_0 t456 t457 y465).bind fun bt468 => (if 0 ≤ t452 then (if t452 < (t446.length : Int) then (spec_l05Draw.j0 k t412 s0_0 bt468.2.1 bt468.2.2 t415 t416 (t446.set (t452 : Int).toNat bt468.1) t449 t423) else (none)) else (none))) = some (r1, r2, r3, r4, r5, r6, r7, r8) := rh_ hy465 H
       have Ny465 := Aside0.mk hy465
       clear hy465
       replace H := Option.bind_eq_some_iff.mp H
       obtain ⟨⟨t468, t469, t470⟩, A590, H⟩ := H
       replace H : (if 0 ≤ t452 then (if t452 < (t446.length : Int) then (spec_l05Draw.j0 k t412 s0_0 t469 t470 t415 t416 (t446.set (t452 : Int).toNat t468) t449 t423) else (none)) else (none)) = some (r1, r2, r3, r4, r5, r6, r7, r8) := H
       have A59 := Aside0.mk A590
       clear A590
       by_cases c60 : 0 ≤ t452
       ·rw [if_pos c60] at H
        have c60b0 : decide (0 ≤ t452) = true := decide_eq_true c60
        clear c60
        by_cases c61 : t452 < (t446.length : Int)
        ·rw [if_pos c61] at H
         have c61b0 : decide (t452 < (t446.length : Int)) = true := decide_eq_true c61
         clear c61
         obtain ⟨y471, hy471⟩ : ∃ y_ : List Int, y_ = (t446.set (t452 : Int).toNat t468) := ⟨_, rfl⟩
         replace H : (spec_l05Draw.j0 k t412 s0_0 t469 t470 t415 t416 y471 t449 t423) = some (r1, r2, r3, r4, r5, r6, r7, r8) := rh_ hy471 H
         have Ny471 := Aside0.mk hy471
         clear hy471
         have H' := Aside0.mk H
         clear H
         try go_wp2
         replace HO419 := a_ (Kd.R_drew HO419.out)
         replace HO422 := a_ (Kd.R_drew HO422.out)
         replace HO425 := a_ (Kd.R_drew HO425.out)
         replace HO442 := a_ (Kd.R_drew HO442.out)
         replace HO448 := a_ (Kd.R_drew HO448.out)
         replace HO451 := a_ (Kd.R_drew HO451.out)
         replace BK409 := a_ (blk_drew BK409.out)
         replace BK427 := a_ (blk_drew BK427.out)
         replace HI0 := a_ (IsS84.drew HI0.out)
         replace HK := a_ (keep_drew HK.out)
         replace HB := a_ (below_drew1 HB.out)
         have p464 : 0 ≤ (0 : Int) := (by omega)
         have q464 : 0 < (t446.length : Int) := of_decide_eq_true z90_
         obtain ⟨ad464, e464, hx464_0⟩ := Kd.at_int (Kd.R_reads' HO448.out).2.2 0 p464 q464
         cases e464
         have qi464 : (0 < t446.length) = True := eq_true (by omega)
         (try rw [show ((0 : Int)).toNat = 0 from rfl] at hx464_0)
         (try rw [Addr.add_zero'] at hx464_0)
         replace p464 := eq_true p464
         replace q464 := eq_true q464
         refine start_ (n := 12) (S := fun w' => w'.cell? ⟨gb427, 0, none⟩ = some (.int .i64 t415) ∧ w'.cell? ⟨gb427, 1, none⟩ = some (.int .i64 t416) ∧ w'.cell? ⟨gb427, 2, none⟩ = some (.slice (some ad464) t446.length co29) ∧ w'.cell? ⟨gb427, 3, none⟩ = some (.slice Ao32 t449.length co32) ∧ w'.cell? ⟨gb427, 4, none⟩ = some (.slice Ao21 t423.length co21) ∧ w'.cell? ad464 = some (.int .i64 (rd t446 0))) (ds := [11]) #[false, false, false, false, false, false, false, false, false, false, false, false] (by kernel_rfl) rfl rfl ⟨(blk_cell BK427.out 0).trans rfl, (blk_cell BK427.out 1).trans rfl, (blk_cell BK427.out 2).trans rfl, (blk_cell BK427.out 3).trans rfl, (blk_cell BK427.out 4).trans rfl, hx464_0⟩ (fun hHeld => ?_); refine with_tabW spec_l05Draw.tab17 spec_l05Draw.bits17 (fun HT_ HW_ => ?_)
         generalize w35.drew = w63 at HO419 HO422 HO425 HO442 HO448 HO451 BK409 BK427 HI0 HK HB hx464_0 hHeld ⊢
         refine pu_ (i := 0) (N := some 91) (bs_ 12 1) ?_
         refine pu_ (i := 2) (N := some 93) (bs_ 12 5) ?_
         refine pu_ (i := 3) (N := some 94) (bs_ 12 13) ?_
         refine pu_ (i := 4) (N := some 95) (bs_ 12 29) ?_
         refine tk6_ (i := 1) (N := some 92) (bs_ 12 31) hHeld ?_
         refine tk6_ (i := 5) (N := some 96) (bs_ 12 63) hHeld ?_
         refine pu_ (i := 6) (N := some 97) (bs_ 12 127) ?_
         refine tk6_ (i := 7) (N := some 98) (bs_ 12 255) hHeld ?_
         refine one_ (i := 8) (N := some 99) (bs_ 12 511) rfl rfl (one_of HT_.out (by kernel_rfl)) (by decide) (fun K hK => ?_)
         refine Kd.R_lit_step (Kd.int .i64) _ 2 ?hg (N := 99) ?hd (xs := ([0, 1, rd t446 0, 1000000000] : List Int)) (inner := [.int .i64 0, .int .i64 1, .int .i64 (rd t446 0), .int .i64 1000000000]) (ok := fun _ => True) (okp := fun _ => True) ?hr ?hp (fun _ hk => hk) trivial (Below.refl _ _) (Nat.le_refl _) (by simp) ?_; (case hd => rfl); (case hg => rfl); (case hr => first | (go_simp; done) | (go_simp; rfl)); (case hp => exact (Reps.one (show Kd.M (Kd.int .i64) _ _ _ 0 [.int .i64 0] from rfl) (Reps.one (show Kd.M (Kd.int .i64) _ _ _ 1 [.int .i64 1] from rfl) (Reps.one (show Kd.M (Kd.int .i64) _ _ _ (rd t446 0) [.int .i64 (rd t446 0)] from rfl) (Reps.one (show Kd.M (Kd.int .i64) _ _ _ 1000000000 [.int .i64 1000000000] from rfl) (Reps.none _ _))))))
         intro v466 w64 ho65 hb hg_ hnew_
         have HS5_ := (hb.cell (World.block_lt_of_cell? _ _ (hHeld.2.2.2.2.2))).trans (hHeld.2.2.2.2.2)
         clear hg_ hnew_
         (first | rw [← Ny465.out] at ho65 | (simp only [Int.reduceToNat] at ho65; rw [← Ny465.out] at ho65))
         have HO467 := a_ (Kd.R_lower (Kd.R_new' (Kd.R_new' (Kd.R_new' (Kd.R_new' (Kd.R_new' (Kd.R_new' ho65 (Kd.R_lt (ra_ HO419.out))) (Kd.R_lt (ra_ HO422.out))) (Kd.R_lt (ra_ HO425.out))) (Kd.R_lt (ra_ HO442.out))) (Kd.R_lt (ra_ HO448.out))) (Kd.R_lt (ra_ HO451.out))) (keep_size (w := w) (g := g) (row := none) z13_))
         replace HO419 := a_ (Kd.R_elder' (ra_ HO419.out) (Kd.R_base ho65) hb)
         replace HO422 := a_ (Kd.R_elder' (ra_ HO422.out) (Kd.R_base ho65) hb)
         replace HO425 := a_ (Kd.R_elder' (ra_ HO425.out) (Kd.R_base ho65) hb)
         replace HO442 := a_ (Kd.R_elder' (ra_ HO442.out) (Kd.R_base ho65) hb)
         replace HO448 := a_ (Kd.R_elder' (ra_ HO448.out) (Kd.R_base ho65) hb)
         replace HO451 := a_ (Kd.R_elder' (ra_ HO451.out) (Kd.R_base ho65) hb)
         replace BK409 := a_ (blk_below (g := gb409) (rb_ BK409.out) hb)
         replace BK427 := a_ (blk_below (g := gb427) (rb_ BK427.out) hb)
         replace HK := a_ (KeepBut.trans z13_ (KeepBut.of_below hb g none) (.inl rfl))
         replace HB := a_ (below_step z8_ hb)
         replace HI0 := a_ (IsS84.below z6_ hb)
         clear hb ho65
         obtain ⟨Ao66, co66, eo66⟩ := Kd.R_slice HO467.out
         (first | subst eo66 | (injection eo66 with f1_ f2_ f3_; have f4_ := f1_.symm; have f5_ := f3_.symm; clear f1_ f2_ f3_; subst f4_; subst f5_))
         refine hK.out _ _ ⟨(blk_cell BK427.out 0).trans rfl, (blk_cell BK427.out 1).trans rfl, (blk_cell BK427.out 2).trans rfl, (blk_cell BK427.out 3).trans rfl, (blk_cell BK427.out 4).trans rfl, HS5_⟩ (fun hHeld => ?_)
         clear hK K
         refine nm_ ?_
         refine one_ (i := 9) (N := some 100) (bs_ 12 1023) rfl rfl (one_of HT_.out (by kernel_rfl)) (by decide) (fun K hK => ?_)
         refine goes_ Try.func76 (by kernel_rfl) rfl #[.pointer (some ⟨g, 0, none⟩), .slice Ao66 y465.length co66] (by rfl) rfl rfl z57_ ?_
         with_reducible refine (spec_l01Pick.calls g s0_0 t456 t457 _ _ y465 t468 t469 t470 w0 _ ?side1 ?side2 ?side3 ?side4 ?side5 A59.out).mono ?_
         (case side1 => exact z6_)
         (case side2 => exact z8_)
         (case side3 => exact (by (repeat (first | exact (Kd.R_reads' HO467.out).2.2 | (with_reducible refine Kd.C_alloc ?_ _) | (with_reducible refine Kd.C_drewN ?_ _) | (with_reducible refine Kd.C_drew ?_))); first | done | fail))
         (case side4 => exact (Kd.R_reads' HO467.out).2.1)
         (case side5 => exact far_slice (IsS84.own_ne HI0.out HO467.out (by decide)))
         rintro e w67 ⟨rfl, hi, hb, hk⟩
         have HS5_ := keep_cell hk (hHeld.2.2.2.2.2) (by first | (rw [add_block]; exact Kd.own_blk (IsS84.own_ne HI0.out HO448.out (by decide))) | (show (Addr.add _ _).block ≠ _; rw [add_block]; exact Kd.own_blk (IsS84.own_ne HI0.out HO448.out (by decide))) | exact Kd.own_blk (IsS84.own_ne HI0.out HO448.out (by decide)))
         refine ⟨_, rfl, ?_⟩
         replace BK409 := a_ (KeepBut.blk hk (g' := gb409) (rb_ BK409.out) NB409_0.out (by simp))
         replace HO419 := a_ (Kd.R_mono (Kd.R_keep (IsS84.apart (show IsS84 w0 _ g s0_0 t456 t457 from z6_) (ra_ HO419.out) (by decide)) hk (fun _ h => h.2)) (fun _ h => h.1))
         replace HO422 := a_ (Kd.R_mono (Kd.R_keep (IsS84.apart (show IsS84 w0 _ g s0_0 t456 t457 from z6_) (ra_ HO422.out) (by decide)) hk (fun _ h => h.2)) (fun _ h => h.1))
         replace HO425 := a_ (Kd.R_mono (Kd.R_keep (IsS84.apart (show IsS84 w0 _ g s0_0 t456 t457 from z6_) (ra_ HO425.out) (by decide)) hk (fun _ h => h.2)) (fun _ h => h.1))
         replace BK427 := a_ (KeepBut.blk hk (g' := gb427) (rb_ BK427.out) NB427_0.out (by simp))
         replace HO442 := a_ (Kd.R_mono (Kd.R_keep (IsS84.apart (show IsS84 w0 _ g s0_0 t456 t457 from z6_) (ra_ HO442.out) (by decide)) hk (fun _ h => h.2)) (fun _ h => h.1))
         replace HO448 := a_ (Kd.R_mono (Kd.R_keep (IsS84.apart (show IsS84 w0 _ g s0_0 t456 t457 from z6_) (ra_ HO448.out) (by decide)) hk (fun _ h => h.2)) (fun _ h => h.1))
         replace HO451 := a_ (Kd.R_mono (Kd.R_keep (IsS84.apart (show IsS84 w0 _ g s0_0 t456 t457 from z6_) (ra_ HO451.out) (by decide)) hk (fun _ h => h.2)) (fun _ h => h.1))
         replace HO467 := a_ (Kd.R_mono (Kd.R_keep (IsS84.apart (show IsS84 w0 _ g s0_0 t456 t457 from z6_) (ra_ HO467.out) (by decide)) hk (fun _ h => h.2)) (fun _ h => h.1))
         replace HK := a_ (KeepBut.trans z13_ hk (.inl rfl))
         replace HB := a_ (hb)
         replace HI0 := a_ (hi)
         (try clear hb)
         (try clear hb2)
         (try clear hk)
         (try clear hi)
         have p62 : 0 ≤ (t452 : Int) := of_decide_eq_true z90_
         have q62 : (t452 : Int) < ((t446.length : Int) : Int) := of_decide_eq_true z90_
         obtain ⟨go62, co62, eo62, gb62, gl62, cl62, HG62⟩ := Kd.R_form HO448.out (by omega)
         (first | cases eo62 | (injection eo62 with ea_ en_ ec_; (first | subst ea_ | (injection ea_ with ea_; subst ea_)); subst ec_; clear en_))
         have GB62 := Aside0.mk gb62
         have GG62 := Aside0.mk HG62
         clear gb62 gl62 HG62
         (first | simp only [add_plain] at hx464_0 | skip)
         obtain ⟨hx62_0, hf62_0⟩ := Kd.R_celln 0 HO448.out (t452 : Int) p62 q62
         replace p62 := eq_true p62
         replace q62 := eq_true q62
         have HN0_go62 := a_ (show g ≠ go62 from by have h_ := IsS84.own_ne HI0.out HO448.out (by decide); intro e_; exact h_ (by rw [e_]; rfl))
         have HP68 := Kd.R_putn HO448.out (t452 : Int) t468
         rw [← Ny471.out] at HP68
         have HQ68 := Aside0.mk HP68
         clear HP68
         refine hK.out _ _ ⟨(blk_cell BK427.out 0).trans rfl, (blk_cell BK427.out 1).trans rfl, (blk_cell BK427.out 2).trans rfl, (blk_cell BK427.out 3).trans rfl, (blk_cell BK427.out 4).trans rfl, HS5_⟩ (fun hHeld => ?_)
         clear hK K
         refine nm_ ?_
         refine pu_ (i := 10) (N := some 101) (bs_ 12 2047) ?_
         refine last_ (i := 11) (N := none) (bs_ 12 4095) rfl rfl (one_of HT_.out (by kernel_rfl)) (by decide) (fun K hK => ?_)
         refine skip_ (w1 := ?_) (by rfl) rfl ?_ ?_
         rotate_left
         ·go_simp
          rfl
         refine hK.out _ _ ?_
         clear hK K
         refine done_ (done_of HT_.out (by kernel_rfl)) ?_
         try go_wp2
         go_meet
         case rel => exact ⟨_, (t469), (t470), (y471), (t449), (t423), (.slice (some ⟨go62, 0, none⟩) t446.length co29), (.slice Ao32 t449.length co32), (.slice Ao21 t423.length co21), H', ⟨z93_⟩, ⟨by (with_reducible repeat (first | apply Kd.R_alloc | apply Kd.R_drewN | apply Kd.R_drew)); exact Kd.R_mono HQ68.out (fun _ hk => ⟨hk.1.2, hk.1.1.1.2⟩)⟩, ⟨by (with_reducible repeat (first | apply Kd.R_alloc | apply Kd.R_drewN | apply Kd.R_drew)); exact Kd.R_mono (Kd.R_far (p := ⟨go62, (t452 : Int).toNat, none⟩) (Kd.R_mono HO451.out (fun k_ hk => (⟨hk, fun e_ => hk.1.2 (by rw [e_]; rfl)⟩ : _ ∧ k_ ≠ go62))) (fun _ hk => hk.2) (.int .i64 t468)) (fun _ hk => ⟨hk.1.1.2, hk.1.1.1.1.2⟩)⟩, ⟨by (with_reducible repeat (first | apply Kd.R_alloc | apply Kd.R_drewN | apply Kd.R_drew)); exact Kd.R_mono (Kd.R_far (p := ⟨go62, (t452 : Int).toNat, none⟩) (Kd.R_mono HO425.out (fun k_ hk => (⟨hk, fun e_ => hk.1.1.2 (by rw [e_]; rfl)⟩ : _ ∧ k_ ≠ go62))) (fun _ hk => hk.2) (.int .i64 t468)) (fun _ hk => ⟨hk.1.1.1.2, hk.1.1.2⟩)⟩, ⟨by (with_reducible repeat (first | refine blk_drewN ?_ _ | refine blk_drew ?_ | refine blk_alloc ?_ _)); refine blk_far ?_ (by have h_ := Kd.R_ne HO448.out BK409.out (by decide); intro e_; exact h_ (by rw [e_]; rfl)) _; (with_reducible repeat (first | refine blk_drewN ?_ _ | refine blk_drew ?_ | refine blk_alloc ?_ _)); exact BK409.out⟩, ⟨by (with_reducible repeat (first | refine blk_drewN ?_ _ | refine blk_drew ?_ | refine blk_alloc ?_ _)); refine blk_far ?_ (by have h_ := Kd.R_ne HO448.out BK427.out (by decide); intro e_; exact h_ (by rw [e_]; rfl)) _; (with_reducible repeat (first | refine blk_drewN ?_ _ | refine blk_drew ?_ | refine blk_alloc ?_ _)); exact BK427.out⟩, ⟨by repeat (first | (with_reducible first | exact HI0.out | apply IsS84.alloc | apply IsS84.drewN | apply IsS84.drew | apply IsS84.set_1 | apply IsS84.set_2 | refine IsS84.far ?_ HN0_go62.out _ | refine IsS84.far ?_ NB0_409.out _ | refine IsS84.far ?_ NB0_427.out _) | exact HI0.out)⟩, ⟨by repeat (first | (with_reducible first | exact HK.out | apply KeepBut.set_ | apply keep_drewN | apply keep_drew | apply keep_alloc | refine keep_far ?_ GB62.out _ | refine keep_far ?_ GW409.out _ | refine keep_far ?_ GW427.out _) | exact HK.out)⟩, ⟨by repeat (first | (with_reducible first | exact HB.out | apply below_alloc | apply pw_below_drewN | apply below_drew1 | refine below_set ?_ (Nat.le_trans HL.out GB62.out) | refine below_set ?_ (IsS84.ge HI0.out) | refine below_set ?_ GE409.out | refine below_set ?_ GE427.out) | exact HB.out)⟩⟩
        ·rw [if_neg c61] at H
         exact absurd H (by simp)
       ·rw [if_neg c60] at H
        exact absurd H (by simp)
      ·rw [if_neg c58] at H
       exact absurd H (by simp)
     ·rw [if_neg c57] at H
      have c57b0 : (t455 == 2) = false := beq_eq_false_iff_ne.mpr c57
      have c57b1 : (t455 != 2) = true := bne_iff_ne.mpr c57
      by_cases c69 : t455 = 3
      ·rw [if_pos c69] at H
       have c69b0 : (t455 == 3) = true := beq_iff_eq.mpr c69
       have c69b1 : (t455 != 3) = false := bne_eq_false_iff_eq.mpr c69
       clear c69
       replace H := Option.bind_eq_some_iff.mp H
       obtain ⟨⟨t472, t473, t474⟩, A700, H⟩ := H
       replace H : (if t472 = 0 then (if t423.length < 17592186044416 then (spec_l05Draw.j0 k t412 s0_0 t473 t474 t415 t416 t446 t449 (t423 ++ [0])) else (none)) else (spec_l05Draw.j0 k t412 s0_0 t473 t474 t415 t416 t446 t449 t423)) = some (r1, r2, r3, r4, r5, r6, r7, r8) := H
       have A70 := Aside0.mk A700
       clear A700
       by_cases c71 : t472 = 0
       ·rw [if_pos c71] at H
        have c71b0 : (t472 == 0) = true := beq_iff_eq.mpr c71
        have c71b1 : (t472 != 0) = false := bne_eq_false_iff_eq.mpr c71
        clear c71
        by_cases c72 : t423.length < 17592186044416
        ·rw [if_pos c72] at H
         have LMc72 := Aside0.mk c72
         clear c72
         obtain ⟨y475, hy475⟩ : ∃ y_ : List Int, y_ = (t423 ++ [0]) := ⟨_, rfl⟩
         replace H : (spec_l05Draw.j0 k t412 s0_0 t473 t474 t415 t416 t446 t449 y475) = some (r1, r2, r3, r4, r5, r6, r7, r8) := rh_ hy475 H
         have Ny475 := Aside0.mk hy475
         clear hy475
         have H' := Aside0.mk H
         clear H
         go_wp2_with (first | ((with_reducible refine gate_callee (f := 56) rfl ?_); refine goesL_ (some 105) rfl rfl Try.func56 (by kernel_rfl) rfl #[.pointer (some ⟨g, 0, none⟩), .int .i64 3] rfl z57_ ?_; (with_reducible refine (spec_l01Next.calls g s0_0 t456 t457 3 t472 t473 t474 w0 _ ?side1 ?side2 A70.out).mono ?_); (case side1 => exact z6_); (case side2 => exact z8_); rintro e w73 ⟨rfl, hi, hb, hk⟩; refine ⟨_, rfl, ?_⟩; replace BK409 := a_ (KeepBut.blk hk (g' := gb409) (rb_ BK409.out) NB409_0.out (by simp)); replace HO419 := a_ (Kd.R_mono (Kd.R_keep (IsS84.apart (show IsS84 w0 _ g s0_0 t456 t457 from z6_) (ra_ HO419.out) (by decide)) hk (fun _ h => h.2)) (fun _ h => h.1)); replace HO422 := a_ (Kd.R_mono (Kd.R_keep (IsS84.apart (show IsS84 w0 _ g s0_0 t456 t457 from z6_) (ra_ HO422.out) (by decide)) hk (fun _ h => h.2)) (fun _ h => h.1)); replace HO425 := a_ (Kd.R_mono (Kd.R_keep (IsS84.apart (show IsS84 w0 _ g s0_0 t456 t457 from z6_) (ra_ HO425.out) (by decide)) hk (fun _ h => h.2)) (fun _ h => h.1)); replace BK427 := a_ (KeepBut.blk hk (g' := gb427) (rb_ BK427.out) NB427_0.out (by simp)); replace HO442 := a_ (Kd.R_mono (Kd.R_keep (IsS84.apart (show IsS84 w0 _ g s0_0 t456 t457 from z6_) (ra_ HO442.out) (by decide)) hk (fun _ h => h.2)) (fun _ h => h.1)); replace HO448 := a_ (Kd.R_mono (Kd.R_keep (IsS84.apart (show IsS84 w0 _ g s0_0 t456 t457 from z6_) (ra_ HO448.out) (by decide)) hk (fun _ h => h.2)) (fun _ h => h.1)); replace HO451 := a_ (Kd.R_mono (Kd.R_keep (IsS84.apart (show IsS84 w0 _ g s0_0 t456 t457 from z6_) (ra_ HO451.out) (by decide)) hk (fun _ h => h.2)) (fun _ h => h.1)); replace HK := a_ (KeepBut.trans z13_ hk (.inl rfl)); replace HB := a_ (hb); replace HI0 := a_ (hi); (try clear hb); (try clear hb2); (try clear hk); (try clear hi); have hnb74 := NB427_409.out; have hnc74 := NB409_427.out; have hnb75 := NB427_0.out; have hnc75 := NB0_427.out; obtain ⟨hcz76_0, hcz76_1, hcz76_2, hcz76_3, hcz76_4, hfz76_0, hfz76_1, hfz76_2, hfz76_3, hfz76_4⟩ := cz5_ (w := w73) BK427.out) | ((with_reducible refine gate_builtin (b := .append) (xs := #[.tmp 108, .tmp 109]) rfl ?_); at_builtin; refine Kd.R_append (Kd.int .i64) w.heap.size rfl (.tmp 108) (.tmp 109) 22 2 (.int .i64 0) 8 rfl Try.underlying22 info2 rfl (by decide) (by omega) (.slice Ao21 t423.length co21) t423 0 [.int .i64 0] (fun k_ => nb_ k_ Ao19 t417.length co19 ∧ nb_ k_ Ao20 t420.length co20 ∧ nb_ k_ Ao25 y440.length co25 ∧ nb_ k_ Ao29 t446.length co29 ∧ nb_ k_ Ao32 t449.length co32) (fun _ => False) rfl rfl ?aP (fun _ hk => hk.elim) ?aF ?aO (Below.refl _ _) ?aS ?aL ?_; (case aP => exact rfl); (case aF => exact (fun k_ hk => ⟨Kd.fresh' (Kd.R_lt (ra_ HO419.out)) k_ hk, Kd.fresh' (Kd.R_lt (ra_ HO422.out)) k_ hk, Kd.fresh' (Kd.R_lt (ra_ HO442.out)) k_ hk, Kd.fresh' (Kd.R_lt (ra_ HO448.out)) k_ hk, Kd.fresh' (Kd.R_lt (ra_ HO451.out)) k_ hk⟩)); (case aO => exact (rc_ (h := by exact Kd.R_mono HO425.out (fun _ hk => ⟨hk.1.1.1.1, ⟨hk.1.1.1.2, ⟨hk.1.1.2, ⟨hk.1.2, hk.2⟩⟩⟩⟩)))); (case aS => exact (keep_size (w := w) (g := g) (row := none) z13_)); (case aL => have := LMc72.out; omega); intro v476 w77 ho hb hg hat; rw [← Ny475.out] at ho; replace BK409 := a_ (blk_grown (g := gb409) (rb_ BK409.out) hg (Kd.R_ne HO425.out BK409.out (by decide))); replace HO419 := a_ (Kd.R_after (ok := (fun k_ => nb_ k_ Ao20 t420.length co20 ∧ nb_ k_ Ao25 y440.length co25 ∧ nb_ k_ Ao29 t446.length co29 ∧ nb_ k_ Ao32 t449.length co32)) (rc_ (h := by exact Kd.R_mono HO419.out (fun _ hk => ⟨⟨hk.1.1.1.1, ⟨hk.1.1.2, ⟨hk.1.2, hk.2⟩⟩⟩, hk.1.1.1.2⟩))) hg hat); replace HO422 := a_ (Kd.R_after (ok := (fun k_ => nb_ k_ Ao19 t417.length co19 ∧ nb_ k_ Ao25 y440.length co25 ∧ nb_ k_ Ao29 t446.length co29 ∧ nb_ k_ Ao32 t449.length co32)) (rc_ (h := by exact Kd.R_mono HO422.out (fun _ hk => ⟨⟨hk.1.1.1.1, ⟨hk.1.1.2, ⟨hk.1.2, hk.2⟩⟩⟩, hk.1.1.1.2⟩))) hg hat); replace BK427 := a_ (blk_grown (g := gb427) (rb_ BK427.out) hg (Kd.R_ne HO425.out BK427.out (by decide))); replace HO442 := a_ (Kd.R_after (ok := (fun k_ => nb_ k_ Ao19 t417.length co19 ∧ nb_ k_ Ao20 t420.length co20 ∧ nb_ k_ Ao29 t446.length co29 ∧ nb_ k_ Ao32 t449.length co32)) (rc_ (h := by exact Kd.R_mono HO442.out (fun _ hk => ⟨⟨hk.1.1.1.1.2, ⟨hk.1.1.1.2, ⟨hk.1.2, hk.2⟩⟩⟩, hk.1.1.2⟩))) hg hat); replace HO448 := a_ (Kd.R_after (ok := (fun k_ => nb_ k_ Ao19 t417.length co19 ∧ nb_ k_ Ao20 t420.length co20 ∧ nb_ k_ Ao25 y440.length co25 ∧ nb_ k_ Ao32 t449.length co32)) (rc_ (h := by exact Kd.R_mono HO448.out (fun _ hk => ⟨⟨hk.1.1.1.1.2, ⟨hk.1.1.1.2, ⟨hk.1.2, hk.2⟩⟩⟩, hk.1.1.2⟩))) hg hat); replace HO451 := a_ (Kd.R_after (ok := (fun k_ => nb_ k_ Ao19 t417.length co19 ∧ nb_ k_ Ao20 t420.length co20 ∧ nb_ k_ Ao25 y440.length co25 ∧ nb_ k_ Ao29 t446.length co29)) (rc_ (h := by exact Kd.R_mono HO451.out (fun _ hk => ⟨⟨hk.1.1.1.1.2, ⟨hk.1.1.1.2, ⟨hk.1.2, hk.2⟩⟩⟩, hk.1.1.2⟩))) hg hat); replace HB := a_ (below_weaken z8_ HL.out hb); replace HI0 := a_ (IsS84.grown z6_ hg (IsS84.own_ne HI0.out HO425.out (by decide))); replace HK := a_ (KeepBut.trans z13_ (KeepBut.of_grown hg g) (Kd.R_base2 HO425.out)); have HO477 := a_ (ho); clear HO425; clear ho hb hg hat; obtain ⟨Ao78, co78, eo78⟩ := Kd.R_slice HO477.out; subst eo78; obtain ⟨hcz79_0, hcz79_1, hcz79_2, hcz79_3, hcz79_4, hfz79_0, hfz79_1, hfz79_2, hfz79_3, hfz79_4⟩ := cz5_ (w := w77) BK427.out))
         go_meet
         case rel => exact ⟨_, (t473), (t474), (t446), (t449), (y475), (.slice Ao29 t446.length co29), (.slice Ao32 t449.length co32), (.slice Ao78 y475.length co78), H', ⟨z93_⟩, ⟨by (with_reducible repeat (first | apply Kd.R_alloc | apply Kd.R_drewN | apply Kd.R_drew)); exact Kd.R_mono (Kd.R_far (p := ⟨gb427, 4, none⟩) (Kd.R_types HO448.out BK427.out (by decide)) (fun _ hk => hk.2) (.slice Ao78 y475.length co78)) (fun _ hk => ⟨hk.1.1.2.2.2, hk.1.2⟩)⟩, ⟨by (with_reducible repeat (first | apply Kd.R_alloc | apply Kd.R_drewN | apply Kd.R_drew)); exact Kd.R_mono (Kd.R_far (p := ⟨gb427, 4, none⟩) (Kd.R_types HO451.out BK427.out (by decide)) (fun _ hk => hk.2) (.slice Ao78 y475.length co78)) (fun _ hk => ⟨hk.1.1.2.2.2, hk.1.2⟩)⟩, ⟨by (with_reducible repeat (first | apply Kd.R_alloc | apply Kd.R_drewN | apply Kd.R_drew)); exact Kd.R_mono (Kd.R_far (p := ⟨gb427, 4, none⟩) (Kd.R_types HO477.out BK427.out (by decide)) (fun _ hk => hk.2) (.slice Ao78 y475.length co78)) (fun _ hk => ⟨hk.1.2.2.2.1, hk.1.2.2.2.2⟩)⟩, ⟨(rb2_ (h := by exact bf1_ NB409_427.out BK409.out))⟩, ⟨by (with_reducible repeat (first | refine blk_drewN ?_ _ | refine blk_drew ?_ | refine blk_alloc ?_ _)); refine blk_put (cs := #[.int .i64 t415, .int .i64 t416, .slice Ao29 t446.length co29, .slice Ao32 t449.length co32, .slice Ao21 t423.length co21]) ?_ 4 _ rfl; (with_reducible repeat (first | refine blk_drewN ?_ _ | refine blk_drew ?_ | refine blk_alloc ?_ _)); exact BK427.out⟩, ⟨z6_⟩, ⟨z13_⟩, ⟨z8_⟩⟩
        ·rw [if_neg c72] at H
         exact absurd H (by simp)
       ·rw [if_neg c71] at H
        have c71b0 : (t472 == 0) = false := beq_eq_false_iff_ne.mpr c71
        have c71b1 : (t472 != 0) = true := bne_iff_ne.mpr c71
        have H' := Aside0.mk H
        clear H
        go_wp2_with (first | ((with_reducible refine gate_callee (f := 56) rfl ?_); refine goesL_ (some 105) rfl rfl Try.func56 (by kernel_rfl) rfl #[.pointer (some ⟨g, 0, none⟩), .int .i64 3] rfl z57_ ?_; (with_reducible refine (spec_l01Next.calls g s0_0 t456 t457 3 t472 t473 t474 w0 _ ?side1 ?side2 A70.out).mono ?_); (case side1 => exact z6_); (case side2 => exact z8_); rintro e w80 ⟨rfl, hi, hb, hk⟩; refine ⟨_, rfl, ?_⟩; replace BK409 := a_ (KeepBut.blk hk (g' := gb409) (rb_ BK409.out) NB409_0.out (by simp)); replace HO419 := a_ (Kd.R_mono (Kd.R_keep (IsS84.apart (show IsS84 w0 _ g s0_0 t456 t457 from z6_) (ra_ HO419.out) (by decide)) hk (fun _ h => h.2)) (fun _ h => h.1)); replace HO422 := a_ (Kd.R_mono (Kd.R_keep (IsS84.apart (show IsS84 w0 _ g s0_0 t456 t457 from z6_) (ra_ HO422.out) (by decide)) hk (fun _ h => h.2)) (fun _ h => h.1)); replace HO425 := a_ (Kd.R_mono (Kd.R_keep (IsS84.apart (show IsS84 w0 _ g s0_0 t456 t457 from z6_) (ra_ HO425.out) (by decide)) hk (fun _ h => h.2)) (fun _ h => h.1)); replace BK427 := a_ (KeepBut.blk hk (g' := gb427) (rb_ BK427.out) NB427_0.out (by simp)); replace HO442 := a_ (Kd.R_mono (Kd.R_keep (IsS84.apart (show IsS84 w0 _ g s0_0 t456 t457 from z6_) (ra_ HO442.out) (by decide)) hk (fun _ h => h.2)) (fun _ h => h.1)); replace HO448 := a_ (Kd.R_mono (Kd.R_keep (IsS84.apart (show IsS84 w0 _ g s0_0 t456 t457 from z6_) (ra_ HO448.out) (by decide)) hk (fun _ h => h.2)) (fun _ h => h.1)); replace HO451 := a_ (Kd.R_mono (Kd.R_keep (IsS84.apart (show IsS84 w0 _ g s0_0 t456 t457 from z6_) (ra_ HO451.out) (by decide)) hk (fun _ h => h.2)) (fun _ h => h.1)); replace HK := a_ (KeepBut.trans z13_ hk (.inl rfl)); replace HB := a_ (hb); replace HI0 := a_ (hi); (try clear hb); (try clear hb2); (try clear hk); (try clear hi)))
        go_meet
        case rel => exact ⟨_, (t473), (t474), (t446), (t449), (t423), (.slice Ao29 t446.length co29), (.slice Ao32 t449.length co32), (.slice Ao21 t423.length co21), H', ⟨z93_⟩, ⟨by (with_reducible repeat (first | apply Kd.R_alloc | apply Kd.R_drewN | apply Kd.R_drew)); exact Kd.R_mono HO448.out (fun _ hk => ⟨hk.2, hk.1.1.2⟩)⟩, ⟨by (with_reducible repeat (first | apply Kd.R_alloc | apply Kd.R_drewN | apply Kd.R_drew)); exact Kd.R_mono HO451.out (fun _ hk => ⟨hk.2, hk.1.1.2⟩)⟩, ⟨by (with_reducible repeat (first | apply Kd.R_alloc | apply Kd.R_drewN | apply Kd.R_drew)); exact Kd.R_mono HO425.out (fun _ hk => ⟨hk.1.2, hk.2⟩)⟩, ⟨z66_⟩, ⟨z67_⟩, ⟨z6_⟩, ⟨z13_⟩, ⟨z8_⟩⟩
      ·rw [if_neg c69] at H
       have c69b0 : (t455 == 3) = false := beq_eq_false_iff_ne.mpr c69
       have c69b1 : (t455 != 3) = true := bne_iff_ne.mpr c69
       have H' := Aside0.mk H
       clear H
       go_wp2
       go_meet
       case rel => exact ⟨_, (t456), (t457), (t446), (t449), (t423), (.slice Ao29 t446.length co29), (.slice Ao32 t449.length co32), (.slice Ao21 t423.length co21), H', ⟨z93_⟩, ⟨by (with_reducible repeat (first | apply Kd.R_alloc | apply Kd.R_drewN | apply Kd.R_drew)); exact Kd.R_mono HO448.out (fun _ hk => ⟨hk.2, hk.1.1.2⟩)⟩, ⟨by (with_reducible repeat (first | apply Kd.R_alloc | apply Kd.R_drewN | apply Kd.R_drew)); exact Kd.R_mono HO451.out (fun _ hk => ⟨hk.2, hk.1.1.2⟩)⟩, ⟨by (with_reducible repeat (first | apply Kd.R_alloc | apply Kd.R_drewN | apply Kd.R_drew)); exact Kd.R_mono HO425.out (fun _ hk => ⟨hk.1.2, hk.2⟩)⟩, ⟨z66_⟩, ⟨z67_⟩, ⟨z6_⟩, ⟨z13_⟩, ⟨z8_⟩⟩
  case rest =>
   clear HC11
   obtain ⟨kq, x1001_10, x1002_10, x428002_10, x428003_10, x428004_10, u428002, u428003, u428004, HA, HJ10, HO_428002, HO_428003, HO_428004, BK409, BK427, HI0, HK, HB⟩ := hcut
   cases kq with
   | zero => exact absurd HA.out (by simp [spec_l05Draw.j0])
   | succ kj10 =>
    have H := HA.out
    clear HA
    simp only [spec_l05Draw.j0] at H
    simp only [Option.some.injEq, Prod.mk.injEq] at H
    obtain ⟨rfl, rfl, rfl, rfl, rfl, rfl, rfl, rfl⟩ := H
    have hnb81 := NB427_409.out
    have hnc81 := NB409_427.out
    have hnb82 := NB427_0.out
    have hnc82 := NB0_427.out
    obtain ⟨hcz83_0, hcz83_1, hcz83_2, hcz83_3, hcz83_4, hfz83_0, hfz83_1, hfz83_2, hfz83_3, hfz83_4⟩ := cz5_ (w := wc) BK427.out
    have hnb84 := NB409_0.out
    have hnc84 := NB0_409.out
    obtain ⟨hcz85_0, hcz85_1, hcz85_2, hcz85_3, hcz85_4, hfz85_0, hfz85_1, hfz85_2, hfz85_3, hfz85_4⟩ := cz5_ (w := wc) BK409.out
    obtain ⟨Ao86, co86, eo86⟩ := Kd.R_slice HO_428002.out
    subst eo86
    obtain ⟨Ao87, co87, eo87⟩ := Kd.R_slice HO_428003.out
    subst eo87
    obtain ⟨Ao88, co88, eo88⟩ := Kd.R_slice HO_428004.out
    subst eo88
    go_wp2
    refine bodyPost_ret (results_ct rfl _ _ gb409 27 #[.int .i64 t415, .int .i64 t416, .slice Ao86 x428002_10.length co86, .slice Ao87 x428003_10.length co87, .slice Ao88 x428004_10.length co88] (0, 0) _ rfl (rb2_ (h := by exact bp5_ BK409.out)) Try.underlying27 rfl (by kernel_rfl)) rfl ?_
    exact ⟨_, _, _, z55_, by (with_reducible repeat (first | apply Kd.R_alloc | apply Kd.R_drewN | apply Kd.R_drew)); exact Kd.R_mono (rt5_ HO_428002.out BK409.out) (fun _ hk => ⟨hk.1.1, hk.1.2⟩), by (with_reducible repeat (first | apply Kd.R_alloc | apply Kd.R_drewN | apply Kd.R_drew)); exact Kd.R_mono (rt5_ HO_428003.out BK409.out) (fun _ hk => ⟨hk.1.1, hk.1.2⟩), by (with_reducible repeat (first | apply Kd.R_alloc | apply Kd.R_drewN | apply Kd.R_drew)); exact Kd.R_mono (rt5_ HO_428004.out BK409.out) (fun _ hk => ⟨hk.1.1, hk.1.2⟩), z6_, z8_, z13_⟩
 ·rw [if_neg c4] at H
  have c4b0 : (t426 == 0) = false := beq_eq_false_iff_ne.mpr c4
  have c4b1 : (t426 != 0) = true := bne_iff_ne.mpr c4
  obtain ⟨y428, hy428⟩ : ∃ y_ : List Int, y_ = (([1] : List Int)) := ⟨_, rfl⟩
  replace H : (some (t410, t411, y428, (([2] : List Int)), (([0] : List Int)), t412, t413, t414)) = some (r1, r2, r3, r4, r5, r6, r7, r8) := rh_ hy428 H
  have Ny428 := Aside0.mk hy428
  clear hy428
  obtain ⟨y431, hy431⟩ : ∃ y_ : List Int, y_ = (([2] : List Int)) := ⟨_, rfl⟩
  replace H : (some (t410, t411, y428, y431, (([0] : List Int)), t412, t413, t414)) = some (r1, r2, r3, r4, r5, r6, r7, r8) := rh_ hy431 H
  have Ny431 := Aside0.mk hy431
  clear hy431
  obtain ⟨y434, hy434⟩ : ∃ y_ : List Int, y_ = (([0] : List Int)) := ⟨_, rfl⟩
  replace H : (some (t410, t411, y428, y431, y434, t412, t413, t414)) = some (r1, r2, r3, r4, r5, r6, r7, r8) := rh_ hy434 H
  have Ny434 := Aside0.mk hy434
  clear hy434
  simp only [Option.some.injEq, Prod.mk.injEq] at H
  obtain ⟨rfl, rfl, rfl, rfl, rfl, rfl, rfl, rfl⟩ := H
  go_enter Try.func55, Try.ntmps55
  go_wp2_with (first | ((with_reducible refine gate_dst (N := 2) rfl ?_); refine box_event ?hg (N := 2) ?hd (cs := #[.int .i64 0, .int .i64 0, .slice none 0 0, .slice none 0 0, .slice none 0 0]) (t := 27) ?hr ?_; (case hd => rfl); (case hg => rfl); (case hr => first | (go_simp; done) | (go_simp; rfl)); intro gb409 hg w89 hbox hb; replace HB := a_ (below_step z35_ hb); have BK409 := a_ (hbox); have GW409 := a_ ((z27_ : w.heap.size ≤ gb409)); have GE409 := a_ ((Nat.le_trans HW0.out (z27_ : w.heap.size ≤ gb409) : w0.heap.size ≤ gb409)); replace HK := a_ (KeepBut.trans z52_ (KeepBut.of_below hb g none) (.inl rfl)); have NB0_409 := a_ ((by rw [hg]; exact Nat.ne_of_lt (IsS84.lt (show IsS84 w0 _ g s0_0 s0_1 s0_2 from z36_)) : g ≠ gb409)); have NB409_0 := a_ ((by rw [hg]; exact Nat.ne_of_gt (IsS84.lt (show IsS84 w0 _ g s0_0 s0_1 s0_2 from z36_)) : gb409 ≠ g)); replace HI0 := a_ (IsS84.below z36_ hb); clear hb hbox hg) | ((with_reducible refine gate_callee (f := 74) rfl ?_); refine goesL_ (some 14) rfl rfl Try.func74 (by kernel_rfl) rfl #[.pointer (some ⟨g, 0, none⟩)] rfl z57_ ?_; (with_reducible refine (spec_l04Draw.calls k g s0_0 s0_1 s0_2 t410 t411 t412 t413 t414 w0 _ ?side1 ?side2 A2.out).mono ?_); (case side1 => exact z19_); (case side2 => exact z20_); rintro e w90 ⟨rfl, hi, hb, hk⟩; refine ⟨_, rfl, ?_⟩; replace BK409 := a_ (KeepBut.blk hk (g' := gb409) (rb_ BK409.out) NB409_0.out (by simp)); replace HK := a_ (KeepBut.trans z28_ hk (.inl rfl)); replace HB := a_ (hb); replace HI0 := a_ (hi); (try clear hb); (try clear hb2); (try clear hk); (try clear hi)) | ((with_reducible refine gate_callee (f := 75) rfl ?_); refine goesL_ (some 22) rfl rfl Try.func75 (by kernel_rfl) rfl #[.int .i64 t410, .int .i64 t411, .string t412] rfl z57_ ?_; (with_reducible refine (spec_ImposeSheet.calls k t410 t411 t412 t415 t416 t417 t420 t423 t426 _ A3.out).mono ?_); rintro e w91 ⟨v418, v421, v424, rfl, ho0, ho1, ho2, hb⟩; refine ⟨_, rfl, ?_⟩; have HO419 := a_ (Kd.R_lower ho0 (keep_size (w := w) (g := g) (row := none) z28_)); have HO422 := a_ (Kd.R_lower ho1 (keep_size (w := w) (g := g) (row := none) z28_)); have HO425 := a_ (Kd.R_lower ho2 (keep_size (w := w) (g := g) (row := none) z28_)); replace BK409 := a_ (blk_below (g := gb409) (rb_ BK409.out) hb); replace HK := a_ (KeepBut.trans z28_ (KeepBut.of_below hb g none) (.inl rfl)); replace HB := a_ (below_step z20_ hb); replace HI0 := a_ (IsS84.below z19_ hb); (try clear hb); (try clear hb2); (try clear hk); (try clear hi); (try clear ho0); (try clear ho1); (try clear ho2)) | ((with_reducible refine gate_dst (N := 7) rfl ?_); refine box_event ?hg (N := 7) ?hd (cs := #[.int .i64 0, .int .i64 0, .slice none 0 0, .slice none 0 0, .slice none 0 0]) (t := 27) ?hr ?_; (case hd => rfl); (case hg => rfl); (case hr => first | (go_simp; done) | (go_simp; rfl)); intro gb427 hg w92 hbox hb; replace HO419 := a_ (Kd.R_below (ra_ HO419.out) hb); replace HO422 := a_ (Kd.R_below (ra_ HO422.out) hb); replace HO425 := a_ (Kd.R_below (ra_ HO425.out) hb); replace HB := a_ (below_step z20_ hb); have BK427 := a_ (hbox); have GW427 := a_ ((z12_ : w.heap.size ≤ gb427)); have GE427 := a_ ((Nat.le_trans HW0.out (z12_ : w.heap.size ≤ gb427) : w0.heap.size ≤ gb427)); replace HK := a_ (KeepBut.trans z28_ (KeepBut.of_below hb g none) (.inl rfl)); have NB409_427 := a_ ((by rw [hg]; exact Nat.ne_of_lt (blk_lt (g := gb409) (rb_ BK409.out)) : gb409 ≠ gb427)); have NB427_409 := a_ ((by rw [hg]; exact Nat.ne_of_gt (blk_lt (g := gb409) (rb_ BK409.out)) : gb427 ≠ gb409)); replace BK409 := a_ (blk_below (g := gb409) (rb_ BK409.out) hb); have NB0_427 := a_ ((by rw [hg]; exact Nat.ne_of_lt (IsS84.lt (show IsS84 w0 _ g s0_0 t413 t414 from z19_)) : g ≠ gb427)); have NB427_0 := a_ ((by rw [hg]; exact Nat.ne_of_gt (IsS84.lt (show IsS84 w0 _ g s0_0 t413 t414 from z19_)) : gb427 ≠ g)); replace HI0 := a_ (IsS84.below z19_ hb); clear hb hbox hg; have hnb93 := NB427_409.out; have hnc93 := NB409_427.out; have hnb94 := NB427_0.out; have hnc94 := NB0_427.out; obtain ⟨hcz95_0, hcz95_1, hcz95_2, hcz95_3, hcz95_4, hfz95_0, hfz95_1, hfz95_2, hfz95_3, hfz95_4⟩ := cz5_ (w := w92) BK427.out; obtain ⟨Ao96, co96, eo96⟩ := Kd.R_slice HO419.out; subst eo96; obtain ⟨Ao97, co97, eo97⟩ := Kd.R_slice HO422.out; subst eo97; obtain ⟨Ao98, co98, eo98⟩ := Kd.R_slice HO425.out; subst eo98) | ((with_reducible refine gate_dst (N := 29) rfl ?_); refine Kd.R_lit (Kd.int .i64) _ 2 ?hg (N := 29) ?hd (xs := ([1] : List Int)) (inner := [.int .i64 1]) (ok := fun _ => True) (okp := fun _ => True) ?hr ?hp (fun _ hk => hk) trivial (Below.refl _ _) (Nat.le_refl _) (by simp) ?_; (case hd => rfl); (case hg => rfl); (case hr => first | (go_simp; done) | (go_simp; rfl)); (case hp => exact (Reps.one (show Kd.M (Kd.int .i64) _ _ _ 1 [.int .i64 1] from rfl) (Reps.none _ _))); intro v429 w99 ho100 hb hg_ hnew_; clear hg_ hnew_; (first | rw [← Ny428.out] at ho100 | (simp only [Int.reduceToNat] at ho100; rw [← Ny428.out] at ho100)); have HO430 := a_ (Kd.R_lower (Kd.R_new' (Kd.R_new' (Kd.R_new' ho100 (Kd.R_lt (rc_ (h := by exact Kd.R_mono (rt5_ HO419.out BK427.out) (fun _ h_ => h_.1))))) (Kd.R_lt (rc_ (h := by exact Kd.R_mono (rt5_ HO422.out BK427.out) (fun _ h_ => h_.1))))) (Kd.R_lt (rc_ (h := by exact Kd.R_mono (rt5_ HO425.out BK427.out) (fun _ h_ => h_.1))))) (keep_size (w := w) (g := g) (row := none) z13_)); replace HO419 := a_ (Kd.R_elder' (rc_ (h := by exact Kd.R_mono (rt5_ HO419.out BK427.out) (fun _ h_ => h_.1))) (Kd.R_base ho100) hb); replace HO422 := a_ (Kd.R_elder' (rc_ (h := by exact Kd.R_mono (rt5_ HO422.out BK427.out) (fun _ h_ => h_.1))) (Kd.R_base ho100) hb); replace HO425 := a_ (Kd.R_elder' (rc_ (h := by exact Kd.R_mono (rt5_ HO425.out BK427.out) (fun _ h_ => h_.1))) (Kd.R_base ho100) hb); replace BK409 := a_ (blk_below (g := gb409) (o := .cells #[.int .i64 0, .int .i64 0, .slice none 0 0, .slice none 0 0, .slice none 0 0] 27 (0, 0)) (rb2_ (h := by exact bf5_ NB409_427.out BK409.out)) hb); replace BK427 := a_ (blk_below (g := gb427) (o := .cells #[.int .i64 t415, .int .i64 t416, .slice Ao96 t417.length co96, .slice Ao97 t420.length co97, .slice Ao98 t423.length co98] 27 (0, 0)) (rb2_ (h := by exact bp5_ BK427.out)) hb); replace HK := a_ (KeepBut.trans z13_ (KeepBut.of_below hb g none) (.inl rfl)); replace HB := a_ (below_step z8_ hb); replace HI0 := a_ (IsS84.below (show IsS84 w0 (((((w92.setCell ⟨gb427, 0, none⟩ (.int .i64 t415)).setCell ⟨gb427, 1, none⟩ (.int .i64 t416)).setCell ⟨gb427, 2, none⟩ (.slice Ao96 t417.length co96)).setCell ⟨gb427, 3, none⟩ (.slice Ao97 t420.length co97)).setCell ⟨gb427, 4, none⟩ (.slice Ao98 t423.length co98)) g s0_0 t413 t414 from z6_) hb); clear hb ho100) | ((with_reducible refine gate_dst (N := 30) rfl ?_); refine Kd.R_lit (Kd.int .i64) _ 2 ?hg (N := 30) ?hd (xs := ([2] : List Int)) (inner := [.int .i64 2]) (ok := fun _ => True) (okp := fun _ => True) ?hr ?hp (fun _ hk => hk) trivial (Below.refl _ _) (Nat.le_refl _) (by simp) ?_; (case hd => rfl); (case hg => rfl); (case hr => first | (go_simp; done) | (go_simp; rfl)); (case hp => exact (Reps.one (show Kd.M (Kd.int .i64) _ _ _ 2 [.int .i64 2] from rfl) (Reps.none _ _))); intro v432 w101 ho102 hb hg_ hnew_; clear hg_ hnew_; (first | rw [← Ny431.out] at ho102 | (simp only [Int.reduceToNat] at ho102; rw [← Ny431.out] at ho102)); have HO433 := a_ (Kd.R_lower (Kd.R_new' (Kd.R_new' (Kd.R_new' (Kd.R_new' ho102 (Kd.R_lt (ra_ HO419.out))) (Kd.R_lt (ra_ HO422.out))) (Kd.R_lt (ra_ HO425.out))) (Kd.R_lt (ra_ HO430.out))) (keep_size (w := w) (g := g) (row := none) z13_)); replace HO419 := a_ (Kd.R_elder' (ra_ HO419.out) (Kd.R_base ho102) hb); replace HO422 := a_ (Kd.R_elder' (ra_ HO422.out) (Kd.R_base ho102) hb); replace HO425 := a_ (Kd.R_elder' (ra_ HO425.out) (Kd.R_base ho102) hb); replace HO430 := a_ (Kd.R_elder' (ra_ HO430.out) (Kd.R_base ho102) hb); replace BK409 := a_ (blk_below (g := gb409) (rb_ BK409.out) hb); replace BK427 := a_ (blk_below (g := gb427) (rb_ BK427.out) hb); replace HK := a_ (KeepBut.trans z13_ (KeepBut.of_below hb g none) (.inl rfl)); replace HB := a_ (below_step z8_ hb); replace HI0 := a_ (IsS84.below z6_ hb); clear hb ho102) | ((with_reducible refine gate_dst (N := 31) rfl ?_); refine Kd.R_lit (Kd.int .i64) _ 2 ?hg (N := 31) ?hd (xs := ([0] : List Int)) (inner := [.int .i64 0]) (ok := fun _ => True) (okp := fun _ => True) ?hr ?hp (fun _ hk => hk) trivial (Below.refl _ _) (Nat.le_refl _) (by simp) ?_; (case hd => rfl); (case hg => rfl); (case hr => first | (go_simp; done) | (go_simp; rfl)); (case hp => exact (Reps.one (show Kd.M (Kd.int .i64) _ _ _ 0 [.int .i64 0] from rfl) (Reps.none _ _))); intro v435 w103 ho104 hb hg_ hnew_; clear hg_ hnew_; (first | rw [← Ny434.out] at ho104 | (simp only [Int.reduceToNat] at ho104; rw [← Ny434.out] at ho104)); have HO436 := a_ (Kd.R_lower (Kd.R_new' (Kd.R_new' (Kd.R_new' (Kd.R_new' (Kd.R_new' ho104 (Kd.R_lt (ra_ HO419.out))) (Kd.R_lt (ra_ HO422.out))) (Kd.R_lt (ra_ HO425.out))) (Kd.R_lt (ra_ HO430.out))) (Kd.R_lt (ra_ HO433.out))) (keep_size (w := w) (g := g) (row := none) z13_)); replace HO419 := a_ (Kd.R_elder' (ra_ HO419.out) (Kd.R_base ho104) hb); replace HO422 := a_ (Kd.R_elder' (ra_ HO422.out) (Kd.R_base ho104) hb); replace HO425 := a_ (Kd.R_elder' (ra_ HO425.out) (Kd.R_base ho104) hb); replace HO430 := a_ (Kd.R_elder' (ra_ HO430.out) (Kd.R_base ho104) hb); replace HO433 := a_ (Kd.R_elder' (ra_ HO433.out) (Kd.R_base ho104) hb); replace BK409 := a_ (blk_below (g := gb409) (rb_ BK409.out) hb); replace BK427 := a_ (blk_below (g := gb427) (rb_ BK427.out) hb); replace HK := a_ (KeepBut.trans z13_ (KeepBut.of_below hb g none) (.inl rfl)); replace HB := a_ (below_step z8_ hb); replace HI0 := a_ (IsS84.below z6_ hb); clear hb ho104; obtain ⟨Ao105, co105, eo105⟩ := Kd.R_slice HO436.out; subst eo105; obtain ⟨Ao106, co106, eo106⟩ := Kd.R_slice HO433.out; subst eo106; obtain ⟨Ao107, co107, eo107⟩ := Kd.R_slice HO430.out; subst eo107; have hnb108 := NB409_0.out; have hnc108 := NB0_409.out; obtain ⟨hcz109_0, hcz109_1, hcz109_2, hcz109_3, hcz109_4, hfz109_0, hfz109_1, hfz109_2, hfz109_3, hfz109_4⟩ := cz5_ (w := w103) BK409.out))
  refine bodyPost_ret (results_ct rfl _ _ gb409 27 #[.int .i64 t410, .int .i64 t411, .slice Ao107 y428.length co107, .slice Ao106 y431.length co106, .slice Ao105 y434.length co105] (0, 0) _ rfl (rb2_ (h := by exact bp5_ BK409.out)) Try.underlying27 rfl (by kernel_rfl)) rfl ?_
  exact ⟨_, _, _, z55_, by (with_reducible repeat (first | apply Kd.R_alloc | apply Kd.R_drewN | apply Kd.R_drew)); exact Kd.R_mono (rt5_ HO430.out BK409.out) (fun _ hk => ⟨hk.1.1.2, hk.1.2⟩), by (with_reducible repeat (first | apply Kd.R_alloc | apply Kd.R_drewN | apply Kd.R_drew)); exact Kd.R_mono (rt5_ HO433.out BK409.out) (fun _ hk => ⟨hk.1.1.2, hk.1.2⟩), by (with_reducible repeat (first | apply Kd.R_alloc | apply Kd.R_drewN | apply Kd.R_drew)); exact Kd.R_mono (rt5_ HO436.out BK409.out) (fun _ hk => ⟨hk.1.1.2, hk.1.2⟩), z6_, z8_, z13_⟩

end Go.Proofs.Ytkpidjmhdagkfaa.QFnPagePlaces
-- halved
