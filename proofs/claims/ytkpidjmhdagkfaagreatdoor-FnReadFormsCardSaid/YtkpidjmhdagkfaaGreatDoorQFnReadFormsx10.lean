-- Written by own_print.py of this session's repo over the kit's print (its output, turned at some places).
import Derived.Test.YtkpidjmhdagkfaaGreatDoorQFnReadFormsx0
import Derived.Test.YtkpidjmhdagkfaaGreatDoorQFnReadFormsx7
import Derived.Test.YtkpidjmhdagkfaaGreatDoorQFnReadFormsx8
import Derived.Test.YtkpidjmhdagkfaaGreatDoorQFnReadFormsx9
namespace Go.Proofs.YtkpidjmhdagkfaaGreatDoor.QFnReadForms
open Go.RowKit Go.Proofs.YtkpidjmhdagkfaaGreatDoorW.PrintWords Go.Proofs.YtkpidjmhdagkfaaGreatDoorW.PrintLast Go.Proofs.YtkpidjmhdagkfaaGreatDoorW.PrintMore
attribute [local go_sem] ik iq iR iT gD gF il iw
set_option maxHeartbeats 8000000
set_option maxRecDepth 100000
set_option linter.unusedVariables false
set_option linter.unusedSimpArgs false
def aK.j0 : Nat → ByteArray → List Int → Int → Int → Int → Int → List Int → List Int → List Int → Option (Int × Int × List Int × List Int × List Int × ByteArray × Int × Int)
 | 0, _, _, _, _, _, _, _, _, _ => none
 | k + 1, x6, x1000, x1001, x1002, x505000, x505001, x505002, x505003, x505004 => some (x505000, x505001, x505002, x505003, x505004, x6, x1001, x1002)
def aK.f (k : Nat) (s0_0 : List Int) (s0_1 : Int) (s0_2 : Int) : Option (Int × Int × List Int × List Int × List Int × ByteArray × Int × Int) := (cZ.f k s0_0 s0_1 s0_2).bind fun bt487 => ((dG.f k bt487.1 bt487.2.1 bt487.2.2.1).bind fun bt492 => (if bt492.2.2.2.2.2 = 0 then ((aT.f s0_0 bt487.2.2.2.1 bt487.2.2.2.2 200).bind fun bt514 => ((eu.f s0_0 bt514.2.1 bt514.2.2 (([0, 0, 16, bt514.1] : List Int))).bind fun bt520 => ((bY.f k bt492.2.2.1 bt520.1).bind fun t523 => ((bY.f k bt492.2.2.2.1 bt520.1).bind fun t526 => ((aT.f s0_0 bt520.2.1 bt520.2.2 (t523.length : Int)).bind fun bt529 => ((aT.f s0_0 bt529.2.1 bt529.2.2 16).bind fun bt532 => (if bt532.1 = 0 then (if 0 ≤ bt529.1 then (if bt529.1 < (bt492.2.2.2.2.1.length : Int) then (aK.j0 k bt487.2.2.1 s0_0 bt532.2.1 bt532.2.2 bt492.1 bt492.2.1 t523 t526 (bt492.2.2.2.2.1.set (bt529.1 : Int).toNat (wrap64 (1 - (rd bt492.2.2.2.2.1 bt529.1))))) else (none)) else (none)) else (if bt532.1 = 1 then (if 0 ≤ bt529.1 then (if bt529.1 < (t523.length : Int) then (if bt529.1 < (t526.length : Int) then (aK.j0 k bt487.2.2.1 s0_0 bt532.2.1 bt532.2.2 bt492.1 bt492.2.1 (t523.set (bt529.1 : Int).toNat (rd t526 bt529.1)) (t526.set (bt529.1 : Int).toNat (rd t523 bt529.1)) bt492.2.2.2.2.1) else (none)) else (none)) else (none)) else (if bt532.1 = 2 then (if 0 < (t523.length : Int) then ((eu.f s0_0 bt532.2.1 bt532.2.2 (([0, 1, rd t523 0, 1000000000] : List Int))).bind fun bt545 => (if 0 ≤ bt529.1 then (if bt529.1 < (t523.length : Int) then (aK.j0 k bt487.2.2.1 s0_0 bt545.2.1 bt545.2.2 bt492.1 bt492.2.1 (t523.set (bt529.1 : Int).toNat bt545.1) t526 bt492.2.2.2.2.1) else (none)) else (none))) else (none)) else (if bt532.1 = 3 then ((aT.f s0_0 bt532.2.1 bt532.2.2 3).bind fun bt549 => (if bt549.1 = 0 then (if bt492.2.2.2.2.1.length < 17592186044416 then (aK.j0 k bt487.2.2.1 s0_0 bt549.2.1 bt549.2.2 bt492.1 bt492.2.1 t523 t526 (bt492.2.2.2.2.1 ++ [0])) else (none)) else (aK.j0 k bt487.2.2.1 s0_0 bt549.2.1 bt549.2.2 bt492.1 bt492.2.1 t523 t526 bt492.2.2.2.2.1))) else (aK.j0 k bt487.2.2.1 s0_0 bt532.2.1 bt532.2.2 bt492.1 bt492.2.1 t523 t526 bt492.2.2.2.2.1))))))))))) else (some (bt487.1, bt487.2.1, (([1] : List Int)), (([2] : List Int)), (([0] : List Int)), bt487.2.2.1, bt487.2.2.2.1, bt487.2.2.2.2))))
theorem aK.di : ∀ k, (∀ y0 y1 y2 y3 y4 y5 y6 y7 y8, LeO (aK.j0 k y0 y1 y2 y3 y4 y5 y6 y7 y8) (aK.j0 (k + 1) y0 y1 y2 y3 y4 y5 y6 y7 y8))
 | 0 => fun _ _ _ _ _ _ _ _ _ r h => by simp [aK.j0] at h
 | k + 1 => by
  have ih0 := aK.di k
  ·intro y0 y1 y2 y3 y4 y5 y6 y7 y8
   unfold aK.j0
   repeat' first | (with_reducible first | exact ih0 .. | exact dG.mono .. | exact cZ.mono .. | exact bY.mono .. | exact LeO.refl .. | exact LeO.none .. | refine LeO.ite ?_ ?_ | refine LeO.bind ?_ (fun _ => ?_))
theorem aK.mono : ∀ a0 a1 a2 k, LeO (aK.f k a0 a1 a2) (aK.f (k + 1) a0 a1 a2) := by
 intro a0 a1 a2 k
 have ih0 := aK.di k
 unfold aK.f
 repeat' first | (with_reducible first | exact ih0 .. | exact dG.mono .. | exact cZ.mono .. | exact bY.mono .. | exact LeO.refl .. | exact LeO.none .. | refine LeO.ite ?_ ?_ | refine LeO.bind ?_ (fun _ => ?_))
def aK.T11 : Bool × List (List Nat × List Nat) := (true, [([], []), ([0], [0]), ([], []), ([], []), ([3], [3]), ([], []), ([4, 5], [4, 5]), ([6], [6]), ([7], [7]), ([1, 2, 0, 1, 2, 3, 4, 5, 6, 7, 8], [1, 2]), ([9, 8, 0, 1, 2, 3, 4, 5, 6, 7, 8], [8, 9])])
def aK.B11 : List Nat := [0, 1, 0, 0, 8, 0, 56, 120, 248, 511, 1023]
theorem aK.CP : ic .any (opsOf Tryz.f51 11) = aK.T11 := by kernel_rfl
theorem aK.AY : fZ aK.T11.2 aK.B11 = true := by kernel_rfl
def aK.T14 : Bool × List (List Nat × List Nat) := (true, [([], []), ([0], [0]), ([], []), ([], []), ([3], [3]), ([], []), ([4, 5], [4, 5]), ([6], [6]), ([1, 2, 0, 1, 2, 3, 4, 5, 6, 7], [1, 2]), ([8, 7, 0, 1, 2, 3, 4, 5, 6, 7], [7, 8])])
def aK.B14 : List Nat := [0, 1, 0, 0, 8, 0, 56, 120, 255, 511]
theorem aK.CR : ic .any (opsOf Tryz.f51 14) = aK.T14 := by kernel_rfl
theorem aK.Ba : fZ aK.T14.2 aK.B14 = true := by kernel_rfl
def aK.T17 : Bool × List (List Nat × List Nat) := (true, [([], []), ([0], [0]), ([], []), ([], []), ([], []), ([4], [4]), ([5], [5]), ([6], [6]), ([7], [7]), ([3, 8], [3, 8]), ([1, 2, 0, 1, 2, 3, 4, 5, 6, 7, 8, 9], [1, 2]), ([10, 9, 9, 0, 1, 2, 3, 4, 5, 6, 7, 8, 9], [9, 10])])
def aK.B17 : List Nat := [0, 1, 0, 0, 0, 16, 48, 112, 240, 504, 1023, 2047]
theorem aK.CU : ic .any (opsOf Tryz.f51 17) = aK.T17 := by kernel_rfl
theorem aK.Bc : fZ aK.T17.2 aK.B17 = true := by kernel_rfl
theorem aK.calls (k : Nat) (g : Nat) (s0_0 : List Int) (s0_1 : Int) (s0_2 : Int) (r1 : Int) (r2 : Int) (r3 : List Int) (r4 : List Int) (r5 : List Int) (r6 : ByteArray) (r7 : Int) (r8 : Int) (w0 w : World) (hI : aj w0 w g s0_0 s0_1 s0_2) (hB : Below w0.heap.size w0 w) (h : aK.f k s0_0 s0_1 s0_2 = some (r1, r2, r3, r4, r5, r6, r7, r8)) :
  Calls Tryz.prog 51 #[.pointer (some ⟨g, 0, none⟩)] w fun e w' => ∃ v2_ v3_ v4_ : Value, e = .returned (.tuple #[.agg #[.int .i64 r1, .int .i64 r2, v2_, v3_, v4_], .string r6]) ∧ Kd.R (Kd.int .i64) 2 w' w.heap.size (fun k_ => some k_ ≠ (v3_ : Value).ownBlock ∧ some k_ ≠ (v4_ : Value).ownBlock) v2_ r3 ∧ Kd.R (Kd.int .i64) 2 w' w.heap.size (fun k_ => some k_ ≠ (v2_ : Value).ownBlock ∧ some k_ ≠ (v4_ : Value).ownBlock) v3_ r4 ∧ Kd.R (Kd.int .i64) 2 w' w.heap.size (fun k_ => some k_ ≠ (v2_ : Value).ownBlock ∧ some k_ ≠ (v3_ : Value).ownBlock) v4_ r5 ∧ aj w0 w' g s0_0 r7 r8 ∧ Below w0.heap.size w0 w' ∧ ax w w' g none := by
 have hu28 := Tryz.underlying28
 have HI0 := a_ hI
 have HK := a_ (ax.refl w g none)
 have HL := ah.mk hB.size
 clear hI
 have HW0 := ah.mk hB.size
 have HB := a_ hB
 clear hB
 have H : ((cZ.f k s0_0 s0_1 s0_2).bind fun E4 => ((dG.f k E4.1 E4.2.1 E4.2.2.1).bind fun D2 => (if D2.2.2.2.2.2 = 0 then ((aT.f s0_0 E4.2.2.2.1 E4.2.2.2.2 200).bind fun J7 => ((eu.f s0_0 J7.2.1 J7.2.2 (([0, 0, 16, J7.1] : List Int))).bind fun G1 => ((bY.f k D2.2.2.1 G1.1).bind fun B0 => ((bY.f k D2.2.2.2.1 G1.1).bind fun B3 => ((aT.f s0_0 G1.2.1 G1.2.2 (B0.length : Int)).bind fun C6 => ((aT.f s0_0 C6.2.1 C6.2.2 16).bind fun C7 => (if C7.1 = 0 then (if 0 ≤ C6.1 then (if C6.1 < (D2.2.2.2.2.1.length : Int) then (aK.j0 k E4.2.2.1 s0_0 C7.2.1 C7.2.2 D2.1 D2.2.1 B0 B3 (D2.2.2.2.2.1.set (C6.1 : Int).toNat (wrap64 (1 - (rd D2.2.2.2.2.1 C6.1))))) else (none)) else (none)) else (if C7.1 = 1 then (if 0 ≤ C6.1 then (if C6.1 < (B0.length : Int) then (if C6.1 < (B3.length : Int) then (aK.j0 k E4.2.2.1 s0_0 C7.2.1 C7.2.2 D2.1 D2.2.1 (B0.set (C6.1 : Int).toNat (rd B3 C6.1)) (B3.set (C6.1 : Int).toNat (rd B0 C6.1)) D2.2.2.2.2.1) else (none)) else (none)) else (none)) else (if C7.1 = 2 then (if 0 < (B0.length : Int) then ((eu.f s0_0 C7.2.1 C7.2.2 (([0, 1, rd B0 0, 1000000000] : List Int))).bind fun F9 => (if 0 ≤ C6.1 then (if C6.1 < (B0.length : Int) then (aK.j0 k E4.2.2.1 s0_0 F9.2.1 F9.2.2 D2.1 D2.2.1 (B0.set (C6.1 : Int).toNat F9.1) B3 D2.2.2.2.2.1) else (none)) else (none))) else (none)) else (if C7.1 = 3 then ((aT.f s0_0 C7.2.1 C7.2.2 3).bind fun G0 => (if G0.1 = 0 then (if D2.2.2.2.2.1.length < 17592186044416 then (aK.j0 k E4.2.2.1 s0_0 G0.2.1 G0.2.2 D2.1 D2.2.1 B0 B3 (D2.2.2.2.2.1 ++ [0])) else (none)) else (aK.j0 k E4.2.2.1 s0_0 G0.2.1 G0.2.2 D2.1 D2.2.1 B0 B3 D2.2.2.2.2.1))) else (aK.j0 k E4.2.2.1 s0_0 C7.2.1 C7.2.2 D2.1 D2.2.1 B0 B3 D2.2.2.2.2.1))))))))))) else (some (E4.1, E4.2.1, (([1] : List Int)), (([2] : List Int)), (([0] : List Int)), E4.2.2.1, E4.2.2.2.1, E4.2.2.2.2))))) = some (r1, r2, r3, r4, r5, r6, r7, r8) := h
 clear h
 replace H := bo_ H; obtain ⟨⟨H3, H4, E6, G2, G3⟩, A2, H⟩ := H; (try dsimp only at H)
 replace H := bo_ H; obtain ⟨⟨D7, D8, E1, D9, C5, I8⟩, A3, H⟩ := H; (try dsimp only at H)
 by_cases c4 : I8 = 0
 ·rw [if_pos c4] at H
  have i4 : (I8 == 0) = true := beq_iff_eq.mpr c4
  have i5 : (I8 != 0) = false := bne_eq_false_iff_eq.mpr c4
  clear c4
  replace H := bo_ H; obtain ⟨⟨J3, I9, J0⟩, A5, H⟩ := H; (try dsimp only at H)
  obtain ⟨E8, J8⟩ : ∃ y_ : List Int, y_ = (([0, 0, 16, J3] : List Int)) := ⟨_, rfl⟩
  replace H : ((eu.f s0_0 I9 J0 E8).bind fun G1 => ((bY.f k E1 G1.1).bind fun B0 => ((bY.f k D9 G1.1).bind fun B3 => ((aT.f s0_0 G1.2.1 G1.2.2 (B0.length : Int)).bind fun C6 => ((aT.f s0_0 C6.2.1 C6.2.2 16).bind fun C7 => (if C7.1 = 0 then (if 0 ≤ C6.1 then (if C6.1 < (C5.length : Int) then (aK.j0 k E6 s0_0 C7.2.1 C7.2.2 D7 D8 B0 B3 (C5.set (C6.1 : Int).toNat (wrap64 (1 - (rd C5 C6.1))))) else (none)) else (none)) else (if C7.1 = 1 then (if 0 ≤ C6.1 then (if C6.1 < (B0.length : Int) then (if C6.1 < (B3.length : Int) then (aK.j0 k E6 s0_0 C7.2.1 C7.2.2 D7 D8 (B0.set (C6.1 : Int).toNat (rd B3 C6.1)) (B3.set (C6.1 : Int).toNat (rd B0 C6.1)) C5) else (none)) else (none)) else (none)) else (if C7.1 = 2 then (if 0 < (B0.length : Int) then ((eu.f s0_0 C7.2.1 C7.2.2 (([0, 1, rd B0 0, 1000000000] : List Int))).bind fun F9 => (if 0 ≤ C6.1 then (if C6.1 < (B0.length : Int) then (aK.j0 k E6 s0_0 F9.2.1 F9.2.2 D7 D8 (B0.set (C6.1 : Int).toNat F9.1) B3 C5) else (none)) else (none))) else (none)) else (if C7.1 = 3 then ((aT.f s0_0 C7.2.1 C7.2.2 3).bind fun G0 => (if G0.1 = 0 then (if C5.length < 17592186044416 then (aK.j0 k E6 s0_0 G0.2.1 G0.2.2 D7 D8 B0 B3 (C5 ++ [0])) else (none)) else (aK.j0 k E6 s0_0 G0.2.1 G0.2.2 D7 D8 B0 B3 C5))) else (aK.j0 k E6 s0_0 C7.2.1 C7.2.2 D7 D8 B0 B3 C5)))))))))) = some (r1, r2, r3, r4, r5, r6, r7, r8) := rh_ J8 H
  have L6 := a_ J8
  clear J8
  replace H := bo_ H; obtain ⟨⟨J9, H9, I0⟩, A6, H⟩ := H; (try dsimp only at H)
  replace H := bo_ H; obtain ⟨B0, A7, H⟩ := H; (try dsimp only at H)
  replace H := bo_ H; obtain ⟨B3, A8, H⟩ := H; (try dsimp only at H)
  replace H := bo_ H; obtain ⟨⟨C0, I3, I4⟩, A9, H⟩ := H; (try dsimp only at H)
  replace H := bo_ H; obtain ⟨⟨E9, D5, D6⟩, q3, H⟩ := H; (try dsimp only at H)
  have M4 := a_ H
  clear H
  go_enter Tryz.func51, Tryz.ntmps51
  go_upto_block 0 with (first | ((with_reducible refine bf (N := 2) rfl ?_); refine cz ?hg (N := 2) ?hd (cs := #[.int .i64 0, .int .i64 0, .slice none 0 0, .slice none 0 0, .slice none 0 0]) (t := 28) ?hr ?_; (case hd => rfl); (case hg => rfl); (case hr => first | (go_simp; done) | (go_simp; rfl)); intro C2 hg u2 hbox hb; replace HB := df fM hb; have BK486 := a_ (hbox); have GW486 := a_ ((zZ : w.heap.size ≤ C2)); have GE486 := a_ ((Nat.le_trans HW0.out (zZ : w.heap.size ≤ C2) : w0.heap.size ≤ C2)); replace HK := a_ (ax.trans eZ (ax.of_below hb g none) (.inl rfl)); have NB0_486 := a_ ((by rw [hg]; exact Nat.ne_of_lt (aj.lt (show aj w0 _ g s0_0 s0_1 s0_2 from eD)) : g ≠ C2)); have D4 := a_ ((by rw [hg]; exact Nat.ne_of_gt (aj.lt (show aj w0 _ g s0_0 s0_1 s0_2 from eD)) : C2 ≠ g)); replace HI0 := a_ (aj.below eD hb); clear hb hbox hg) | ((with_reducible refine av (f := 41) rfl ?_); refine bI (some 14) rfl rfl Tryz.func41 (by kernel_rfl) rfl #[.pointer (some ⟨g, 0, none⟩)] rfl dL ?_; (with_reducible refine (cZ.calls k g s0_0 s0_1 s0_2 H3 H4 E6 G2 G3 w0 _ ?side1 ?side2 A2.out).mono ?_); (case side1 => exact sD); (case side2 => exact xP); rintro e u3 ⟨rfl, hi, hb, hk⟩; refine ⟨_, rfl, ?_⟩; replace BK486 := a_ (ax.blk hk (g' := C2) (rb_ BK486.out) D4.out (by simp)); replace HK := a_ (ax.trans qw hk (.inl rfl)); replace HB := a_ (hb); replace HI0 := a_ (hi); (try clear hb); (try clear hk); (try clear hi)) | ((with_reducible refine av (f := 15) rfl ?_); refine bI (some 22) rfl rfl Tryz.func15 (by kernel_rfl) rfl #[.int .i64 H3, .int .i64 H4, .string E6] rfl dL ?_; (with_reducible refine (dG.calls k H3 H4 E6 D7 D8 E1 D9 C5 I8 _ A3.out).mono ?_); rintro e u4 ⟨i6, i7, i8, rfl, ho0, ho1, ho2, hb⟩; refine ⟨_, rfl, ?_⟩; have B4 := a_ (Kd.bu ho0 (dZ (w := w) (g := g) (row := none) qw)); have B7 := a_ (Kd.bu ho1 (dZ (w := w) (g := g) (row := none) qw)); have A4 := a_ (Kd.bu ho2 (dZ (w := w) (g := g) (row := none) qw)); replace BK486 := bb_ C2 BK486 hb; replace HK := a_ (ax.trans qw (ax.of_below hb g none) (.inl rfl)); replace HB := df xP hb; replace HI0 := a_ (aj.below sD hb); (try clear hb); (try clear ho0); (try clear ho1); (try clear ho2)) | ((with_reducible refine bf (N := 7) rfl ?_); refine cz ?hg (N := 7) ?hd (cs := #[.int .i64 0, .int .i64 0, .slice none 0 0, .slice none 0 0, .slice none 0 0]) (t := 28) ?hr ?_; (case hd => rfl); (case hg => rfl); (case hr => first | (go_simp; done) | (go_simp; rfl)); intro A1 hg q4 hbox hb; replace B4 := rl_ B4 hb; replace B7 := rl_ B7 hb; replace A4 := rl_ A4 hb; replace HB := df xP hb; have BK504 := a_ (hbox); have GW504 := a_ ((zW : w.heap.size ≤ A1)); have GE504 := a_ ((Nat.le_trans HW0.out (zW : w.heap.size ≤ A1) : w0.heap.size ≤ A1)); replace HK := a_ (ax.trans qw (ax.of_below hb g none) (.inl rfl)); have C9 := a_ ((by rw [hg]; exact Nat.ne_of_lt (fF (g := C2) (rb_ BK486.out)) : C2 ≠ A1)); have E5 := a_ ((by rw [hg]; exact Nat.ne_of_gt (fF (g := C2) (rb_ BK486.out)) : A1 ≠ C2)); replace BK486 := bb_ C2 BK486 hb; have NB0_504 := a_ ((by rw [hg]; exact Nat.ne_of_lt (aj.lt (show aj w0 _ g s0_0 G2 G3 from sD)) : g ≠ A1)); have D3 := a_ ((by rw [hg]; exact Nat.ne_of_gt (aj.lt (show aj w0 _ g s0_0 G2 G3 from sD)) : A1 ≠ g)); replace HI0 := a_ (aj.below sD hb); clear hb hbox hg; have hnb16 := E5.out; have hnc16 := C9.out; have hnb17 := D3.out; have hnc17 := NB0_504.out; obtain ⟨U8, U9, V0, V1, V2, V3, V4, V5, V6, V7⟩ := eH (w := q4) BK504.out; obtain ⟨F1, F2, i9⟩ := Kd.bg B4.out; subst i9; obtain ⟨F0, E7, j3⟩ := Kd.bg B7.out; subst j3; obtain ⟨E3, E0, j4⟩ := Kd.bg A4.out; subst j4) | ((with_reducible refine av (f := 52) rfl ?_); refine bI (some 36) rfl rfl Tryz.func52 (by kernel_rfl) rfl #[.pointer (some ⟨g, 0, none⟩), .int .i64 200] rfl dL ?_; (with_reducible refine (aT.calls g s0_0 G2 G3 200 J3 I9 J0 w0 _ ?side1 ?side2 A5.out).mono ?_); (case side1 => exact z5_); (case side2 => exact z8_); rintro e u5 ⟨rfl, hi, hb, hk⟩; refine ⟨_, rfl, ?_⟩; replace BK486 := a_ (ax.blk hk (g' := C2) (o := .cells #[.int .i64 0, .int .i64 0, .slice none 0 0, .slice none 0 0, .slice none 0 0] 28 (0, 0)) (iI (h := by exact rR C9.out BK486.out)) D4.out (by simp)); replace B4 := a_ (Kd.ae (Kd.dC (aj.apart (show aj w0 _ g s0_0 G2 G3 from z5_) (rc_ (h := by exact Kd.ae (gB B4.out BK504.out) (fun _ h_ => h_.1))) (by decide)) hk (fun _ h => h.2)) (fun _ h => h.1)); replace B7 := a_ (Kd.ae (Kd.dC (aj.apart (show aj w0 _ g s0_0 G2 G3 from z5_) (rc_ (h := by exact Kd.ae (gB B7.out BK504.out) (fun _ h_ => h_.1))) (by decide)) hk (fun _ h => h.2)) (fun _ h => h.1)); replace A4 := a_ (Kd.ae (Kd.dC (aj.apart (show aj w0 _ g s0_0 G2 G3 from z5_) (rc_ (h := by exact Kd.ae (gB A4.out BK504.out) (fun _ h_ => h_.1))) (by decide)) hk (fun _ h => h.2)) (fun _ h => h.1)); replace BK504 := a_ (ax.blk hk (g' := A1) (o := .cells #[.int .i64 D7, .int .i64 D8, .slice F1 E1.length F2, .slice F0 D9.length E7, .slice E3 C5.length E0] 28 (0, 0)) (iI (h := by exact je BK504.out)) D3.out (by simp)); replace HK := a_ (ax.trans jK hk (.inl rfl)); replace HB := a_ (hb); replace HI0 := a_ (hi); (try clear hb); (try clear hk); (try clear hi)) | ((with_reducible refine bf (N := 37) rfl ?_); refine Kd.fU (Kd.int .i64) _ 2 ?hg (N := 37) ?hd (xs := ([0, 0, 16, J3] : List Int)) (inner := [.int .i64 0, .int .i64 0, .int .i64 16, .int .i64 J3]) (ok := fun _ => True) (okp := fun _ => True) ?hr ?hp (fun _ hk => hk) trivial (Below.refl _ _) (Nat.le_refl _) (by simp) ?_; (case hd => rfl); (case hg => rfl); (case hr => first | (go_simp; done) | (go_simp; rfl)); (case hp => exact (dm.one (show Kd.M (Kd.int .i64) _ _ _ 0 [.int .i64 0] from rfl) (dm.one (show Kd.M (Kd.int .i64) _ _ _ 0 [.int .i64 0] from rfl) (dm.one (show Kd.M (Kd.int .i64) _ _ _ 16 [.int .i64 16] from rfl) (dm.one (show Kd.M (Kd.int .i64) _ _ _ J3 [.int .i64 J3] from rfl) (dm.none _ _)))))); intro q5 u6 ho24 hb hg_ hnew_; clear hg_ hnew_; (first | rw [← L6.out] at ho24 | (simp only [Int.reduceToNat] at ho24; rw [← L6.out] at ho24)); have C4 := a_ (Kd.bu (Kd.dF (Kd.dF (Kd.dF ho24 (Kd.dR (ra_ B4.out))) (Kd.dR (ra_ B7.out))) (Kd.dR (ra_ A4.out))) (dZ (w := w) (g := g) (row := none) jK)); replace B4 := a_ (Kd.bB (ra_ B4.out) (Kd.bN ho24) hb); replace B7 := a_ (Kd.bB (ra_ B7.out) (Kd.bN ho24) hb); replace A4 := a_ (Kd.bB (ra_ A4.out) (Kd.bN ho24) hb); replace BK486 := bb_ C2 BK486 hb; replace BK504 := bb_ A1 BK504 hb; replace HK := a_ (ax.trans jK (ax.of_below hb g none) (.inl rfl)); replace HB := df z8_ hb; replace HI0 := a_ (aj.below z5_ hb); clear hb ho24; obtain ⟨F7, F8, j5⟩ := Kd.bg C4.out; subst j5) | ((with_reducible refine av (f := 53) rfl ?_); refine bI (some 38) rfl rfl Tryz.func53 (by kernel_rfl) rfl #[.pointer (some ⟨g, 0, none⟩), .slice F7 E8.length F8] rfl dL ?_; (with_reducible refine (eu.calls g s0_0 I9 J0 _ _ E8 J9 H9 I0 w0 _ ?side1 ?side2 ?side3 ?side4 ?side5 A6.out).mono ?_); (case side1 => exact z5_); (case side2 => exact z8_); (case side3 => exact (by (repeat (first | exact (Kd.aH C4.out).2.2 | (with_reducible refine Kd.dH ?_ _) | (with_reducible refine Kd.dJ ?_ _) | (with_reducible refine Kd.dX ?_))); first | done | fail)); (case side4 => exact (Kd.aH C4.out).2.1); (case side5 => exact mZ (aj.own_ne HI0.out C4.out (by decide))); rintro e q6 ⟨rfl, hi, hb, hk⟩; refine ⟨_, rfl, ?_⟩; replace BK486 := a_ (ax.blk hk (g' := C2) (rb_ BK486.out) D4.out (by simp)); replace B4 := a_ (Kd.ae (Kd.dC (aj.apart (show aj w0 _ g s0_0 I9 J0 from z5_) (ra_ B4.out) (by decide)) hk (fun _ h => h.2)) (fun _ h => h.1)); replace B7 := a_ (Kd.ae (Kd.dC (aj.apart (show aj w0 _ g s0_0 I9 J0 from z5_) (ra_ B7.out) (by decide)) hk (fun _ h => h.2)) (fun _ h => h.1)); replace A4 := a_ (Kd.ae (Kd.dC (aj.apart (show aj w0 _ g s0_0 I9 J0 from z5_) (ra_ A4.out) (by decide)) hk (fun _ h => h.2)) (fun _ h => h.1)); replace BK504 := a_ (ax.blk hk (g' := A1) (rb_ BK504.out) D3.out (by simp)); replace C4 := a_ (Kd.ae (Kd.dC (aj.apart (show aj w0 _ g s0_0 I9 J0 from z5_) (ra_ C4.out) (by decide)) hk (fun _ h => h.2)) (fun _ h => h.1)); replace HK := a_ (ax.trans jK hk (.inl rfl)); replace HB := a_ (hb); replace HI0 := a_ (hi); (try clear hb); (try clear hk); (try clear hi); obtain ⟨V8, V9, W0, W1, W3, W4, W5, W6, W7, W8⟩ := eH (w := q6) BK504.out) | ((with_reducible refine av (f := 58) rfl ?_); refine bI (some 42) rfl rfl Tryz.func58 (by kernel_rfl) rfl #[.slice F1 E1.length F2, .int .i64 J9] rfl dL ?_; (with_reducible refine (bY.calls k _ _ E1 J9 B0 _ ?side1 ?side2 A7.out).mono ?_); (case side1 => exact (by (repeat (first | exact (Kd.aH B4.out).2.2 | (with_reducible refine Kd.dH ?_ _) | (with_reducible refine Kd.dJ ?_ _) | (with_reducible refine Kd.dX ?_))); first | done | fail)); (case side2 => exact (Kd.aH B4.out).2.1); rintro e o8 ⟨q7, rfl, ho0, hb⟩; refine ⟨_, rfl, ?_⟩; have C1 := a_ (Kd.bu (Kd.dF (Kd.dF (Kd.dF (Kd.dF ho0 (Kd.dR (ra_ B4.out))) (Kd.dR (ra_ B7.out))) (Kd.dR (ra_ A4.out))) (Kd.dR (ra_ C4.out))) (dZ (w := w) (g := g) (row := none) jK)); replace B4 := a_ (Kd.bB (ra_ B4.out) (Kd.bN ho0) hb); replace B7 := a_ (Kd.bB (ra_ B7.out) (Kd.bN ho0) hb); replace A4 := a_ (Kd.bB (ra_ A4.out) (Kd.bN ho0) hb); replace C4 := a_ (Kd.bB (ra_ C4.out) (Kd.bN ho0) hb); replace BK486 := bb_ C2 BK486 hb; replace BK504 := bb_ A1 BK504 hb; replace HK := a_ (ax.trans jK (ax.of_below hb g none) (.inl rfl)); replace HB := df z8_ hb; replace HI0 := a_ (aj.below z5_ hb); (try clear hb); (try clear ho0); obtain ⟨E2, C8, j6⟩ := Kd.bg C1.out; subst j6; obtain ⟨W9, X0, X1, X2, X3, X4, X5, X6, X7, X8⟩ := eH (w := o8) BK504.out) | ((with_reducible refine av (f := 58) rfl ?_); refine bI (some 47) rfl rfl Tryz.func58 (by kernel_rfl) rfl #[.slice F0 D9.length E7, .int .i64 J9] rfl dL ?_; (with_reducible refine (bY.calls k _ _ D9 J9 B3 _ ?side1 ?side2 A8.out).mono ?_); (case side1 => refine (Kd.aH (e := 2) (base := w.heap.size) (ok := fun k_ => (((nb_ k_ F1 E1.length F2 ∧ nb_ k_ E3 C5.length E0) ∧ nb_ k_ F7 E8.length F8) ∧ nb_ k_ E2 B0.length C8)) (n := D9.length) (c := E7) ?_).2.2; exact (rc_ (h := by exact Kd.ae (Kd.bV (p := ⟨A1, 2, none⟩) (Kd.eT B7.out BK504.out (by decide)) (fun _ hk => hk.2) (.slice E2 B0.length C8)) (fun _ h_ => h_.1)))); (case side2 => exact (Kd.aH B7.out).2.1); rintro e q8 ⟨q9, rfl, ho0, hb⟩; refine ⟨_, rfl, ?_⟩; have C3 := a_ (Kd.bu (Kd.dF (Kd.dF (Kd.dF (Kd.dF (Kd.dF ho0 (Kd.dR (rc_ (h := by exact Kd.ae (Kd.bV (p := ⟨A1, 2, none⟩) (Kd.eT B4.out BK504.out (by decide)) (fun _ hk => hk.2) (.slice E2 B0.length C8)) (fun _ h_ => h_.1))))) (Kd.dR (rc_ (h := by exact Kd.ae (Kd.bV (p := ⟨A1, 2, none⟩) (Kd.eT B7.out BK504.out (by decide)) (fun _ hk => hk.2) (.slice E2 B0.length C8)) (fun _ h_ => h_.1))))) (Kd.dR (rc_ (h := by exact Kd.ae (Kd.bV (p := ⟨A1, 2, none⟩) (Kd.eT A4.out BK504.out (by decide)) (fun _ hk => hk.2) (.slice E2 B0.length C8)) (fun _ h_ => h_.1))))) (Kd.dR (rc_ (h := by exact Kd.ae (Kd.bV (p := ⟨A1, 2, none⟩) (Kd.eT C4.out BK504.out (by decide)) (fun _ hk => hk.2) (.slice E2 B0.length C8)) (fun _ h_ => h_.1))))) (Kd.dR (rc_ (h := by exact Kd.ae (Kd.bV (p := ⟨A1, 2, none⟩) (Kd.eT C1.out BK504.out (by decide)) (fun _ hk => hk.2) (.slice E2 B0.length C8)) (fun _ h_ => h_.1))))) (dZ (w := w) (g := g) (row := none) jK)); replace B4 := a_ (Kd.bB (rc_ (h := by exact Kd.ae (Kd.bV (p := ⟨A1, 2, none⟩) (Kd.eT B4.out BK504.out (by decide)) (fun _ hk => hk.2) (.slice E2 B0.length C8)) (fun _ h_ => h_.1))) (Kd.bN ho0) hb); replace B7 := a_ (Kd.bB (rc_ (h := by exact Kd.ae (Kd.bV (p := ⟨A1, 2, none⟩) (Kd.eT B7.out BK504.out (by decide)) (fun _ hk => hk.2) (.slice E2 B0.length C8)) (fun _ h_ => h_.1))) (Kd.bN ho0) hb); replace A4 := a_ (Kd.bB (rc_ (h := by exact Kd.ae (Kd.bV (p := ⟨A1, 2, none⟩) (Kd.eT A4.out BK504.out (by decide)) (fun _ hk => hk.2) (.slice E2 B0.length C8)) (fun _ h_ => h_.1))) (Kd.bN ho0) hb); replace C4 := a_ (Kd.bB (rc_ (h := by exact Kd.ae (Kd.bV (p := ⟨A1, 2, none⟩) (Kd.eT C4.out BK504.out (by decide)) (fun _ hk => hk.2) (.slice E2 B0.length C8)) (fun _ h_ => h_.1))) (Kd.bN ho0) hb); replace C1 := a_ (Kd.bB (rc_ (h := by exact Kd.ae (Kd.bV (p := ⟨A1, 2, none⟩) (Kd.eT C1.out BK504.out (by decide)) (fun _ hk => hk.2) (.slice E2 B0.length C8)) (fun _ h_ => h_.1))) (Kd.bN ho0) hb); replace BK486 := a_ (dS (g := C2) (o := .cells #[.int .i64 0, .int .i64 0, .slice none 0 0, .slice none 0 0, .slice none 0 0] 28 (0, 0)) (iI (h := by exact AX C9.out BK486.out)) hb); replace BK504 := a_ (dS (g := A1) (o := .cells #[.int .i64 D7, .int .i64 D8, .slice E2 B0.length C8, .slice F0 D9.length E7, .slice E3 C5.length E0] 28 (0, 0)) (by (with_reducible repeat (first | refine dz ?_ _ | refine bU ?_ | refine dx ?_ _)); refine fP (cs := #[.int .i64 D7, .int .i64 D8, .slice F1 E1.length F2, .slice F0 D9.length E7, .slice E3 C5.length E0]) ?_ 2 _ rfl; (with_reducible repeat (first | refine dz ?_ _ | refine bU ?_ | refine dx ?_ _)); exact BK504.out) hb); replace HK := a_ (ax.trans jK (ax.of_below hb g none) (.inl rfl)); replace HB := df z8_ hb; replace HI0 := a_ (aj.below (show aj w0 (o8.setCell ⟨A1, 2, none⟩ (.slice E2 B0.length C8)) g s0_0 H9 I0 from z5_) hb); (try clear hb); (try clear hk); (try clear ho0); obtain ⟨F3, D0, j7⟩ := Kd.bg C3.out; subst j7; obtain ⟨X9, Y0, Y1, Y2, Y3, Y4, Y5, Y6, Y7, Y8⟩ := eH (w := q8) BK504.out) | ((with_reducible refine av (f := 52) rfl ?_); refine bI (some 53) rfl rfl Tryz.func52 (by kernel_rfl) rfl #[.pointer (some ⟨g, 0, none⟩), .int .i64 (B0.length : Int)] rfl dL ?_; (with_reducible refine (aT.calls g s0_0 H9 I0 (B0.length : Int) C0 I3 I4 w0 _ ?side1 ?side2 A9.out).mono ?_); (case side1 => exact z5_); (case side2 => exact z8_); rintro e u7 ⟨rfl, hi, hb, hk⟩; refine ⟨_, rfl, ?_⟩; replace BK486 := a_ (ax.blk hk (g' := C2) (o := .cells #[.int .i64 0, .int .i64 0, .slice none 0 0, .slice none 0 0, .slice none 0 0] 28 (0, 0)) (iI (h := by exact AX C9.out BK486.out)) D4.out (by simp)); replace B4 := a_ (Kd.ae (Kd.dC (aj.apart (show aj w0 _ g s0_0 H9 I0 from z5_) (rc_ (h := by exact Kd.ae (Kd.bV (p := ⟨A1, 3, none⟩) (Kd.eT B4.out BK504.out (by decide)) (fun _ hk => hk.2) (.slice F3 B3.length D0)) (fun _ h_ => h_.1))) (by decide)) hk (fun _ h => h.2)) (fun _ h => h.1)); replace B7 := a_ (Kd.ae (Kd.dC (aj.apart (show aj w0 _ g s0_0 H9 I0 from z5_) (rc_ (h := by exact Kd.ae (Kd.bV (p := ⟨A1, 3, none⟩) (Kd.eT B7.out BK504.out (by decide)) (fun _ hk => hk.2) (.slice F3 B3.length D0)) (fun _ h_ => h_.1))) (by decide)) hk (fun _ h => h.2)) (fun _ h => h.1)); replace A4 := a_ (Kd.ae (Kd.dC (aj.apart (show aj w0 _ g s0_0 H9 I0 from z5_) (rc_ (h := by exact Kd.ae (Kd.bV (p := ⟨A1, 3, none⟩) (Kd.eT A4.out BK504.out (by decide)) (fun _ hk => hk.2) (.slice F3 B3.length D0)) (fun _ h_ => h_.1))) (by decide)) hk (fun _ h => h.2)) (fun _ h => h.1)); replace C4 := a_ (Kd.ae (Kd.dC (aj.apart (show aj w0 _ g s0_0 H9 I0 from z5_) (rc_ (h := by exact Kd.ae (Kd.bV (p := ⟨A1, 3, none⟩) (Kd.eT C4.out BK504.out (by decide)) (fun _ hk => hk.2) (.slice F3 B3.length D0)) (fun _ h_ => h_.1))) (by decide)) hk (fun _ h => h.2)) (fun _ h => h.1)); replace C1 := a_ (Kd.ae (Kd.dC (aj.apart (show aj w0 _ g s0_0 H9 I0 from z5_) (rc_ (h := by exact Kd.ae (Kd.bV (p := ⟨A1, 3, none⟩) (Kd.eT C1.out BK504.out (by decide)) (fun _ hk => hk.2) (.slice F3 B3.length D0)) (fun _ h_ => h_.1))) (by decide)) hk (fun _ h => h.2)) (fun _ h => h.1)); replace C3 := a_ (Kd.ae (Kd.dC (aj.apart (show aj w0 _ g s0_0 H9 I0 from z5_) (rc_ (h := by exact Kd.ae (Kd.bV (p := ⟨A1, 3, none⟩) (Kd.eT C3.out BK504.out (by decide)) (fun _ hk => hk.2) (.slice F3 B3.length D0)) (fun _ h_ => h_.1))) (by decide)) hk (fun _ h => h.2)) (fun _ h => h.1)); replace BK504 := a_ (ax.blk hk (g' := A1) (o := .cells #[.int .i64 D7, .int .i64 D8, .slice E2 B0.length C8, .slice F3 B3.length D0, .slice E3 C5.length E0] 28 (0, 0)) (by (with_reducible repeat (first | refine dz ?_ _ | refine bU ?_ | refine dx ?_ _)); refine fP (cs := #[.int .i64 D7, .int .i64 D8, .slice E2 B0.length C8, .slice F0 D9.length E7, .slice E3 C5.length E0]) ?_ 3 _ rfl; (with_reducible repeat (first | refine dz ?_ _ | refine bU ?_ | refine dx ?_ _)); exact BK504.out) D3.out (by simp)); replace HK := a_ (ax.trans jK hk (.inl rfl)); replace HB := a_ (hb); replace HI0 := a_ (hi); (try clear hb); (try clear hk); (try clear hi)) | ((with_reducible refine av (f := 52) rfl ?_); refine bI (some 55) rfl rfl Tryz.func52 (by kernel_rfl) rfl #[.pointer (some ⟨g, 0, none⟩), .int .i64 16] rfl dL ?_; (with_reducible refine (aT.calls g s0_0 I3 I4 16 E9 D5 D6 w0 _ ?side1 ?side2 q3.out).mono ?_); (case side1 => exact z5_); (case side2 => exact z8_); rintro e Y9 ⟨rfl, hi, hb, hk⟩; refine ⟨_, rfl, ?_⟩; replace BK486 := a_ (ax.blk hk (g' := C2) (rb_ BK486.out) D4.out (by simp)); replace B4 := a_ (Kd.ae (Kd.dC (aj.apart (show aj w0 _ g s0_0 I3 I4 from z5_) (ra_ B4.out) (by decide)) hk (fun _ h => h.2)) (fun _ h => h.1)); replace B7 := a_ (Kd.ae (Kd.dC (aj.apart (show aj w0 _ g s0_0 I3 I4 from z5_) (ra_ B7.out) (by decide)) hk (fun _ h => h.2)) (fun _ h => h.1)); replace A4 := a_ (Kd.ae (Kd.dC (aj.apart (show aj w0 _ g s0_0 I3 I4 from z5_) (ra_ A4.out) (by decide)) hk (fun _ h => h.2)) (fun _ h => h.1)); replace BK504 := a_ (ax.blk hk (g' := A1) (rb_ BK504.out) D3.out (by simp)); replace C4 := a_ (Kd.ae (Kd.dC (aj.apart (show aj w0 _ g s0_0 I3 I4 from z5_) (ra_ C4.out) (by decide)) hk (fun _ h => h.2)) (fun _ h => h.1)); replace C1 := a_ (Kd.ae (Kd.dC (aj.apart (show aj w0 _ g s0_0 I3 I4 from z5_) (ra_ C1.out) (by decide)) hk (fun _ h => h.2)) (fun _ h => h.1)); replace C3 := a_ (Kd.ae (Kd.dC (aj.apart (show aj w0 _ g s0_0 I3 I4 from z5_) (ra_ C3.out) (by decide)) hk (fun _ h => h.2)) (fun _ h => h.1)); replace HK := a_ (ax.trans jK hk (.inl rfl)); replace HB := a_ (hb); replace HI0 := a_ (hi); (try clear hb); (try clear hk); (try clear hi)))
  (try simp only [Act.put, List.setIfInBounds_toArray, List.set_cons_zero, List.set_cons_succ])
  go_cut [] (fun wc => ∃ (kq : Nat) (H1 : Int) (H2 : Int) (F4 : List Int) (F5 : List Int) (F6 : List Int) (G4 : Value) (G5 : Value) (G6 : Value), ah (aK.j0 kq E6 s0_0 H1 H2 D7 D8 F4 F5 F6 = some (r1, r2, r3, r4, r5, r6, r7, r8)) ∧ ah (kq ≤ k) ∧ ah (Kd.R (Kd.int .i64) 2 wc w.heap.size (fun k_ => some k_ ≠ (G5 : Value).ownBlock ∧ some k_ ≠ (G6 : Value).ownBlock) G4 F4) ∧ ah (Kd.R (Kd.int .i64) 2 wc w.heap.size (fun k_ => some k_ ≠ (G4 : Value).ownBlock ∧ some k_ ≠ (G6 : Value).ownBlock) G5 F5) ∧ ah (Kd.R (Kd.int .i64) 2 wc w.heap.size (fun k_ => some k_ ≠ (G4 : Value).ownBlock ∧ some k_ ≠ (G5 : Value).ownBlock) G6 F6) ∧ ah (wc.heap[C2]? = some (.cells #[.int .i64 0, .int .i64 0, (.slice none 0 0), (.slice none 0 0), (.slice none 0 0)] 28 (0, 0))) ∧ ah (wc.heap[A1]? = some (.cells #[.int .i64 D7, .int .i64 D8, G4, G5, G6] 28 (0, 0))) ∧ ah (aj w0 wc g s0_0 H1 H2) ∧ ah (ax w wc g none) ∧ ah (Below w0.heap.size w0 wc))
  case first =>
   have H := M4.out
   clear M4
   by_cases c36 : E9 = 0
   ·rw [if_pos c36] at H
    have I5 : (E9 == 0) = true := beq_iff_eq.mpr c36
    have O7 : (E9 != 0) = false := bne_eq_false_iff_eq.mpr c36
    clear c36
    (first | rw [I5] | (simp only [eU, gX]; rw [I5]) | skip)
    replace H := ig_ H; obtain ⟨c37, H⟩ := H
    have o9 := decide_eq_true c37
    clear c37
    replace H := ig_ H; obtain ⟨c38, H⟩ := H
    have p0 := decide_eq_true c38
    clear c38
    obtain ⟨O8, K0⟩ : ∃ y_ : List Int, y_ = (C5.set (C0 : Int).toNat (wrap64 (1 - (rd C5 C0)))) := ⟨_, rfl⟩
    replace H : (aK.j0 k E6 s0_0 D5 D6 D7 D8 B0 B3 O8) = some (r1, r2, r3, r4, r5, r6, r7, r8) := rh_ K0 H
    have O9 := a_ K0
    clear K0
    have H' := a_ H
    clear H
    try go_wp2
    replace B4 := a_ (Kd.az B4.out)
    replace B7 := a_ (Kd.az B7.out)
    replace A4 := a_ (Kd.az A4.out)
    replace C4 := a_ (Kd.az C4.out)
    replace C1 := a_ (Kd.az C1.out)
    replace C3 := a_ (Kd.az C3.out)
    replace BK486 := a_ (bU BK486.out)
    replace BK504 := a_ (bU BK504.out)
    replace HI0 := a_ (aj.drew HI0.out)
    replace HK := a_ (iV HK.out)
    replace HB := a_ (aU HB.out)
    have M5 : 0 ≤ (C0 : Int) := of_decide_eq_true aG
    have M6 : C0 < (C5.length : Int) := of_decide_eq_true aG
    obtain ⟨p1, j8, I1⟩ := Kd.dM (Kd.aH A4.out).2.2 C0 M5 M6
    cases j8
    replace M5 := eq_true M5
    replace M6 := eq_true M6
    have j9 : 0 ≤ (C0 : Int) := of_decide_eq_true aG
    have k0 : (C0 : Int) < ((C5.length : Int) : Int) := of_decide_eq_true aG
    obtain ⟨I6, r0, P0, P1, gl39, cl39, HG39⟩ := Kd.lI A4.out (by omega)
    (first | cases P0 | (injection P0 with ea_ en_ ec_; (first | subst ea_ | (injection ea_ with ea_; subst ea_)); subst ec_; clear en_))
    have P2 := a_ P1
    have k1 := a_ HG39
    clear P1 gl39 HG39
    (first | simp only [add_plain] at I1 | skip)
    obtain ⟨M7, M8⟩ := Kd.jA 0 A4.out (C0 : Int) j9 k0
    replace j9 := eq_true j9
    replace k0 := eq_true k0
    have HN0_go39 := a_ (show g ≠ I6 from by have h_ := aj.own_ne HI0.out A4.out (by decide); intro e_; exact h_ (by rw [e_]; rfl))
    have M9 := Kd.vW A4.out (C0 : Int) (wrap64 (1 - (rd C5 C0)))
    rw [← O9.out] at M9
    have P3 := a_ M9
    clear M9
    refine gQ (n := 11) (S := fun w' => w'.cell? ⟨A1, 0, none⟩ = some (.int .i64 D7) ∧ w'.cell? ⟨A1, 1, none⟩ = some (.int .i64 D8) ∧ w'.cell? ⟨A1, 2, none⟩ = some (.slice E2 B0.length C8) ∧ w'.cell? ⟨A1, 3, none⟩ = some (.slice F3 B3.length D0) ∧ w'.cell? ⟨A1, 4, none⟩ = some (.slice (some ⟨I6, 0, none⟩) C5.length E0) ∧ w'.cell? ⟨I6, (C0).toNat, none⟩ = some (.int .i64 (rd C5 C0))) (ds := [10]) #[false, false, false, false, false, false, false, false, false, false, false] (by kernel_rfl) rfl rfl ⟨(ai BK504.out 0).trans rfl, (ai BK504.out 1).trans rfl, (ai BK504.out 2).trans rfl, (ai BK504.out 3).trans rfl, (ai BK504.out 4).trans rfl, I1⟩ (fun hHeld => ?_); refine fI aK.CP aK.AY (fun HT_ HW_ => ?_)
    generalize Y9.drew = u9 at B4 B7 A4 C4 C1 C3 BK486 BK504 HI0 HK HB k1 P3 M8 M7 I1 hHeld ⊢
    refine pv_ 0 (some 58) ?_
    refine pv_ 2 (some 60) ?_
    refine pv_ 3 (some 61) ?_
    refine pv_ 5 (some 63) ?_
    refine mK (i := 1) (N := some 59) hHeld ?_
    refine mK (i := 4) (N := some 62) hHeld ?_
    refine pv_ 6 (some 64) ?_
    refine mK (i := 7) (N := some 65) hHeld ?_
    refine pv_ 8 (some 66) ?_
    refine pv_ 9 (some 67) ?_
    refine la_ (i := 10) (N := none) (fun K hK => ?_)
    refine tK (w1 := ?_) (by rfl) rfl ?_ ?_
    rotate_left
    ·go_simp
     rfl
    refine hK.out _ _ ?_
    clear hK K
    refine ja (gU HT_.out (by kernel_rfl)) ?_
    try go_wp2
    go_meet
    case rel => exact ⟨_, (D5), (D6), (B0), (B3), (O8), (.slice E2 B0.length C8), (.slice F3 B3.length D0), (.slice (some ⟨I6, 0, none⟩) C5.length E0), H', ⟨jD⟩, ⟨by (with_reducible repeat (first | apply Kd.aC | apply Kd.aD | apply Kd.az)); exact Kd.ae (Kd.bV (p := ⟨I6, (C0 : Int).toNat, none⟩) (Kd.ae C1.out (fun k_ hk => (⟨hk, fun e_ => hk.1.1.2 (by rw [e_]; rfl)⟩ : _ ∧ k_ ≠ I6))) (fun _ hk => hk.2) (.int .i64 (wrap64 (1 - (rd C5 C0))))) (fun _ hk => ⟨hk.1.2, hk.1.1.1.2⟩)⟩, ⟨by (with_reducible repeat (first | apply Kd.aC | apply Kd.aD | apply Kd.az)); exact Kd.ae (Kd.bV (p := ⟨I6, (C0 : Int).toNat, none⟩) (Kd.ae C3.out (fun k_ hk => (⟨hk, fun e_ => hk.1.1.2 (by rw [e_]; rfl)⟩ : _ ∧ k_ ≠ I6))) (fun _ hk => hk.2) (.int .i64 (wrap64 (1 - (rd C5 C0))))) (fun _ hk => ⟨hk.1.2, hk.1.1.1.2⟩)⟩, ⟨by (with_reducible repeat (first | apply Kd.aC | apply Kd.aD | apply Kd.az)); exact Kd.ae P3.out (fun _ hk => ⟨hk.1.2, hk.2⟩)⟩, ⟨by (with_reducible repeat (first | refine dz ?_ _ | refine bU ?_ | refine dx ?_ _)); refine gu ?_ (by have h_ := Kd.gp A4.out BK486.out (by decide); intro e_; exact h_ (by rw [e_]; rfl)) _; (with_reducible repeat (first | refine dz ?_ _ | refine bU ?_ | refine dx ?_ _)); exact BK486.out⟩, ⟨by (with_reducible repeat (first | refine dz ?_ _ | refine bU ?_ | refine dx ?_ _)); refine gu ?_ (by have h_ := Kd.gp A4.out BK504.out (by decide); intro e_; exact h_ (by rw [e_]; rfl)) _; (with_reducible repeat (first | refine dz ?_ _ | refine bU ?_ | refine dx ?_ _)); exact BK504.out⟩, ⟨by repeat (first | (with_reducible first | exact HI0.out | apply aj.alloc | apply aj.drewN | apply aj.drew | apply aj.nL | apply aj.nM | refine aj.far ?_ HN0_go39.out _ | refine aj.far ?_ NB0_486.out _ | refine aj.far ?_ NB0_504.out _) | exact HI0.out)⟩, ⟨by repeat (first | (with_reducible first | exact HK.out | apply ax.uH | apply jv | apply iV | apply jr | refine iW ?_ P2.out _ | refine iW ?_ GW486.out _ | refine iW ?_ GW504.out _) | exact HK.out)⟩, ⟨by repeat (first | (with_reducible first | exact HB.out | apply aW | apply aN | apply aU | refine bi ?_ (Nat.le_trans HL.out P2.out) | refine bi ?_ (aj.ge HI0.out) | refine bi ?_ GE486.out | refine bi ?_ GE504.out) | exact HB.out)⟩⟩
   rw [if_neg c36] at H
   have I5 : (E9 == 0) = false := beq_eq_false_iff_ne.mpr c36
   have O7 : (E9 != 0) = true := bne_iff_ne.mpr c36
   (first | rw [I5] | (simp only [eU, gX]; rw [I5]) | skip)
   by_cases c42 : E9 = 1
   ·rw [if_pos c42] at H
    have P4 : (E9 == 1) = true := beq_iff_eq.mpr c42
    have P5 : (E9 != 1) = false := bne_eq_false_iff_eq.mpr c42
    clear c42
    replace H := ig_ H; obtain ⟨c43, H⟩ := H
    have p2 := decide_eq_true c43
    clear c43
    replace H := ig_ H; obtain ⟨c44, H⟩ := H
    have p3 := decide_eq_true c44
    clear c44
    replace H := ig_ H; obtain ⟨c45, H⟩ := H
    have p4 := decide_eq_true c45
    clear c45
    obtain ⟨L2, K1⟩ : ∃ y_ : List Int, y_ = (B0.set (C0 : Int).toNat (rd B3 C0)) := ⟨_, rfl⟩
    replace H : (aK.j0 k E6 s0_0 D5 D6 D7 D8 L2 (B3.set (C0 : Int).toNat (rd B0 C0)) C5) = some (r1, r2, r3, r4, r5, r6, r7, r8) := rh_ K1 H
    have P6 := a_ K1
    clear K1
    obtain ⟨N0, K2⟩ : ∃ y_ : List Int, y_ = (B3.set (C0 : Int).toNat (rd B0 C0)) := ⟨_, rfl⟩
    replace H : (aK.j0 k E6 s0_0 D5 D6 D7 D8 L2 N0 C5) = some (r1, r2, r3, r4, r5, r6, r7, r8) := rh_ K2 H
    have P7 := a_ K2
    clear K2
    have H' := a_ H
    clear H
    have hnb48 := E5.out
    have hnc48 := C9.out
    have hnb49 := D3.out
    have hnc49 := NB0_504.out
    obtain ⟨Z0, Z1, Z2, Z3, Z4, Z5, Z6, Z7, Z8, Z9⟩ := eH (w := Y9) BK504.out
    have N1 : 0 ≤ (C0 : Int) := of_decide_eq_true aG
    have N2 : C0 < (B0.length : Int) := of_decide_eq_true aG
    obtain ⟨p5, k2, J2⟩ := Kd.dM (Kd.aH C1.out).2.2 C0 N1 N2
    cases k2
    replace N1 := eq_true N1
    replace N2 := eq_true N2
    try go_wp2
    replace B4 := a_ (Kd.az B4.out)
    replace B7 := a_ (Kd.az B7.out)
    replace A4 := a_ (Kd.az A4.out)
    replace C4 := a_ (Kd.az C4.out)
    replace C1 := a_ (Kd.az C1.out)
    replace C3 := a_ (Kd.az C3.out)
    replace BK486 := a_ (bU BK486.out)
    replace BK504 := a_ (bU BK504.out)
    replace HI0 := a_ (aj.drew HI0.out)
    replace HK := a_ (iV HK.out)
    replace HB := a_ (aU HB.out)
    have N3 : 0 ≤ (C0 : Int) := of_decide_eq_true aG
    have N4 : C0 < (B3.length : Int) := of_decide_eq_true aG
    obtain ⟨G7, k3, I2⟩ := Kd.dM (Kd.aH C3.out).2.2 C0 N3 N4
    cases k3
    replace N3 := eq_true N3
    replace N4 := eq_true N4
    have k4 : 0 ≤ (C0 : Int) := of_decide_eq_true aG
    have k5 : (C0 : Int) < ((B0.length : Int) : Int) := of_decide_eq_true aG
    obtain ⟨D1, r9, P8, P9, gl46, cl46, HG46⟩ := Kd.lI C1.out (by omega)
    (first | cases P8 | (injection P8 with ea_ en_ ec_; (first | subst ea_ | (injection ea_ with ea_; subst ea_)); subst ec_; clear en_))
    have Q0 := a_ P9
    have k6 := a_ HG46
    clear P9 gl46 HG46
    (first | simp only [add_plain] at J2 | skip)
    obtain ⟨N5, N6⟩ := Kd.jA 0 C1.out (C0 : Int) k4 k5
    replace k4 := eq_true k4
    replace k5 := eq_true k5
    have HN0_go46 := a_ (show g ≠ D1 from by have h_ := aj.own_ne HI0.out C1.out (by decide); intro e_; exact h_ (by rw [e_]; rfl))
    have N7 := Kd.vW C1.out (C0 : Int) (rd B3 C0)
    rw [← P6.out] at N7
    have Q1 := a_ N7
    clear N7
    refine gQ (n := 10) (S := fun w' => w'.cell? ⟨A1, 0, none⟩ = some (.int .i64 D7) ∧ w'.cell? ⟨A1, 1, none⟩ = some (.int .i64 D8) ∧ w'.cell? ⟨A1, 2, none⟩ = some (.slice (some ⟨D1, 0, none⟩) B0.length C8) ∧ w'.cell? ⟨A1, 3, none⟩ = some (.slice (some G7) B3.length D0) ∧ w'.cell? ⟨A1, 4, none⟩ = some (.slice E3 C5.length E0) ∧ w'.cell? (G7.add (C0).toNat) = some (.int .i64 (rd B3 C0))) (ds := [9]) #[false, false, false, false, false, false, false, false, false, false] (by kernel_rfl) rfl rfl ⟨(ai BK504.out 0).trans rfl, (ai BK504.out 1).trans rfl, (ai BK504.out 2).trans rfl, (ai BK504.out 3).trans rfl, (ai BK504.out 4).trans rfl, I2⟩ (fun hHeld => ?_); refine fI aK.CR aK.Ba (fun HT_ HW_ => ?_)
    generalize Y9.drew = J6 at B4 B7 A4 C4 C1 C3 BK486 BK504 HI0 HK HB k6 Q1 N6 N5 J2 I2 hHeld ⊢
    refine pv_ 0 (some 75) ?_
    refine pv_ 2 (some 77) ?_
    refine pv_ 3 (some 78) ?_
    refine pv_ 5 (some 80) ?_
    refine mK (i := 1) (N := some 76) hHeld ?_
    refine mK (i := 4) (N := some 79) hHeld ?_
    refine pv_ 6 (some 81) ?_
    refine mK (i := 7) (N := some 82) hHeld ?_
    refine pv_ 8 (some 83) ?_
    refine la_ (i := 9) (N := none) (fun K hK => ?_)
    refine tK (w1 := ?_) (by rfl) rfl ?_ ?_
    rotate_left
    ·go_simp
     rfl
    refine hK.out _ _ ?_
    clear hK K
    refine ja (gU HT_.out (by kernel_rfl)) ?_
    have n0_ : ah (Kd.R (Kd.int .i64) 2 (J6.setCell ⟨D1, (C0 : Int).toNat, none⟩ (.int .i64 (rd B3 C0))) w.heap.size (fun k_ => nb_ k_ F0 D9.length E7 ∧ nb_ k_ E3 C5.length E0 ∧ nb_ k_ F7 E8.length F8 ∧ some k_ ≠ (.slice (some ⟨D1, 0, none⟩) B0.length C8 : Value).ownBlock ∧ some k_ ≠ (.slice (some G7) B3.length D0 : Value).ownBlock) (.slice F1 E1.length F2) E1) := ⟨by (with_reducible repeat (first | apply Kd.aC | apply Kd.aD | apply Kd.az)); exact Kd.ae (Kd.bV (p := ⟨D1, (C0 : Int).toNat, none⟩) (Kd.ae B4.out (fun k_ hk => (⟨hk, fun e_ => hk.1.2 (by rw [e_]; rfl)⟩ : _ ∧ k_ ≠ D1))) (fun _ hk => hk.2) (.int .i64 (rd B3 C0))) (fun _ hk => ⟨hk.1.1.1.1.1, ⟨hk.1.1.1.1.2, ⟨hk.1.1.1.2, ⟨hk.1.1.2, hk.1.2⟩⟩⟩⟩)⟩
    have n1_ : ah (Kd.R (Kd.int .i64) 2 (J6.setCell ⟨D1, (C0 : Int).toNat, none⟩ (.int .i64 (rd B3 C0))) w.heap.size (fun k_ => nb_ k_ F1 E1.length F2 ∧ nb_ k_ E3 C5.length E0 ∧ nb_ k_ F7 E8.length F8 ∧ some k_ ≠ (.slice (some ⟨D1, 0, none⟩) B0.length C8 : Value).ownBlock ∧ some k_ ≠ (.slice (some G7) B3.length D0 : Value).ownBlock) (.slice F0 D9.length E7) D9) := ⟨by (with_reducible repeat (first | apply Kd.aC | apply Kd.aD | apply Kd.az)); exact Kd.ae (Kd.bV (p := ⟨D1, (C0 : Int).toNat, none⟩) (Kd.ae B7.out (fun k_ hk => (⟨hk, fun e_ => hk.1.2 (by rw [e_]; rfl)⟩ : _ ∧ k_ ≠ D1))) (fun _ hk => hk.2) (.int .i64 (rd B3 C0))) (fun _ hk => ⟨hk.1.1.1.1.1, ⟨hk.1.1.1.1.2, ⟨hk.1.1.1.2, ⟨hk.1.1.2, hk.1.2⟩⟩⟩⟩)⟩
    have n2_ : ah (Kd.R (Kd.int .i64) 2 (J6.setCell ⟨D1, (C0 : Int).toNat, none⟩ (.int .i64 (rd B3 C0))) w.heap.size (fun k_ => nb_ k_ F1 E1.length F2 ∧ nb_ k_ F0 D9.length E7 ∧ nb_ k_ F7 E8.length F8 ∧ some k_ ≠ (.slice (some ⟨D1, 0, none⟩) B0.length C8 : Value).ownBlock ∧ some k_ ≠ (.slice (some G7) B3.length D0 : Value).ownBlock) (.slice E3 C5.length E0) C5) := ⟨by (with_reducible repeat (first | apply Kd.aC | apply Kd.aD | apply Kd.az)); exact Kd.ae (Kd.bV (p := ⟨D1, (C0 : Int).toNat, none⟩) (Kd.ae A4.out (fun k_ hk => (⟨hk, fun e_ => hk.1.2 (by rw [e_]; rfl)⟩ : _ ∧ k_ ≠ D1))) (fun _ hk => hk.2) (.int .i64 (rd B3 C0))) (fun _ hk => ⟨hk.1.1.1.1.1, ⟨hk.1.1.1.1.2, ⟨hk.1.1.1.2, ⟨hk.1.1.2, hk.1.2⟩⟩⟩⟩)⟩
    have n3_ : ah (Kd.R (Kd.int .i64) 2 (J6.setCell ⟨D1, (C0 : Int).toNat, none⟩ (.int .i64 (rd B3 C0))) w.heap.size (fun k_ => nb_ k_ F1 E1.length F2 ∧ nb_ k_ F0 D9.length E7 ∧ nb_ k_ E3 C5.length E0 ∧ some k_ ≠ (.slice (some ⟨D1, 0, none⟩) B0.length C8 : Value).ownBlock ∧ some k_ ≠ (.slice (some G7) B3.length D0 : Value).ownBlock) (.slice F7 E8.length F8) E8) := ⟨by (with_reducible repeat (first | apply Kd.aC | apply Kd.aD | apply Kd.az)); exact Kd.ae (Kd.bV (p := ⟨D1, (C0 : Int).toNat, none⟩) (Kd.ae C4.out (fun k_ hk => (⟨hk, fun e_ => hk.1.2 (by rw [e_]; rfl)⟩ : _ ∧ k_ ≠ D1))) (fun _ hk => hk.2) (.int .i64 (rd B3 C0))) (fun _ hk => ⟨hk.1.1.1.1.1.2, ⟨hk.1.1.1.1.2, ⟨hk.1.1.1.2, ⟨hk.1.1.2, hk.1.2⟩⟩⟩⟩)⟩
    have n4_ : ah (Kd.R (Kd.int .i64) 2 (J6.setCell ⟨D1, (C0 : Int).toNat, none⟩ (.int .i64 (rd B3 C0))) w.heap.size (fun k_ => nb_ k_ F1 E1.length F2 ∧ nb_ k_ F0 D9.length E7 ∧ nb_ k_ E3 C5.length E0 ∧ nb_ k_ F7 E8.length F8 ∧ some k_ ≠ (.slice (some G7) B3.length D0 : Value).ownBlock) (.slice (some ⟨D1, 0, none⟩) B0.length C8) L2) := ⟨by (with_reducible repeat (first | apply Kd.aC | apply Kd.aD | apply Kd.az)); exact Kd.ae Q1.out (fun _ hk => ⟨hk.1.1.1.1.2, ⟨hk.1.1.1.2, ⟨hk.1.1.2, ⟨hk.1.2, hk.2⟩⟩⟩⟩)⟩
    have n5_ : ah (Kd.R (Kd.int .i64) 2 (J6.setCell ⟨D1, (C0 : Int).toNat, none⟩ (.int .i64 (rd B3 C0))) w.heap.size (fun k_ => nb_ k_ F1 E1.length F2 ∧ nb_ k_ F0 D9.length E7 ∧ nb_ k_ E3 C5.length E0 ∧ nb_ k_ F7 E8.length F8 ∧ some k_ ≠ (.slice (some ⟨D1, 0, none⟩) B0.length C8 : Value).ownBlock) (.slice (some G7) B3.length D0) B3) := ⟨by (with_reducible repeat (first | apply Kd.aC | apply Kd.aD | apply Kd.az)); exact Kd.ae (Kd.bV (p := ⟨D1, (C0 : Int).toNat, none⟩) (Kd.ae C3.out (fun k_ hk => (⟨hk, fun e_ => hk.2 (by rw [e_]; rfl)⟩ : _ ∧ k_ ≠ D1))) (fun _ hk => hk.2) (.int .i64 (rd B3 C0))) (fun _ hk => ⟨hk.1.1.1.1.1.2, ⟨hk.1.1.1.1.2, ⟨hk.1.1.1.2, ⟨hk.1.1.2, hk.1.2⟩⟩⟩⟩)⟩
    have n6_ : ah ((J6.setCell ⟨D1, (C0 : Int).toNat, none⟩ (.int .i64 (rd B3 C0))).heap[C2]? = some (.cells #[.int .i64 0, .int .i64 0, .slice none 0 0, .slice none 0 0, .slice none 0 0] 28 (0, 0))) := ⟨by (with_reducible repeat (first | refine dz ?_ _ | refine bU ?_ | refine dx ?_ _)); refine gu ?_ (by have h_ := Kd.gp C1.out BK486.out (by decide); intro e_; exact h_ (by rw [e_]; rfl)) _; (with_reducible repeat (first | refine dz ?_ _ | refine bU ?_ | refine dx ?_ _)); exact BK486.out⟩
    have n7_ : ah ((J6.setCell ⟨D1, (C0 : Int).toNat, none⟩ (.int .i64 (rd B3 C0))).heap[A1]? = some (.cells #[.int .i64 D7, .int .i64 D8, .slice (some ⟨D1, 0, none⟩) B0.length C8, .slice (some G7) B3.length D0, .slice E3 C5.length E0] 28 (0, 0))) := ⟨by (with_reducible repeat (first | refine dz ?_ _ | refine bU ?_ | refine dx ?_ _)); refine gu ?_ (by have h_ := Kd.gp C1.out BK504.out (by decide); intro e_; exact h_ (by rw [e_]; rfl)) _; (with_reducible repeat (first | refine dz ?_ _ | refine bU ?_ | refine dx ?_ _)); exact BK504.out⟩
    have n8_ : ah (aj w0 (J6.setCell ⟨D1, (C0 : Int).toNat, none⟩ (.int .i64 (rd B3 C0))) g s0_0 D5 D6) := ⟨by repeat (first | (with_reducible first | exact HI0.out | apply aj.alloc | apply aj.drewN | apply aj.drew | apply aj.nL | apply aj.nM | refine aj.far ?_ HN0_go46.out _ | refine aj.far ?_ NB0_486.out _ | refine aj.far ?_ NB0_504.out _) | exact HI0.out)⟩
    have n9_ : ah (ax w (J6.setCell ⟨D1, (C0 : Int).toNat, none⟩ (.int .i64 (rd B3 C0))) g none) := ⟨by repeat (first | (with_reducible first | exact HK.out | apply ax.uH | apply jv | apply iV | apply jr | refine iW ?_ Q0.out _ | refine iW ?_ GW486.out _ | refine iW ?_ GW504.out _) | exact HK.out)⟩
    have n10_ : ah (Below w0.heap.size w0 (J6.setCell ⟨D1, (C0 : Int).toNat, none⟩ (.int .i64 (rd B3 C0)))) := ⟨by repeat (first | (with_reducible first | exact HB.out | apply aW | apply aN | apply aU | refine bi ?_ (Nat.le_trans HL.out Q0.out) | refine bi ?_ (aj.ge HI0.out) | refine bi ?_ GE486.out | refine bi ?_ GE504.out) | exact HB.out)⟩
    (try clear B4)
    (try clear B7)
    (try clear A4)
    (try clear C4)
    (try clear C1)
    (try clear C3)
    (try clear BK486)
    (try clear BK504)
    (try clear HI0)
    (try clear HK)
    (try clear HB)
    generalize (J6.setCell ⟨D1, (C0 : Int).toNat, none⟩ (.int .i64 (rd B3 C0))) = k7 at n0_ n1_ n2_ n3_ n4_ n5_ n6_ n7_ n8_ n9_ n10_ ⊢
    have B4 := n0_
    have B7 := n1_
    have A4 := n2_
    have C4 := n3_
    have C1 := n4_
    have C3 := n5_
    have BK486 := n6_
    have BK504 := n7_
    have HI0 := n8_
    have HK := n9_
    have HB := n10_
    clear n0_ n1_ n2_ n3_ n4_ n5_ n6_ n7_ n8_ n9_ n10_
    obtain ⟨a5, a6, a7, a8, a9, b0, b1, b2, b3, b4⟩ := eH (w := k7) BK504.out
    have k8 : 0 ≤ (C0 : Int) := of_decide_eq_true aG
    have k9 : (C0 : Int) < ((B3.length : Int) : Int) := of_decide_eq_true aG
    obtain ⟨G8, s6, Q2, Q3, gl47, cl47, HG47⟩ := Kd.lI C3.out (by omega)
    (first | cases Q2 | (injection Q2 with ea_ en_ ec_; (first | subst ea_ | (injection ea_ with ea_; subst ea_)); subst ec_; clear en_))
    have l3 := a_ Q3
    have s7 := a_ HG47
    clear Q3 gl47 HG47
    (first | simp only [add_plain] at I2 | skip)
    obtain ⟨l4, l5⟩ := Kd.jA 0 C3.out (C0 : Int) k8 k9
    replace k8 := eq_true k8
    replace k9 := eq_true k9
    obtain ⟨p6, hz55_⟩ := Kd.jA 0 C3.out (C0 : Int) (of_decide_eq_true aG) (of_decide_eq_true aG)
    have N8 := Kd.oU C3.out (C0 : Int) (rd B0 C0)
    try go_wp2_with (first | ((with_reducible refine jW (t := 2) (p := 88) rfl ?_); refine jJ (t := 2) (p := 88) (v := ?vo_w56) (w1 := (k7.setCell ⟨G8, (C0 : Int).toNat, none⟩ (.int .i64 (rd B0 C0)))) ?hg ?ho ?hn ?hr ?_; (case ho => rfl); (case hg => rfl); (case hn => rfl); (case hr => first | (go_simp; done) | (go_simp; rfl)); intro l6 hw; have hg : k7.grownBy l6 (some G8) := (by rw [hw]; exact N8.2); have hp_ : Kd.R (Kd.int .i64) 2 l6 w.heap.size (fun k_ => nb_ k_ F1 E1.length F2 ∧ nb_ k_ F0 D9.length E7 ∧ nb_ k_ E3 C5.length E0 ∧ nb_ k_ F7 E8.length F8 ∧ some k_ ≠ (.slice (some ⟨D1, 0, none⟩) B0.length C8 : Value).ownBlock) (.slice (some ⟨G8, 0, none⟩) B3.length D0) N0 := (by rw [hw, P7.out]; exact N8.1); clear N8; replace HI0 := a_ (aj.grown z5_ hg (aj.own_ne HI0.out C3.out (by decide))); replace BK486 := a_ (dA (g := C2) (rb_ BK486.out) hg (Kd.gp C3.out BK486.out (by decide))); replace B4 := a_ (Kd.dn (v := (.slice (some ⟨G8, 0, none⟩) B3.length D0)) (v1 := (.slice (some ⟨G8, 0, none⟩) B3.length D0)) (ok := (fun k_ => nb_ k_ F0 D9.length E7 ∧ nb_ k_ E3 C5.length E0 ∧ nb_ k_ F7 E8.length F8 ∧ some k_ ≠ (.slice (some ⟨D1, 0, none⟩) B0.length C8 : Value).ownBlock)) (rc_ (h := by exact Kd.ae B4.out (fun _ hk => ⟨⟨hk.1, ⟨hk.2.1, ⟨hk.2.2.1, hk.2.2.2.1⟩⟩⟩, hk.2.2.2.2⟩))) hg (.inl rfl)); replace B7 := a_ (Kd.dn (v := (.slice (some ⟨G8, 0, none⟩) B3.length D0)) (v1 := (.slice (some ⟨G8, 0, none⟩) B3.length D0)) (ok := (fun k_ => nb_ k_ F1 E1.length F2 ∧ nb_ k_ E3 C5.length E0 ∧ nb_ k_ F7 E8.length F8 ∧ some k_ ≠ (.slice (some ⟨D1, 0, none⟩) B0.length C8 : Value).ownBlock)) (rc_ (h := by exact Kd.ae B7.out (fun _ hk => ⟨⟨hk.1, ⟨hk.2.1, ⟨hk.2.2.1, hk.2.2.2.1⟩⟩⟩, hk.2.2.2.2⟩))) hg (.inl rfl)); replace A4 := a_ (Kd.dn (v := (.slice (some ⟨G8, 0, none⟩) B3.length D0)) (v1 := (.slice (some ⟨G8, 0, none⟩) B3.length D0)) (ok := (fun k_ => nb_ k_ F1 E1.length F2 ∧ nb_ k_ F0 D9.length E7 ∧ nb_ k_ F7 E8.length F8 ∧ some k_ ≠ (.slice (some ⟨D1, 0, none⟩) B0.length C8 : Value).ownBlock)) (rc_ (h := by exact Kd.ae A4.out (fun _ hk => ⟨⟨hk.1, ⟨hk.2.1, ⟨hk.2.2.1, hk.2.2.2.1⟩⟩⟩, hk.2.2.2.2⟩))) hg (.inl rfl)); replace BK504 := a_ (dA (g := A1) (rb_ BK504.out) hg (Kd.gp C3.out BK504.out (by decide))); replace C4 := a_ (Kd.dn (v := (.slice (some ⟨G8, 0, none⟩) B3.length D0)) (v1 := (.slice (some ⟨G8, 0, none⟩) B3.length D0)) (ok := (fun k_ => nb_ k_ F1 E1.length F2 ∧ nb_ k_ F0 D9.length E7 ∧ nb_ k_ E3 C5.length E0 ∧ some k_ ≠ (.slice (some ⟨D1, 0, none⟩) B0.length C8 : Value).ownBlock)) (rc_ (h := by exact Kd.ae C4.out (fun _ hk => ⟨⟨hk.1, ⟨hk.2.1, ⟨hk.2.2.1, hk.2.2.2.1⟩⟩⟩, hk.2.2.2.2⟩))) hg (.inl rfl)); replace C1 := a_ (Kd.dn (v := (.slice (some ⟨G8, 0, none⟩) B3.length D0)) (v1 := (.slice (some ⟨G8, 0, none⟩) B3.length D0)) (ok := (fun k_ => nb_ k_ F1 E1.length F2 ∧ nb_ k_ F0 D9.length E7 ∧ nb_ k_ E3 C5.length E0 ∧ nb_ k_ F7 E8.length F8)) (rc_ (h := by exact Kd.ae C1.out (fun _ hk => ⟨⟨hk.1, ⟨hk.2.1, ⟨hk.2.2.1, hk.2.2.2.1⟩⟩⟩, hk.2.2.2.2⟩))) hg (.inl rfl)); replace HB := a_ ((by rw [hw]; exact bi (HB.out) (Nat.le_trans HL.out l3.out) : Below w0.heap.size w0 l6)); replace HK := a_ (ax.trans jK (ax.iM hg g) (Kd.jE C3.out)); replace C3 := a_ (hp_); clear hg hw hp_))
    go_meet
    case rel => exact ⟨_, (D5), (D6), (L2), (N0), (C5), (.slice (some ⟨D1, 0, none⟩) B0.length C8), (.slice (some ⟨G8, 0, none⟩) B3.length D0), (.slice E3 C5.length E0), H', ⟨jD⟩, ⟨by (with_reducible repeat (first | apply Kd.aC | apply Kd.aD | apply Kd.az)); exact Kd.ae C1.out (fun _ hk => ⟨hk.2, hk.1.2.2.1⟩)⟩, ⟨by (with_reducible repeat (first | apply Kd.aC | apply Kd.aD | apply Kd.az)); exact Kd.ae C3.out (fun _ hk => ⟨hk.2.2.2.2, hk.2.2.1⟩)⟩, ⟨by (with_reducible repeat (first | apply Kd.aC | apply Kd.aD | apply Kd.az)); exact Kd.ae A4.out (fun _ hk => ⟨hk.1.2.2.2, hk.2⟩)⟩, ⟨BU⟩, ⟨BV⟩, ⟨z5_⟩, ⟨jK⟩, ⟨z8_⟩⟩
   rw [if_neg c42] at H
   have P4 : (E9 == 1) = false := beq_eq_false_iff_ne.mpr c42
   have P5 : (E9 != 1) = true := bne_iff_ne.mpr c42
   by_cases c57 : E9 = 2
   ·rw [if_pos c57] at H
    have Q4 : (E9 == 2) = true := beq_iff_eq.mpr c57
    have Q5 : (E9 != 2) = false := bne_eq_false_iff_eq.mpr c57
    clear c57
    replace H := ig_ H; obtain ⟨c58, H⟩ := H
    have p7 := decide_eq_true c58
    have p8 : decide (0 < B0.length) = true := decide_eq_true (by omega)
    clear c58
    obtain ⟨N9, K3⟩ : ∃ y_ : List Int, y_ = (([0, 1, rd B0 0, 1000000000] : List Int)) := ⟨_, rfl⟩
    replace H : ((eu.f s0_0 D5 D6 N9).bind fun F9 => (if 0 ≤ C0 then (if C0 < (B0.length : Int) then (aK.j0 k E6 s0_0 F9.2.1 F9.2.2 D7 D8 (B0.set (C0 : Int).toNat F9.1) B3 C5) else (none)) else (none))) = some (r1, r2, r3, r4, r5, r6, r7, r8) := rh_ K3 H
    have L7 := a_ K3
    clear K3
    replace H := bo_ H; obtain ⟨⟨K4, O0, O1⟩, s8, H⟩ := H; (try dsimp only at H)
    replace H := ig_ H; obtain ⟨c60, H⟩ := H
    have p9 := decide_eq_true c60
    clear c60
    replace H := ig_ H; obtain ⟨c61, H⟩ := H
    have q0 := decide_eq_true c61
    clear c61
    obtain ⟨Q6, K5⟩ : ∃ y_ : List Int, y_ = (B0.set (C0 : Int).toNat K4) := ⟨_, rfl⟩
    replace H : (aK.j0 k E6 s0_0 O0 O1 D7 D8 Q6 B3 C5) = some (r1, r2, r3, r4, r5, r6, r7, r8) := rh_ K5 H
    have Q7 := a_ K5
    clear K5
    have H' := a_ H
    clear H
    try go_wp2
    replace B4 := a_ (Kd.az B4.out)
    replace B7 := a_ (Kd.az B7.out)
    replace A4 := a_ (Kd.az A4.out)
    replace C4 := a_ (Kd.az C4.out)
    replace C1 := a_ (Kd.az C1.out)
    replace C3 := a_ (Kd.az C3.out)
    replace BK486 := a_ (bU BK486.out)
    replace BK504 := a_ (bU BK504.out)
    replace HI0 := a_ (aj.drew HI0.out)
    replace HK := a_ (iV HK.out)
    replace HB := a_ (aU HB.out)
    have O2 : 0 ≤ (0 : Int) := (by omega)
    have O3 : 0 < (B0.length : Int) := of_decide_eq_true aG
    obtain ⟨L8, l7, G9⟩ := Kd.dM (Kd.aH C1.out).2.2 0 O2 O3
    cases l7
    have qi541 : (0 < B0.length) = True := eq_true (by omega)
    (try rw [show ((0 : Int)).toNat = 0 from rfl] at G9)
    (try rw [Addr.add_zero'] at G9)
    replace O2 := eq_true O2
    replace O3 := eq_true O3
    refine gQ (n := 12) (S := fun w' => w'.cell? ⟨A1, 0, none⟩ = some (.int .i64 D7) ∧ w'.cell? ⟨A1, 1, none⟩ = some (.int .i64 D8) ∧ w'.cell? ⟨A1, 2, none⟩ = some (.slice (some L8) B0.length C8) ∧ w'.cell? ⟨A1, 3, none⟩ = some (.slice F3 B3.length D0) ∧ w'.cell? ⟨A1, 4, none⟩ = some (.slice E3 C5.length E0) ∧ w'.cell? L8 = some (.int .i64 (rd B0 0))) (ds := [11]) #[false, false, false, false, false, false, false, false, false, false, false, false] (by kernel_rfl) rfl rfl ⟨(ai BK504.out 0).trans rfl, (ai BK504.out 1).trans rfl, (ai BK504.out 2).trans rfl, (ai BK504.out 3).trans rfl, (ai BK504.out 4).trans rfl, G9⟩ (fun hHeld => ?_); refine fI aK.CU aK.Bc (fun HT_ HW_ => ?_)
    generalize Y9.drew = v5 at B4 B7 A4 C4 C1 C3 BK486 BK504 HI0 HK HB G9 hHeld ⊢
    refine pv_ 0 (some 91) ?_
    refine pv_ 2 (some 93) ?_
    refine pv_ 3 (some 94) ?_
    refine pv_ 4 (some 95) ?_
    refine mK (i := 1) (N := some 92) hHeld ?_
    refine mK (i := 5) (N := some 96) hHeld ?_
    refine pv_ 6 (some 97) ?_
    refine mK (i := 7) (N := some 98) hHeld ?_
    refine on_ (i := 8) (N := some 99) (fun K hK => ?_)
    refine Kd.nP (Kd.int .i64) _ 2 ?hg (N := 99) ?hd (xs := ([0, 1, rd B0 0, 1000000000] : List Int)) (inner := [.int .i64 0, .int .i64 1, .int .i64 (rd B0 0), .int .i64 1000000000]) (ok := fun _ => True) (okp := fun _ => True) ?hr ?hp (fun _ hk => hk) trivial (Below.refl _ _) (Nat.le_refl _) (by simp) ?_; (case hd => rfl); (case hg => rfl); (case hr => first | (go_simp; done) | (go_simp; rfl)); (case hp => exact (dm.one (show Kd.M (Kd.int .i64) _ _ _ 0 [.int .i64 0] from rfl) (dm.one (show Kd.M (Kd.int .i64) _ _ _ 1 [.int .i64 1] from rfl) (dm.one (show Kd.M (Kd.int .i64) _ _ _ (rd B0 0) [.int .i64 (rd B0 0)] from rfl) (dm.one (show Kd.M (Kd.int .i64) _ _ _ 1000000000 [.int .i64 1000000000] from rfl) (dm.none _ _))))))
    intro s9 v6 ho65 hb hg_ hnew_
    have HS5_ := (hb.cell (World.block_lt_of_cell? _ _ (hHeld.2.2.2.2.2))).trans (hHeld.2.2.2.2.2)
    clear hg_ hnew_
    (first | rw [← L7.out] at ho65 | (simp only [Int.reduceToNat] at ho65; rw [← L7.out] at ho65))
    have H5 := a_ (Kd.bu (Kd.dF (Kd.dF (Kd.dF (Kd.dF (Kd.dF (Kd.dF ho65 (Kd.dR (ra_ B4.out))) (Kd.dR (ra_ B7.out))) (Kd.dR (ra_ A4.out))) (Kd.dR (ra_ C4.out))) (Kd.dR (ra_ C1.out))) (Kd.dR (ra_ C3.out))) (dZ (w := w) (g := g) (row := none) jK))
    replace B4 := a_ (Kd.bB (ra_ B4.out) (Kd.bN ho65) hb)
    replace B7 := a_ (Kd.bB (ra_ B7.out) (Kd.bN ho65) hb)
    replace A4 := a_ (Kd.bB (ra_ A4.out) (Kd.bN ho65) hb)
    replace C4 := a_ (Kd.bB (ra_ C4.out) (Kd.bN ho65) hb)
    replace C1 := a_ (Kd.bB (ra_ C1.out) (Kd.bN ho65) hb)
    replace C3 := a_ (Kd.bB (ra_ C3.out) (Kd.bN ho65) hb)
    replace BK486 := bb_ C2 BK486 hb
    replace BK504 := bb_ A1 BK504 hb
    replace HK := a_ (ax.trans jK (ax.of_below hb g none) (.inl rfl))
    replace HB := df z8_ hb
    replace HI0 := a_ (aj.below z5_ hb)
    clear hb ho65
    obtain ⟨l8, l9, O4⟩ := Kd.bg H5.out
    (first | subst O4 | (injection O4.symm with f1_ f2_ f3_; clear f2_ O4; subst f1_ f3_))
    refine hK.out _ _ ⟨(ai BK504.out 0).trans rfl, (ai BK504.out 1).trans rfl, (ai BK504.out 2).trans rfl, (ai BK504.out 3).trans rfl, (ai BK504.out 4).trans rfl, HS5_⟩ (fun hHeld => ?_)
    clear hK K
    refine nm_ ?_
    refine on_ (i := 9) (N := some 100) (fun K hK => ?_)
    refine jq Tryz.func53 (by kernel_rfl) rfl #[.pointer (some ⟨g, 0, none⟩), .slice l8 N9.length l9] (by rfl) rfl rfl dL ?_
    with_reducible refine (eu.calls g s0_0 D5 D6 _ _ N9 K4 O0 O1 w0 _ ?side1 ?side2 ?side3 ?side4 ?side5 s8.out).mono ?_
    (case side1 => exact z5_)
    (case side2 => exact z8_)
    (case side3 => exact (by (repeat (first | exact (Kd.aH H5.out).2.2 | (with_reducible refine Kd.dH ?_ _) | (with_reducible refine Kd.dJ ?_ _) | (with_reducible refine Kd.dX ?_))); first | done | fail))
    (case side4 => exact (Kd.aH H5.out).2.1)
    (case side5 => exact mZ (aj.own_ne HI0.out H5.out (by decide)))
    rintro e v7 ⟨rfl, hi, hb, hk⟩
    have HS5_ := lw hk (hHeld.2.2.2.2.2) (by first | (rw [add_block]; exact Kd.jO (aj.own_ne HI0.out C1.out (by decide))) | (show (Addr.add _ _).block ≠ _; rw [add_block]; exact Kd.jO (aj.own_ne HI0.out C1.out (by decide))) | exact Kd.jO (aj.own_ne HI0.out C1.out (by decide)))
    refine ⟨_, rfl, ?_⟩
    replace BK486 := a_ (ax.blk hk (g' := C2) (rb_ BK486.out) D4.out (by simp))
    replace B4 := a_ (Kd.ae (Kd.dC (aj.apart (show aj w0 _ g s0_0 D5 D6 from z5_) (ra_ B4.out) (by decide)) hk (fun _ h => h.2)) (fun _ h => h.1))
    replace B7 := a_ (Kd.ae (Kd.dC (aj.apart (show aj w0 _ g s0_0 D5 D6 from z5_) (ra_ B7.out) (by decide)) hk (fun _ h => h.2)) (fun _ h => h.1))
    replace A4 := a_ (Kd.ae (Kd.dC (aj.apart (show aj w0 _ g s0_0 D5 D6 from z5_) (ra_ A4.out) (by decide)) hk (fun _ h => h.2)) (fun _ h => h.1))
    replace BK504 := a_ (ax.blk hk (g' := A1) (rb_ BK504.out) D3.out (by simp))
    replace C4 := a_ (Kd.ae (Kd.dC (aj.apart (show aj w0 _ g s0_0 D5 D6 from z5_) (ra_ C4.out) (by decide)) hk (fun _ h => h.2)) (fun _ h => h.1))
    replace C1 := a_ (Kd.ae (Kd.dC (aj.apart (show aj w0 _ g s0_0 D5 D6 from z5_) (ra_ C1.out) (by decide)) hk (fun _ h => h.2)) (fun _ h => h.1))
    replace C3 := a_ (Kd.ae (Kd.dC (aj.apart (show aj w0 _ g s0_0 D5 D6 from z5_) (ra_ C3.out) (by decide)) hk (fun _ h => h.2)) (fun _ h => h.1))
    replace H5 := a_ (Kd.ae (Kd.dC (aj.apart (show aj w0 _ g s0_0 D5 D6 from z5_) (ra_ H5.out) (by decide)) hk (fun _ h => h.2)) (fun _ h => h.1))
    replace HK := a_ (ax.trans jK hk (.inl rfl))
    replace HB := a_ (hb)
    replace HI0 := a_ (hi)
    (try clear hb)
    (try clear hb2)
    (try clear hk)
    (try clear hi)
    have m0 : 0 ≤ (C0 : Int) := of_decide_eq_true aG
    have m1 : (C0 : Int) < ((B0.length : Int) : Int) := of_decide_eq_true aG
    obtain ⟨J4, t1, Q8, Q9, gl62, cl62, HG62⟩ := Kd.lI C1.out (by omega)
    (first | cases Q8 | (injection Q8 with ea_ en_ ec_; (first | subst ea_ | (injection ea_ with ea_; subst ea_)); subst ec_; clear en_))
    have R0 := a_ Q9
    have t2 := a_ HG62
    clear Q9 gl62 HG62
    (first | simp only [add_plain] at G9 | skip)
    obtain ⟨m2, m3⟩ := Kd.jA 0 C1.out (C0 : Int) m0 m1
    replace m0 := eq_true m0
    replace m1 := eq_true m1
    have HN0_go62 := a_ (show g ≠ J4 from by have h_ := aj.own_ne HI0.out C1.out (by decide); intro e_; exact h_ (by rw [e_]; rfl))
    have O5 := Kd.vW C1.out (C0 : Int) K4
    rw [← Q7.out] at O5
    have m4 := a_ O5
    clear O5
    refine hK.out _ _ ⟨(ai BK504.out 0).trans rfl, (ai BK504.out 1).trans rfl, (ai BK504.out 2).trans rfl, (ai BK504.out 3).trans rfl, (ai BK504.out 4).trans rfl, HS5_⟩ (fun hHeld => ?_)
    clear hK K
    refine nm_ ?_
    refine pv_ 10 (some 101) ?_
    refine la_ (i := 11) (N := none) (fun K hK => ?_)
    refine tK (w1 := ?_) (by rfl) rfl ?_ ?_
    rotate_left
    ·go_simp
     rfl
    refine hK.out _ _ ?_
    clear hK K
    refine ja (gU HT_.out (by kernel_rfl)) ?_
    try go_wp2
    go_meet
    case rel => exact ⟨_, (O0), (O1), (Q6), (B3), (C5), (.slice (some ⟨J4, 0, none⟩) B0.length C8), (.slice F3 B3.length D0), (.slice E3 C5.length E0), H', ⟨jD⟩, ⟨by (with_reducible repeat (first | apply Kd.aC | apply Kd.aD | apply Kd.az)); exact Kd.ae m4.out (fun _ hk => ⟨hk.1.2, hk.1.1.1.2⟩)⟩, ⟨by (with_reducible repeat (first | apply Kd.aC | apply Kd.aD | apply Kd.az)); exact Kd.ae (Kd.bV (p := ⟨J4, (C0 : Int).toNat, none⟩) (Kd.ae C3.out (fun k_ hk => (⟨hk, fun e_ => hk.1.2 (by rw [e_]; rfl)⟩ : _ ∧ k_ ≠ J4))) (fun _ hk => hk.2) (.int .i64 K4)) (fun _ hk => ⟨hk.1.1.2, hk.1.1.1.1.2⟩)⟩, ⟨by (with_reducible repeat (first | apply Kd.aC | apply Kd.aD | apply Kd.az)); exact Kd.ae (Kd.bV (p := ⟨J4, (C0 : Int).toNat, none⟩) (Kd.ae A4.out (fun k_ hk => (⟨hk, fun e_ => hk.1.1.2 (by rw [e_]; rfl)⟩ : _ ∧ k_ ≠ J4))) (fun _ hk => hk.2) (.int .i64 K4)) (fun _ hk => ⟨hk.1.1.1.2, hk.1.1.2⟩)⟩, ⟨by (with_reducible repeat (first | refine dz ?_ _ | refine bU ?_ | refine dx ?_ _)); refine gu ?_ (by have h_ := Kd.gp C1.out BK486.out (by decide); intro e_; exact h_ (by rw [e_]; rfl)) _; (with_reducible repeat (first | refine dz ?_ _ | refine bU ?_ | refine dx ?_ _)); exact BK486.out⟩, ⟨by (with_reducible repeat (first | refine dz ?_ _ | refine bU ?_ | refine dx ?_ _)); refine gu ?_ (by have h_ := Kd.gp C1.out BK504.out (by decide); intro e_; exact h_ (by rw [e_]; rfl)) _; (with_reducible repeat (first | refine dz ?_ _ | refine bU ?_ | refine dx ?_ _)); exact BK504.out⟩, ⟨by repeat (first | (with_reducible first | exact HI0.out | apply aj.alloc | apply aj.drewN | apply aj.drew | apply aj.nL | apply aj.nM | refine aj.far ?_ HN0_go62.out _ | refine aj.far ?_ NB0_486.out _ | refine aj.far ?_ NB0_504.out _) | exact HI0.out)⟩, ⟨by repeat (first | (with_reducible first | exact HK.out | apply ax.uH | apply jv | apply iV | apply jr | refine iW ?_ R0.out _ | refine iW ?_ GW486.out _ | refine iW ?_ GW504.out _) | exact HK.out)⟩, ⟨by repeat (first | (with_reducible first | exact HB.out | apply aW | apply aN | apply aU | refine bi ?_ (Nat.le_trans HL.out R0.out) | refine bi ?_ (aj.ge HI0.out) | refine bi ?_ GE486.out | refine bi ?_ GE504.out) | exact HB.out)⟩⟩
   rw [if_neg c57] at H
   have Q4 : (E9 == 2) = false := beq_eq_false_iff_ne.mpr c57
   have Q5 : (E9 != 2) = true := bne_iff_ne.mpr c57
   by_cases c69 : E9 = 3
   ·rw [if_pos c69] at H
    have R1 : (E9 == 3) = true := beq_iff_eq.mpr c69
    have R2 : (E9 != 3) = false := bne_eq_false_iff_eq.mpr c69
    clear c69
    replace H := bo_ H; obtain ⟨⟨J1, K6, K7⟩, q1, H⟩ := H; (try dsimp only at H)
    by_cases c71 : J1 = 0
    ·rw [if_pos c71] at H
     have R3 : (J1 == 0) = true := beq_iff_eq.mpr c71
     have R4 : (J1 != 0) = false := bne_eq_false_iff_eq.mpr c71
     clear c71
     replace H := ig_ H; obtain ⟨c72, H⟩ := H
     have LMc72 := a_ c72
     clear c72
     obtain ⟨J5, K8⟩ : ∃ y_ : List Int, y_ = (C5 ++ [0]) := ⟨_, rfl⟩
     replace H : (aK.j0 k E6 s0_0 K6 K7 D7 D8 B0 B3 J5) = some (r1, r2, r3, r4, r5, r6, r7, r8) := rh_ K8 H
     have R5 := a_ K8
     clear K8
     have H' := a_ H
     clear H
     go_wp2_with (first | ((with_reducible refine av (f := 52) rfl ?_); refine bI (some 105) rfl rfl Tryz.func52 (by kernel_rfl) rfl #[.pointer (some ⟨g, 0, none⟩), .int .i64 3] rfl dL ?_; (with_reducible refine (aT.calls g s0_0 D5 D6 3 J1 K6 K7 w0 _ ?side1 ?side2 q1.out).mono ?_); (case side1 => exact z5_); (case side2 => exact z8_); rintro e t3 ⟨rfl, hi, hb, hk⟩; refine ⟨_, rfl, ?_⟩; replace BK486 := a_ (ax.blk hk (g' := C2) (rb_ BK486.out) D4.out (by simp)); replace B4 := a_ (Kd.ae (Kd.dC (aj.apart (show aj w0 _ g s0_0 D5 D6 from z5_) (ra_ B4.out) (by decide)) hk (fun _ h => h.2)) (fun _ h => h.1)); replace B7 := a_ (Kd.ae (Kd.dC (aj.apart (show aj w0 _ g s0_0 D5 D6 from z5_) (ra_ B7.out) (by decide)) hk (fun _ h => h.2)) (fun _ h => h.1)); replace A4 := a_ (Kd.ae (Kd.dC (aj.apart (show aj w0 _ g s0_0 D5 D6 from z5_) (ra_ A4.out) (by decide)) hk (fun _ h => h.2)) (fun _ h => h.1)); replace BK504 := a_ (ax.blk hk (g' := A1) (rb_ BK504.out) D3.out (by simp)); replace C4 := a_ (Kd.ae (Kd.dC (aj.apart (show aj w0 _ g s0_0 D5 D6 from z5_) (ra_ C4.out) (by decide)) hk (fun _ h => h.2)) (fun _ h => h.1)); replace C1 := a_ (Kd.ae (Kd.dC (aj.apart (show aj w0 _ g s0_0 D5 D6 from z5_) (ra_ C1.out) (by decide)) hk (fun _ h => h.2)) (fun _ h => h.1)); replace C3 := a_ (Kd.ae (Kd.dC (aj.apart (show aj w0 _ g s0_0 D5 D6 from z5_) (ra_ C3.out) (by decide)) hk (fun _ h => h.2)) (fun _ h => h.1)); replace HK := a_ (ax.trans jK hk (.inl rfl)); replace HB := a_ (hb); replace HI0 := a_ (hi); (try clear hb); (try clear hk); (try clear hi); have hnb74 := E5.out; have hnc74 := C9.out; have hnb75 := D3.out; have hnc75 := NB0_504.out; obtain ⟨b5, b6, b7, b8, b9, c1, d0, d1, d2, d3⟩ := eH (w := t3) BK504.out) | ((with_reducible refine bF (b := .append) (xs := #[.tmp 108, .tmp 109]) rfl ?_); at_builtin; refine Kd.fH (Kd.int .i64) w.heap.size rfl (.tmp 108) (.tmp 109) 22 2 (.int .i64 0) 8 rfl Tryz.underlying22 jc rfl (by decide) (by omega) (.slice E3 C5.length E0) C5 0 [.int .i64 0] (fun k_ => nb_ k_ F1 E1.length F2 ∧ nb_ k_ F0 D9.length E7 ∧ nb_ k_ F7 E8.length F8 ∧ nb_ k_ E2 B0.length C8 ∧ nb_ k_ F3 B3.length D0) (fun _ => False) rfl rfl ?aP (fun _ hk => hk.elim) ?aF ?aO (Below.refl _ _) ?aS ?aL ?_; (case aP => exact rfl); (case aF => exact (fun k_ hk => ⟨Kd.fe (Kd.dR (ra_ B4.out)) k_ hk, Kd.fe (Kd.dR (ra_ B7.out)) k_ hk, Kd.fe (Kd.dR (ra_ C4.out)) k_ hk, Kd.fe (Kd.dR (ra_ C1.out)) k_ hk, Kd.fe (Kd.dR (ra_ C3.out)) k_ hk⟩)); (case aO => exact (rc_ (h := by exact Kd.ae A4.out (fun _ hk => ⟨hk.1.1.1.1, ⟨hk.1.1.1.2, ⟨hk.1.1.2, ⟨hk.1.2, hk.2⟩⟩⟩⟩)))); (case aS => exact (dZ (w := w) (g := g) (row := none) jK)); (case aL => have := LMc72.out; omega); intro t4 t5 ho hb hg hat; rw [← R5.out] at ho; replace BK486 := a_ (dA (g := C2) (rb_ BK486.out) hg (Kd.gp A4.out BK486.out (by decide))); replace B4 := a_ (Kd.dn (ok := (fun k_ => nb_ k_ F0 D9.length E7 ∧ nb_ k_ F7 E8.length F8 ∧ nb_ k_ E2 B0.length C8 ∧ nb_ k_ F3 B3.length D0)) (rc_ (h := by exact Kd.ae B4.out (fun _ hk => ⟨⟨hk.1.1.1.1, ⟨hk.1.1.2, ⟨hk.1.2, hk.2⟩⟩⟩, hk.1.1.1.2⟩))) hg hat); replace B7 := a_ (Kd.dn (ok := (fun k_ => nb_ k_ F1 E1.length F2 ∧ nb_ k_ F7 E8.length F8 ∧ nb_ k_ E2 B0.length C8 ∧ nb_ k_ F3 B3.length D0)) (rc_ (h := by exact Kd.ae B7.out (fun _ hk => ⟨⟨hk.1.1.1.1, ⟨hk.1.1.2, ⟨hk.1.2, hk.2⟩⟩⟩, hk.1.1.1.2⟩))) hg hat); replace BK504 := a_ (dA (g := A1) (rb_ BK504.out) hg (Kd.gp A4.out BK504.out (by decide))); replace C4 := a_ (Kd.dn (ok := (fun k_ => nb_ k_ F1 E1.length F2 ∧ nb_ k_ F0 D9.length E7 ∧ nb_ k_ E2 B0.length C8 ∧ nb_ k_ F3 B3.length D0)) (rc_ (h := by exact Kd.ae C4.out (fun _ hk => ⟨⟨hk.1.1.1.1.2, ⟨hk.1.1.1.2, ⟨hk.1.2, hk.2⟩⟩⟩, hk.1.1.2⟩))) hg hat); replace C1 := a_ (Kd.dn (ok := (fun k_ => nb_ k_ F1 E1.length F2 ∧ nb_ k_ F0 D9.length E7 ∧ nb_ k_ F7 E8.length F8 ∧ nb_ k_ F3 B3.length D0)) (rc_ (h := by exact Kd.ae C1.out (fun _ hk => ⟨⟨hk.1.1.1.1.2, ⟨hk.1.1.1.2, ⟨hk.1.2, hk.2⟩⟩⟩, hk.1.1.2⟩))) hg hat); replace C3 := a_ (Kd.dn (ok := (fun k_ => nb_ k_ F1 E1.length F2 ∧ nb_ k_ F0 D9.length E7 ∧ nb_ k_ F7 E8.length F8 ∧ nb_ k_ E2 B0.length C8)) (rc_ (h := by exact Kd.ae C3.out (fun _ hk => ⟨⟨hk.1.1.1.1.2, ⟨hk.1.1.1.2, ⟨hk.1.2, hk.2⟩⟩⟩, hk.1.1.2⟩))) hg hat); replace HB := a_ (gq z8_ HL.out hb); replace HI0 := a_ (aj.grown z5_ hg (aj.own_ne HI0.out A4.out (by decide))); replace HK := a_ (ax.trans jK (ax.iM hg g) (Kd.jE A4.out)); have L9 := a_ (ho); clear A4; clear ho hb hg hat; obtain ⟨L3, L4, m5⟩ := Kd.bg L9.out; subst m5; obtain ⟨d4, d5, d6, d7, d8, d9, e0, e1, e2, e3⟩ := eH (w := t5) BK504.out))
     go_meet
     case rel => exact ⟨_, (K6), (K7), (B0), (B3), (J5), (.slice E2 B0.length C8), (.slice F3 B3.length D0), (.slice L3 J5.length L4), H', ⟨jD⟩, ⟨by (with_reducible repeat (first | apply Kd.aC | apply Kd.aD | apply Kd.az)); exact Kd.ae (Kd.bV (p := ⟨A1, 4, none⟩) (Kd.eT C1.out BK504.out (by decide)) (fun _ hk => hk.2) (.slice L3 J5.length L4)) (fun _ hk => ⟨hk.1.1.2.2.2, hk.1.2⟩)⟩, ⟨by (with_reducible repeat (first | apply Kd.aC | apply Kd.aD | apply Kd.az)); exact Kd.ae (Kd.bV (p := ⟨A1, 4, none⟩) (Kd.eT C3.out BK504.out (by decide)) (fun _ hk => hk.2) (.slice L3 J5.length L4)) (fun _ hk => ⟨hk.1.1.2.2.2, hk.1.2⟩)⟩, ⟨by (with_reducible repeat (first | apply Kd.aC | apply Kd.aD | apply Kd.az)); exact Kd.ae (Kd.bV (p := ⟨A1, 4, none⟩) (Kd.eT L9.out BK504.out (by decide)) (fun _ hk => hk.2) (.slice L3 J5.length L4)) (fun _ hk => ⟨hk.1.2.2.2.1, hk.1.2.2.2.2⟩)⟩, ⟨(iI (h := by exact AX C9.out BK486.out))⟩, ⟨by (with_reducible repeat (first | refine dz ?_ _ | refine bU ?_ | refine dx ?_ _)); refine fP (cs := #[.int .i64 D7, .int .i64 D8, .slice E2 B0.length C8, .slice F3 B3.length D0, .slice E3 C5.length E0]) ?_ 4 _ rfl; (with_reducible repeat (first | refine dz ?_ _ | refine bU ?_ | refine dx ?_ _)); exact BK504.out⟩, ⟨z5_⟩, ⟨jK⟩, ⟨z8_⟩⟩
    rw [if_neg c71] at H
    have R3 : (J1 == 0) = false := beq_eq_false_iff_ne.mpr c71
    have R4 : (J1 != 0) = true := bne_iff_ne.mpr c71
    have H' := a_ H
    clear H
    go_wp2_with (first | ((with_reducible refine av (f := 52) rfl ?_); refine bI (some 105) rfl rfl Tryz.func52 (by kernel_rfl) rfl #[.pointer (some ⟨g, 0, none⟩), .int .i64 3] rfl dL ?_; (with_reducible refine (aT.calls g s0_0 D5 D6 3 J1 K6 K7 w0 _ ?side1 ?side2 q1.out).mono ?_); (case side1 => exact z5_); (case side2 => exact z8_); rintro e v8 ⟨rfl, hi, hb, hk⟩; refine ⟨_, rfl, ?_⟩; replace BK486 := a_ (ax.blk hk (g' := C2) (rb_ BK486.out) D4.out (by simp)); replace B4 := a_ (Kd.ae (Kd.dC (aj.apart (show aj w0 _ g s0_0 D5 D6 from z5_) (ra_ B4.out) (by decide)) hk (fun _ h => h.2)) (fun _ h => h.1)); replace B7 := a_ (Kd.ae (Kd.dC (aj.apart (show aj w0 _ g s0_0 D5 D6 from z5_) (ra_ B7.out) (by decide)) hk (fun _ h => h.2)) (fun _ h => h.1)); replace A4 := a_ (Kd.ae (Kd.dC (aj.apart (show aj w0 _ g s0_0 D5 D6 from z5_) (ra_ A4.out) (by decide)) hk (fun _ h => h.2)) (fun _ h => h.1)); replace BK504 := a_ (ax.blk hk (g' := A1) (rb_ BK504.out) D3.out (by simp)); replace C4 := a_ (Kd.ae (Kd.dC (aj.apart (show aj w0 _ g s0_0 D5 D6 from z5_) (ra_ C4.out) (by decide)) hk (fun _ h => h.2)) (fun _ h => h.1)); replace C1 := a_ (Kd.ae (Kd.dC (aj.apart (show aj w0 _ g s0_0 D5 D6 from z5_) (ra_ C1.out) (by decide)) hk (fun _ h => h.2)) (fun _ h => h.1)); replace C3 := a_ (Kd.ae (Kd.dC (aj.apart (show aj w0 _ g s0_0 D5 D6 from z5_) (ra_ C3.out) (by decide)) hk (fun _ h => h.2)) (fun _ h => h.1)); replace HK := a_ (ax.trans jK hk (.inl rfl)); replace HB := a_ (hb); replace HI0 := a_ (hi); (try clear hb); (try clear hk); (try clear hi)))
    go_meet
    case rel => exact ⟨_, (K6), (K7), (B0), (B3), (C5), (.slice E2 B0.length C8), (.slice F3 B3.length D0), (.slice E3 C5.length E0), H', ⟨jD⟩, ⟨by (with_reducible repeat (first | apply Kd.aC | apply Kd.aD | apply Kd.az)); exact Kd.ae C1.out (fun _ hk => ⟨hk.2, hk.1.1.2⟩)⟩, ⟨by (with_reducible repeat (first | apply Kd.aC | apply Kd.aD | apply Kd.az)); exact Kd.ae C3.out (fun _ hk => ⟨hk.2, hk.1.1.2⟩)⟩, ⟨by (with_reducible repeat (first | apply Kd.aC | apply Kd.aD | apply Kd.az)); exact Kd.ae A4.out (fun _ hk => ⟨hk.1.2, hk.2⟩)⟩, ⟨BU⟩, ⟨BV⟩, ⟨z5_⟩, ⟨jK⟩, ⟨z8_⟩⟩
   rw [if_neg c69] at H
   have R1 : (E9 == 3) = false := beq_eq_false_iff_ne.mpr c69
   have R2 : (E9 != 3) = true := bne_iff_ne.mpr c69
   have H' := a_ H
   clear H
   go_wp2
   go_meet
   case rel => exact ⟨_, (D5), (D6), (B0), (B3), (C5), (.slice E2 B0.length C8), (.slice F3 B3.length D0), (.slice E3 C5.length E0), H', ⟨jD⟩, ⟨by (with_reducible repeat (first | apply Kd.aC | apply Kd.aD | apply Kd.az)); exact Kd.ae C1.out (fun _ hk => ⟨hk.2, hk.1.1.2⟩)⟩, ⟨by (with_reducible repeat (first | apply Kd.aC | apply Kd.aD | apply Kd.az)); exact Kd.ae C3.out (fun _ hk => ⟨hk.2, hk.1.1.2⟩)⟩, ⟨by (with_reducible repeat (first | apply Kd.aC | apply Kd.aD | apply Kd.az)); exact Kd.ae A4.out (fun _ hk => ⟨hk.1.2, hk.2⟩)⟩, ⟨BU⟩, ⟨BV⟩, ⟨z5_⟩, ⟨jK⟩, ⟨z8_⟩⟩
  case rest =>
   clear M4
   obtain ⟨kq, H1, H2, F4, F5, F6, G4, G5, G6, HA, t6, H6, H7, H8, BK486, BK504, HI0, HK, HB⟩ := hcut
   cases kq with
   | zero => exact absurd HA.out (by simp [aK.j0])
   | succ t7 =>
    have H := HA.out
    clear HA
    simp only [aK.j0] at H
    simp only [Option.some.injEq, Prod.mk.injEq] at H
    obtain ⟨rfl, rfl, rfl, rfl, rfl, rfl, rfl, rfl⟩ := H
    have hnb81 := E5.out
    have hnc81 := C9.out
    have hnb82 := D3.out
    have hnc82 := NB0_504.out
    obtain ⟨e4, e5, e6, e7, e8, e9, f4, f7, f9, g1⟩ := eH (w := wc) BK504.out
    have hnb84 := D4.out
    have hnc84 := NB0_486.out
    obtain ⟨g2, g3, g4, g5, g6, g7, g8, g9, h2, h3⟩ := eH (w := wc) BK486.out
    obtain ⟨m6, m7, m8⟩ := Kd.bg H6.out
    subst m8
    obtain ⟨m9, n0, n1⟩ := Kd.bg H7.out
    subst n1
    obtain ⟨n2, n3, n7⟩ := Kd.bg H8.out
    subst n7
    go_wp2
    refine bodyPost_ret (jX rfl _ _ C2 28 #[.int .i64 D7, .int .i64 D8, .slice m6 F4.length m7, .slice m9 F5.length n0, .slice n2 F6.length n3] (0, 0) _ rfl (iI (h := by exact je BK486.out)) Tryz.underlying28 rfl (by kernel_rfl)) rfl ?_
    exact ⟨_, _, _, fO, by (with_reducible repeat (first | apply Kd.aC | apply Kd.aD | apply Kd.az)); exact Kd.ae (gB H6.out BK486.out) (fun _ hk => ⟨hk.1.1, hk.1.2⟩), by (with_reducible repeat (first | apply Kd.aC | apply Kd.aD | apply Kd.az)); exact Kd.ae (gB H7.out BK486.out) (fun _ hk => ⟨hk.1.1, hk.1.2⟩), by (with_reducible repeat (first | apply Kd.aC | apply Kd.aD | apply Kd.az)); exact Kd.ae (gB H8.out BK486.out) (fun _ hk => ⟨hk.1.1, hk.1.2⟩), z5_, z8_, jK⟩
 rw [if_neg c4] at H
 have i4 : (I8 == 0) = false := beq_eq_false_iff_ne.mpr c4
 have i5 : (I8 != 0) = true := bne_iff_ne.mpr c4
 obtain ⟨L5, K9⟩ : ∃ y_ : List Int, y_ = (([1] : List Int)) := ⟨_, rfl⟩
 replace H : (some (H3, H4, L5, (([2] : List Int)), (([0] : List Int)), E6, G2, G3)) = some (r1, r2, r3, r4, r5, r6, r7, r8) := rh_ K9 H
 have M0 := a_ K9
 clear K9
 obtain ⟨O6, L0⟩ : ∃ y_ : List Int, y_ = (([2] : List Int)) := ⟨_, rfl⟩
 replace H : (some (H3, H4, L5, O6, (([0] : List Int)), E6, G2, G3)) = some (r1, r2, r3, r4, r5, r6, r7, r8) := rh_ L0 H
 have M1 := a_ L0
 clear L0
 obtain ⟨R6, L1⟩ : ∃ y_ : List Int, y_ = (([0] : List Int)) := ⟨_, rfl⟩
 replace H : (some (H3, H4, L5, O6, R6, E6, G2, G3)) = some (r1, r2, r3, r4, r5, r6, r7, r8) := rh_ L1 H
 have M2 := a_ L1
 clear L1
 simp only [Option.some.injEq, Prod.mk.injEq] at H
 obtain ⟨rfl, rfl, rfl, rfl, rfl, rfl, rfl, rfl⟩ := H
 go_enter Tryz.func51, Tryz.ntmps51
 go_wp2_with (first | ((with_reducible refine bf (N := 2) rfl ?_); refine cz ?hg (N := 2) ?hd (cs := #[.int .i64 0, .int .i64 0, .slice none 0 0, .slice none 0 0, .slice none 0 0]) (t := 28) ?hr ?_; (case hd => rfl); (case hg => rfl); (case hr => first | (go_simp; done) | (go_simp; rfl)); intro C2 hg v9 hbox hb; replace HB := df fM hb; have BK486 := a_ (hbox); have GW486 := a_ ((zZ : w.heap.size ≤ C2)); have GE486 := a_ ((Nat.le_trans HW0.out (zZ : w.heap.size ≤ C2) : w0.heap.size ≤ C2)); replace HK := a_ (ax.trans eZ (ax.of_below hb g none) (.inl rfl)); have NB0_486 := a_ ((by rw [hg]; exact Nat.ne_of_lt (aj.lt (show aj w0 _ g s0_0 s0_1 s0_2 from eD)) : g ≠ C2)); have D4 := a_ ((by rw [hg]; exact Nat.ne_of_gt (aj.lt (show aj w0 _ g s0_0 s0_1 s0_2 from eD)) : C2 ≠ g)); replace HI0 := a_ (aj.below eD hb); clear hb hbox hg) | ((with_reducible refine av (f := 41) rfl ?_); refine bI (some 14) rfl rfl Tryz.func41 (by kernel_rfl) rfl #[.pointer (some ⟨g, 0, none⟩)] rfl dL ?_; (with_reducible refine (cZ.calls k g s0_0 s0_1 s0_2 H3 H4 E6 G2 G3 w0 _ ?side1 ?side2 A2.out).mono ?_); (case side1 => exact sD); (case side2 => exact xP); rintro e w3 ⟨rfl, hi, hb, hk⟩; refine ⟨_, rfl, ?_⟩; replace BK486 := a_ (ax.blk hk (g' := C2) (rb_ BK486.out) D4.out (by simp)); replace HK := a_ (ax.trans qw hk (.inl rfl)); replace HB := a_ (hb); replace HI0 := a_ (hi); (try clear hb); (try clear hk); (try clear hi)) | ((with_reducible refine av (f := 15) rfl ?_); refine bI (some 22) rfl rfl Tryz.func15 (by kernel_rfl) rfl #[.int .i64 H3, .int .i64 H4, .string E6] rfl dL ?_; (with_reducible refine (dG.calls k H3 H4 E6 D7 D8 E1 D9 C5 I8 _ A3.out).mono ?_); rintro e w4 ⟨i6, i7, i8, rfl, ho0, ho1, ho2, hb⟩; refine ⟨_, rfl, ?_⟩; have B4 := a_ (Kd.bu ho0 (dZ (w := w) (g := g) (row := none) qw)); have B7 := a_ (Kd.bu ho1 (dZ (w := w) (g := g) (row := none) qw)); have A4 := a_ (Kd.bu ho2 (dZ (w := w) (g := g) (row := none) qw)); replace BK486 := bb_ C2 BK486 hb; replace HK := a_ (ax.trans qw (ax.of_below hb g none) (.inl rfl)); replace HB := df xP hb; replace HI0 := a_ (aj.below sD hb); (try clear hb); (try clear ho0); (try clear ho1); (try clear ho2)) | ((with_reducible refine bf (N := 7) rfl ?_); refine cz ?hg (N := 7) ?hd (cs := #[.int .i64 0, .int .i64 0, .slice none 0 0, .slice none 0 0, .slice none 0 0]) (t := 28) ?hr ?_; (case hd => rfl); (case hg => rfl); (case hr => first | (go_simp; done) | (go_simp; rfl)); intro A1 hg q2 hbox hb; replace B4 := rl_ B4 hb; replace B7 := rl_ B7 hb; replace A4 := rl_ A4 hb; replace HB := df xP hb; have BK504 := a_ (hbox); have GW504 := a_ ((zW : w.heap.size ≤ A1)); have GE504 := a_ ((Nat.le_trans HW0.out (zW : w.heap.size ≤ A1) : w0.heap.size ≤ A1)); replace HK := a_ (ax.trans qw (ax.of_below hb g none) (.inl rfl)); have C9 := a_ ((by rw [hg]; exact Nat.ne_of_lt (fF (g := C2) (rb_ BK486.out)) : C2 ≠ A1)); have E5 := a_ ((by rw [hg]; exact Nat.ne_of_gt (fF (g := C2) (rb_ BK486.out)) : A1 ≠ C2)); replace BK486 := bb_ C2 BK486 hb; have NB0_504 := a_ ((by rw [hg]; exact Nat.ne_of_lt (aj.lt (show aj w0 _ g s0_0 G2 G3 from sD)) : g ≠ A1)); have D3 := a_ ((by rw [hg]; exact Nat.ne_of_gt (aj.lt (show aj w0 _ g s0_0 G2 G3 from sD)) : A1 ≠ g)); replace HI0 := a_ (aj.below sD hb); clear hb hbox hg; have hnb93 := E5.out; have hnc93 := C9.out; have hnb94 := D3.out; have hnc94 := NB0_504.out; obtain ⟨h4, h5, h6, h7, h8, h9, i0, i1, i2, i3⟩ := eH (w := q2) BK504.out; obtain ⟨R7, R8, n9⟩ := Kd.bg B4.out; subst n9; obtain ⟨R9, S0, o5⟩ := Kd.bg B7.out; subst o5; obtain ⟨S1, S2, o6⟩ := Kd.bg A4.out; subst o6) | ((with_reducible refine bf (N := 29) rfl ?_); refine Kd.fU (Kd.int .i64) _ 2 ?hg (N := 29) ?hd (xs := ([1] : List Int)) (inner := [.int .i64 1]) (ok := fun _ => True) (okp := fun _ => True) ?hr ?hp (fun _ hk => hk) trivial (Below.refl _ _) (Nat.le_refl _) (by simp) ?_; (case hd => rfl); (case hg => rfl); (case hr => first | (go_simp; done) | (go_simp; rfl)); (case hp => exact (dm.one (show Kd.M (Kd.int .i64) _ _ _ 1 [.int .i64 1] from rfl) (dm.none _ _))); intro t8 w5 ho100 hb hg_ hnew_; clear hg_ hnew_; (first | rw [← M0.out] at ho100 | (simp only [Int.reduceToNat] at ho100; rw [← M0.out] at ho100)); have H0 := a_ (Kd.bu (Kd.dF (Kd.dF (Kd.dF ho100 (Kd.dR (rc_ (h := by exact Kd.ae (gB B4.out BK504.out) (fun _ h_ => h_.1))))) (Kd.dR (rc_ (h := by exact Kd.ae (gB B7.out BK504.out) (fun _ h_ => h_.1))))) (Kd.dR (rc_ (h := by exact Kd.ae (gB A4.out BK504.out) (fun _ h_ => h_.1))))) (dZ (w := w) (g := g) (row := none) jK)); replace B4 := a_ (Kd.bB (rc_ (h := by exact Kd.ae (gB B4.out BK504.out) (fun _ h_ => h_.1))) (Kd.bN ho100) hb); replace B7 := a_ (Kd.bB (rc_ (h := by exact Kd.ae (gB B7.out BK504.out) (fun _ h_ => h_.1))) (Kd.bN ho100) hb); replace A4 := a_ (Kd.bB (rc_ (h := by exact Kd.ae (gB A4.out BK504.out) (fun _ h_ => h_.1))) (Kd.bN ho100) hb); replace BK486 := a_ (dS (g := C2) (o := .cells #[.int .i64 0, .int .i64 0, .slice none 0 0, .slice none 0 0, .slice none 0 0] 28 (0, 0)) (iI (h := by exact rR C9.out BK486.out)) hb); replace BK504 := a_ (dS (g := A1) (o := .cells #[.int .i64 D7, .int .i64 D8, .slice R7 E1.length R8, .slice R9 D9.length S0, .slice S1 C5.length S2] 28 (0, 0)) (iI (h := by exact je BK504.out)) hb); replace HK := a_ (ax.trans jK (ax.of_below hb g none) (.inl rfl)); replace HB := df z8_ hb; replace HI0 := a_ (aj.below (show aj w0 (((((q2.setCell ⟨A1, 0, none⟩ (.int .i64 D7)).setCell ⟨A1, 1, none⟩ (.int .i64 D8)).setCell ⟨A1, 2, none⟩ (.slice R7 E1.length R8)).setCell ⟨A1, 3, none⟩ (.slice R9 D9.length S0)).setCell ⟨A1, 4, none⟩ (.slice S1 C5.length S2)) g s0_0 G2 G3 from z5_) hb); clear hb ho100) | ((with_reducible refine bf (N := 30) rfl ?_); refine Kd.fU (Kd.int .i64) _ 2 ?hg (N := 30) ?hd (xs := ([2] : List Int)) (inner := [.int .i64 2]) (ok := fun _ => True) (okp := fun _ => True) ?hr ?hp (fun _ hk => hk) trivial (Below.refl _ _) (Nat.le_refl _) (by simp) ?_; (case hd => rfl); (case hg => rfl); (case hr => first | (go_simp; done) | (go_simp; rfl)); (case hp => exact (dm.one (show Kd.M (Kd.int .i64) _ _ _ 2 [.int .i64 2] from rfl) (dm.none _ _))); intro t9 u0 ho102 hb hg_ hnew_; clear hg_ hnew_; (first | rw [← M1.out] at ho102 | (simp only [Int.reduceToNat] at ho102; rw [← M1.out] at ho102)); have I7 := a_ (Kd.bu (Kd.dF (Kd.dF (Kd.dF (Kd.dF ho102 (Kd.dR (ra_ B4.out))) (Kd.dR (ra_ B7.out))) (Kd.dR (ra_ A4.out))) (Kd.dR (ra_ H0.out))) (dZ (w := w) (g := g) (row := none) jK)); replace B4 := a_ (Kd.bB (ra_ B4.out) (Kd.bN ho102) hb); replace B7 := a_ (Kd.bB (ra_ B7.out) (Kd.bN ho102) hb); replace A4 := a_ (Kd.bB (ra_ A4.out) (Kd.bN ho102) hb); replace H0 := a_ (Kd.bB (ra_ H0.out) (Kd.bN ho102) hb); replace BK486 := bb_ C2 BK486 hb; replace BK504 := bb_ A1 BK504 hb; replace HK := a_ (ax.trans jK (ax.of_below hb g none) (.inl rfl)); replace HB := df z8_ hb; replace HI0 := a_ (aj.below z5_ hb); clear hb ho102) | ((with_reducible refine bf (N := 31) rfl ?_); refine Kd.fU (Kd.int .i64) _ 2 ?hg (N := 31) ?hd (xs := ([0] : List Int)) (inner := [.int .i64 0]) (ok := fun _ => True) (okp := fun _ => True) ?hr ?hp (fun _ hk => hk) trivial (Below.refl _ _) (Nat.le_refl _) (by simp) ?_; (case hd => rfl); (case hg => rfl); (case hr => first | (go_simp; done) | (go_simp; rfl)); (case hp => exact (dm.one (show Kd.M (Kd.int .i64) _ _ _ 0 [.int .i64 0] from rfl) (dm.none _ _))); intro u1 o7 ho104 hb hg_ hnew_; clear hg_ hnew_; (first | rw [← M2.out] at ho104 | (simp only [Int.reduceToNat] at ho104; rw [← M2.out] at ho104)); have M3 := a_ (Kd.bu (Kd.dF (Kd.dF (Kd.dF (Kd.dF (Kd.dF ho104 (Kd.dR (ra_ B4.out))) (Kd.dR (ra_ B7.out))) (Kd.dR (ra_ A4.out))) (Kd.dR (ra_ H0.out))) (Kd.dR (ra_ I7.out))) (dZ (w := w) (g := g) (row := none) jK)); replace B4 := a_ (Kd.bB (ra_ B4.out) (Kd.bN ho104) hb); replace B7 := a_ (Kd.bB (ra_ B7.out) (Kd.bN ho104) hb); replace A4 := a_ (Kd.bB (ra_ A4.out) (Kd.bN ho104) hb); replace H0 := a_ (Kd.bB (ra_ H0.out) (Kd.bN ho104) hb); replace I7 := a_ (Kd.bB (ra_ I7.out) (Kd.bN ho104) hb); replace BK486 := bb_ C2 BK486 hb; replace BK504 := bb_ A1 BK504 hb; replace HK := a_ (ax.trans jK (ax.of_below hb g none) (.inl rfl)); replace HB := df z8_ hb; replace HI0 := a_ (aj.below z5_ hb); clear hb ho104; obtain ⟨S3, S4, S5⟩ := Kd.bg M3.out; subst S5; obtain ⟨S6, S7, S8⟩ := Kd.bg I7.out; subst S8; obtain ⟨S9, T0, T3⟩ := Kd.bg H0.out; subst T3; have hnb108 := D4.out; have hnc108 := NB0_486.out; obtain ⟨T4, T7, U0, U1, U2, U3, U4, U5, U6, U7⟩ := eH (w := o7) BK486.out))
 refine bodyPost_ret (jX rfl _ _ C2 28 #[.int .i64 H3, .int .i64 H4, .slice S9 L5.length T0, .slice S6 O6.length S7, .slice S3 R6.length S4] (0, 0) _ rfl (iI (h := by exact je BK486.out)) Tryz.underlying28 rfl (by kernel_rfl)) rfl ?_
 exact ⟨_, _, _, fO, by (with_reducible repeat (first | apply Kd.aC | apply Kd.aD | apply Kd.az)); exact Kd.ae (gB H0.out BK486.out) (fun _ hk => ⟨hk.1.1.2, hk.1.2⟩), by (with_reducible repeat (first | apply Kd.aC | apply Kd.aD | apply Kd.az)); exact Kd.ae (gB I7.out BK486.out) (fun _ hk => ⟨hk.1.1.2, hk.1.2⟩), by (with_reducible repeat (first | apply Kd.aC | apply Kd.aD | apply Kd.az)); exact Kd.ae (gB M3.out BK486.out) (fun _ hk => ⟨hk.1.1.2, hk.1.2⟩), z5_, z8_, jK⟩
end Go.Proofs.YtkpidjmhdagkfaaGreatDoor.QFnReadForms
