-- Written by own_print.py of this session's repo over the kit's print (its output, turned at some places).
import Derived.Test.YtkpidjmhdagkfaaGreatDoorQFnImposedx0
import Derived.Test.YtkpidjmhdagkfaaGreatDoorQFnImposedx4
import Derived.Test.YtkpidjmhdagkfaaGreatDoorQFnImposedx5
import Derived.Test.YtkpidjmhdagkfaaGreatDoorQFnImposedx10
import Derived.Test.YtkpidjmhdagkfaaGreatDoorQFnImposedx1
namespace Go.Proofs.YtkpidjmhdagkfaaGreatDoor.QFnImposed
open Go.RowKit Go.Proofs.YtkpidjmhdagkfaaGreatDoorW.PrintWords Go.Proofs.YtkpidjmhdagkfaaGreatDoorW.PrintLast Go.Proofs.YtkpidjmhdagkfaaGreatDoorW.PrintMore
attribute [local go_sem] fU fT gP gQ fw fA fQ fV
set_option maxHeartbeats 8000000
set_option maxRecDepth 100000
set_option linter.unusedVariables false
set_option linter.unusedSimpArgs false
def dX.f (k : Nat) (l0 : List Int) : Option (Int × Int × List Int × List Int × List Int × Int) := (bP.f k l0).bind fun bt519 => ((aU.f k bt519.1 bt519.2.1 bt519.2.2).bind fun bt523 => ((bf.f bt519.1 bt523.2.2.2.2.2.2.1 bt523.2.2.2.2.2.2.2 8).bind fun bt538 => (if bt538.1 = 0 then ((dQ.f bt519.1 bt538.2.1 bt538.2.2 (([(-1000000000), 1000000000, (-1000000001), 1000000001] : List Int))).bind fun bt544 => (some (bt523.1, bt523.2.1, bt523.2.2.1, bt523.2.2.2.1, bt523.2.2.2.2.1, bt544.1))) else ((bf.f bt519.1 bt538.2.1 bt538.2.2 60).bind fun bt547 => (some (bt523.1, bt523.2.1, bt523.2.2.1, bt523.2.2.2.1, bt523.2.2.2.2.1, wrap64 (bt547.1 - 20)))))))
theorem dX.mono : ∀ a0 k, LeO (dX.f k a0) (dX.f (k + 1) a0) := by
 intro a0 k
 unfold dX.f
 repeat' first | (with_reducible first | exact bP.mono .. | exact aU.mono .. | exact LeO.refl .. | exact LeO.none .. | refine LeO.ite ?_ ?_ | refine LeO.bind ?_ (fun _ => ?_))
theorem dX.calls (k : Nat) (A0 : Option Addr) (c0 : Nat) (l0 : List Int) (r1 : Int) (r2 : Int) (r3 : List Int) (r4 : List Int) (r5 : List Int) (r6 : Int) (w : World) (hr0 : Kd.C (Kd.int .u8) w A0 l0.length l0) (hc0 : l0.length ≤ c0) (h : dX.f k l0 = some (r1, r2, r3, r4, r5, r6)) :
  Calls Tryz.prog 16 #[.slice A0 l0.length c0] w fun e w' => ∃ v2_ v3_ v4_ : Value, e = .returned (.tuple #[.agg #[.int .i64 r1, .int .i64 r2, v2_, v3_, v4_], .int .i64 r6]) ∧ Kd.R (Kd.int .i64) 2 w' w.heap.size (fun k_ => some k_ ≠ (v3_ : Value).ownBlock ∧ some k_ ≠ (v4_ : Value).ownBlock) v2_ r3 ∧ Kd.R (Kd.int .i64) 2 w' w.heap.size (fun k_ => some k_ ≠ (v2_ : Value).ownBlock ∧ some k_ ≠ (v4_ : Value).ownBlock) v3_ r4 ∧ Kd.R (Kd.int .i64) 2 w' w.heap.size (fun k_ => some k_ ≠ (v2_ : Value).ownBlock ∧ some k_ ≠ (v3_ : Value).ownBlock) v4_ r5 ∧ Below w.heap.size w w' := by
 have hu28 := Tryz.underlying28
 have HR0 := a_ hr0
 have L1 := a_ hc0
 clear hr0 hc0
 have HB := a_ (Below.refl w.heap.size w)
 have H : ((bP.f k l0).bind fun C8 => ((aU.f k C8.1 C8.2.1 C8.2.2).bind fun C3 => ((bf.f C8.1 C3.2.2.2.2.2.2.1 C3.2.2.2.2.2.2.2 8).bind fun D5 => (if D5.1 = 0 then ((dQ.f C8.1 D5.2.1 D5.2.2 (([(-1000000000), 1000000000, (-1000000001), 1000000001] : List Int))).bind fun D7 => (some (C3.1, C3.2.1, C3.2.2.1, C3.2.2.2.1, C3.2.2.2.2.1, D7.1))) else ((bf.f C8.1 D5.2.1 D5.2.2 60).bind fun F6 => (some (C3.1, C3.2.1, C3.2.2.1, C3.2.2.2.1, C3.2.2.2.2.1, wrap64 (F6.1 - 20)))))))) = some (r1, r2, r3, r4, r5, r6) := h
 clear h
 replace H := bo_ H; obtain ⟨⟨C2, D9, E0⟩, A2, H⟩ := H; (try dsimp only at H)
 replace H := bo_ H; obtain ⟨⟨D0, D1, D2, D3, D4, F7, C4, C5⟩, A3, H⟩ := H; (try dsimp only at H)
 replace H := bo_ H; obtain ⟨⟨D6, C6, C7⟩, A4, H⟩ := H; (try dsimp only at H)
 by_cases c5 : D6 = 0
 ·rw [if_pos c5] at H
  have J2 : (D6 == 0) = true := beq_iff_eq.mpr c5
  have J3 : (D6 != 0) = false := bne_eq_false_iff_eq.mpr c5
  clear c5
  obtain ⟨E2, D8⟩ : ∃ y_ : List Int, y_ = (([(-1000000000), 1000000000, (-1000000001), 1000000001] : List Int)) := ⟨_, rfl⟩
  replace H : ((dQ.f C2 C6 C7 E2).bind fun D7 => (some (D0, D1, D2, D3, D4, D7.1))) = some (r1, r2, r3, r4, r5, r6) := rh_ D8 H
  have E1 := a_ D8
  clear D8
  replace H := bo_ H; obtain ⟨⟨J4, J5, J6⟩, A6, H⟩ := H; (try dsimp only at H)
  simp only [Option.some.injEq, Prod.mk.injEq] at H
  obtain ⟨rfl, rfl, rfl, rfl, rfl, rfl⟩ := H
  go_enter Tryz.func16, Tryz.ntmps16
  try go_wp2_with (first | ((with_reducible refine bn (N := 2) rfl ?_); refine bG ?hg (N := 2) ?hd (cs := #[.int .i64 0, .int .i64 0, .slice none 0 0, .slice none 0 0, .slice none 0 0]) (t := 28) ?hr ?_; (case hd => rfl); (case hg => rfl); (case hr => first | (go_simp; done) | (go_simp; rfl)); intro A5 hg w7 hbox hb; have A7 := a_ (hbox); have F8 := a_ ((fO : w.heap.size ≤ A5)); have GE518 := a_ ((fO : w.heap.size ≤ A5)); replace HB := cK bX hb; clear hb hbox hg) | ((with_reducible refine av (f := 42) rfl ?_); refine bJ (some 8) rfl rfl Tryz.func42 (by kernel_rfl) rfl #[.slice A0 l0.length c0] rfl dN ?_; (with_reducible refine (bP.calls k _ _ l0 C2 D9 E0 w _ ?side1 ?side2 ?side3 A2.out).mono ?_); (case side1 => exact (by (repeat (first | (with_reducible first | exact HB.out | apply aN | apply aD | apply aM | refine aG ?_ GE518.out) | exact HB.out)); first | done | fail)); (case side2 => exact HR0.out); (case side3 => exact L1.out); rintro e w8 ⟨g522, rfl, hi, hb, hb2⟩; refine ⟨_, rfl, ?_⟩; replace HB := a_ (hb); have HI522 := a_ (hi); have NB522_518 := a_ (ak.sS hi (dL (g := A5) (rb_ A7.out) hb2) (by decide)); have C0 := a_ (Ne.symm (ak.sS hi (dL (g := A5) (rb_ A7.out) hb2) (by decide))); replace A7 := a_ (dL (g := A5) (rb_ A7.out) hb2); (try clear hb); (try clear hb2); (try clear hi)) | ((with_reducible refine av (f := 51) rfl ?_); refine bJ (some 11) rfl rfl Tryz.func51 (by kernel_rfl) rfl #[.pointer (some ⟨g522, 0, none⟩)] rfl dN ?_; (with_reducible refine (aU.calls k g522 C2 D9 E0 D0 D1 D2 D3 D4 F7 C4 C5 w _ ?side1 ?side2 A3.out).mono ?_); (case side1 => exact vv); (case side2 => exact rG); rintro e w9 ⟨J7, J8, J9, rfl, ho0, ho1, ho2, hi, hb, hk⟩; refine ⟨_, rfl, ?_⟩; replace A7 := a_ (az.blk hk (g' := A5) (rb_ A7.out) C0.out (by simp)); have B3 := a_ (Kd.bE ho0 (ai rG)); have B4 := a_ (Kd.bE ho1 (ai rG)); have B7 := a_ (Kd.bE ho2 (ai rG)); replace HB := a_ (hb); replace HI522 := a_ (hi); (try clear hb); (try clear hk); (try clear hi); (try clear ho0); (try clear ho1); (try clear ho2)) | ((with_reducible refine bn (N := 5) rfl ?_); refine bG ?hg (N := 5) ?hd (cs := #[.int .i64 0, .int .i64 0, .slice none 0 0, .slice none 0 0, .slice none 0 0]) (t := 28) ?hr ?_; (case hd => rfl); (case hg => rfl); (case hr => first | (go_simp; done) | (go_simp; rfl)); intro B0 hg L2 hbox hb; replace B3 := rl_ B3 hb; replace B4 := rl_ B4 hb; replace B7 := rl_ B7 hb; have A8 := a_ (hbox); have F9 := a_ ((zu : w.heap.size ≤ B0)); have GE537 := a_ ((zu : w.heap.size ≤ B0)); replace HB := cK rG hb; have A9 := a_ ((by rw [hg]; exact Nat.ne_of_lt (dI (g := A5) (rb_ A7.out)) : A5 ≠ B0)); have A1 := a_ ((by rw [hg]; exact Nat.ne_of_gt (dI (g := A5) (rb_ A7.out)) : B0 ≠ A5)); replace A7 := bb_ A5 A7 hb; have NB522_537 := a_ ((by rw [hg]; exact Nat.ne_of_lt (ak.lt (show ak w _ g522 C2 C4 C5 from vv)) : g522 ≠ B0)); have C1 := a_ ((by rw [hg]; exact Nat.ne_of_gt (ak.lt (show ak w _ g522 C2 C4 C5 from vv)) : B0 ≠ g522)); replace HI522 := a_ (ak.below vv hb); clear hb hbox hg; have hnb11 := A1.out; have hnc11 := A9.out; have hnb12 := C1.out; have hnc12 := NB522_537.out; obtain ⟨G2, G3, G4, G5, G6, G7, G8, G9, H0, H1⟩ := eU (w := L2) A8.out; obtain ⟨E3, E4, K0⟩ := Kd.bg B3.out; subst K0; obtain ⟨E5, E6, K1⟩ := Kd.bg B4.out; subst K1; obtain ⟨E7, E8, K2⟩ := Kd.bg B7.out; subst K2) | ((with_reducible refine av (f := 52) rfl ?_); refine bJ (some 15) rfl rfl Tryz.func52 (by kernel_rfl) rfl #[.pointer (some ⟨g522, 0, none⟩), .int .i64 8] rfl dN ?_; (with_reducible refine (bf.calls g522 C2 C4 C5 8 D6 C6 C7 w _ ?side1 ?side2 A4.out).mono ?_); (case side1 => exact z7_); (case side2 => exact z9_); rintro e L3 ⟨rfl, hi, hb, hk⟩; refine ⟨_, rfl, ?_⟩; replace A7 := a_ (az.blk hk (g' := A5) (o := .cells #[.int .i64 0, .int .i64 0, .slice none 0 0, .slice none 0 0, .slice none 0 0] 28 (0, 0)) (gB (h := by exact lw A9.out A7.out)) C0.out (by simp)); replace B3 := a_ (Kd.ae (Kd.dx (ak.apart (show ak w _ g522 C2 C4 C5 from z7_) (rc_ (h := by exact Kd.ae (bU B3.out A8.out) (fun _ h_ => h_.1))) (by decide)) hk (fun _ h => h.2)) (fun _ h => h.1)); replace B4 := a_ (Kd.ae (Kd.dx (ak.apart (show ak w _ g522 C2 C4 C5 from z7_) (rc_ (h := by exact Kd.ae (bU B4.out A8.out) (fun _ h_ => h_.1))) (by decide)) hk (fun _ h => h.2)) (fun _ h => h.1)); replace B7 := a_ (Kd.ae (Kd.dx (ak.apart (show ak w _ g522 C2 C4 C5 from z7_) (rc_ (h := by exact Kd.ae (bU B7.out A8.out) (fun _ h_ => h_.1))) (by decide)) hk (fun _ h => h.2)) (fun _ h => h.1)); replace A8 := a_ (az.blk hk (g' := B0) (o := .cells #[.int .i64 D0, .int .i64 D1, .slice E3 D2.length E4, .slice E5 D3.length E6, .slice E7 D4.length E8] 28 (0, 0)) (gB (h := by exact gK A8.out)) C1.out (by simp)); replace HB := a_ (hb); replace HI522 := a_ (hi); (try clear hb); (try clear hk); (try clear hi)))
  replace B3 := a_ (Kd.ay B3.out)
  replace B4 := a_ (Kd.ay B4.out)
  replace B7 := a_ (Kd.ay B7.out)
  replace A7 := a_ (bv A7.out)
  replace A8 := a_ (bv A8.out)
  replace HI522 := a_ (ak.drew HI522.out)
  replace HB := a_ (aM HB.out)
  refine gW (n := 6) (S := fun w' => w'.cell? ⟨B0, 0, none⟩ = some (.int .i64 D0) ∧ w'.cell? ⟨B0, 1, none⟩ = some (.int .i64 D1) ∧ w'.cell? ⟨B0, 2, none⟩ = some (.slice E3 D2.length E4) ∧ w'.cell? ⟨B0, 3, none⟩ = some (.slice E5 D3.length E6) ∧ w'.cell? ⟨B0, 4, none⟩ = some (.slice E7 D4.length E8)) (ds := []) #[false, false, false, false, false, false] (by kernel_rfl) rfl rfl ⟨(aa A8.out 0).trans rfl, (aa A8.out 1).trans rfl, (aa A8.out 2).trans rfl, (aa A8.out 3).trans rfl, (aa A8.out 4).trans rfl⟩ (fun hHeld => ?_)
  generalize L3.drew = M8 at B3 B4 B7 A7 A8 HI522 HB hHeld ⊢
  refine pv_ 1 (some 18) ?_ (hc := (by kernel_rfl))
  refine xU (i := 0) (N := some 17) hHeld ?_ (hc := (by kernel_rfl))
  refine on_ (i := 2) (N := some 19) (fun K hK => ?_) (hc := (by kernel_rfl))
  refine Kd.nR (Kd.int .i64) _ 2 ?hg (N := 19) ?hd (xs := ([(-1000000000), 1000000000, (-1000000001), 1000000001] : List Int)) (inner := [.int .i64 (-1000000000), .int .i64 1000000000, .int .i64 (-1000000001), .int .i64 1000000001]) (ok := fun _ => True) (okp := fun _ => True) ?hr ?hp (fun _ hk => hk) trivial (Below.refl _ _) (Nat.le_refl _) (by simp) ?_; (case hd => rfl); (case hg => rfl); (case hr => first | (go_simp; done) | (go_simp; rfl)); (case hp => exact (dG.one (show Kd.M (Kd.int .i64) _ _ _ (-1000000000) [.int .i64 (-1000000000)] from rfl) (dG.one (show Kd.M (Kd.int .i64) _ _ _ 1000000000 [.int .i64 1000000000] from rfl) (dG.one (show Kd.M (Kd.int .i64) _ _ _ (-1000000001) [.int .i64 (-1000000001)] from rfl) (dG.one (show Kd.M (Kd.int .i64) _ _ _ 1000000001 [.int .i64 1000000001] from rfl) (dG.none _ _))))))
  intro L4 M9 ho20 hb hg_ hnew_
  clear hg_ hnew_
  (first | rw [← E1.out] at ho20 | (simp only [Int.reduceToNat] at ho20; rw [← E1.out] at ho20))
  have C9 := a_ (Kd.bE (Kd.bq (Kd.bq (Kd.bq ho20 (Kd.df (ra_ B3.out))) (Kd.df (ra_ B4.out))) (Kd.df (ra_ B7.out))) (ai z9_))
  replace B3 := a_ (Kd.bC (ra_ B3.out) (Kd.aH ho20) hb)
  replace B4 := a_ (Kd.bC (ra_ B4.out) (Kd.aH ho20) hb)
  replace B7 := a_ (Kd.bC (ra_ B7.out) (Kd.aH ho20) hb)
  replace A7 := bb_ A5 A7 hb
  replace A8 := bb_ B0 A8 hb
  replace HB := cK z9_ hb
  replace HI522 := a_ (ak.below z7_ hb)
  clear hb ho20
  obtain ⟨K3, K4, E9⟩ := Kd.bg C9.out
  (first | subst E9 | (injection E9.symm with f1_ f2_ f3_; clear f2_ E9; subst f1_ f3_))
  refine hK.out _ _ ⟨(aa A8.out 0).trans rfl, (aa A8.out 1).trans rfl, (aa A8.out 2).trans rfl, (aa A8.out 3).trans rfl, (aa A8.out 4).trans rfl⟩ (fun hHeld => ?_)
  clear hK K
  refine nm_ ?_
  refine on_ (i := 3) (N := some 20) (fun K hK => ?_) (hc := (by kernel_rfl))
  refine iQ Tryz.func53 (by kernel_rfl) rfl #[.pointer (some ⟨g522, 0, none⟩), .slice K3 E2.length K4] (by rfl) rfl rfl dN ?_
  with_reducible refine (dQ.calls g522 C2 C6 C7 _ _ E2 J4 J5 J6 w _ ?side1 ?side2 ?side3 ?side4 ?side5 A6.out).mono ?_
  (case side1 => exact z7_)
  (case side2 => exact z9_)
  (case side3 => exact (by (repeat (first | exact (Kd.aI C9.out).2.2 | (with_reducible refine Kd.dD ?_ _) | (with_reducible refine Kd.dH ?_ _) | (with_reducible refine Kd.dZ ?_))); first | done | fail))
  (case side4 => exact (Kd.aI C9.out).2.1)
  (case side5 => exact lJ (ak.own_ne HI522.out C9.out (by decide)))
  rintro e G0 ⟨rfl, hi, hb, hk⟩
  refine ⟨_, rfl, ?_⟩
  replace A7 := a_ (az.blk hk (g' := A5) (rb_ A7.out) C0.out (by simp))
  replace B3 := a_ (Kd.ae (Kd.dx (ak.apart (show ak w _ g522 C2 C6 C7 from z7_) (ra_ B3.out) (by decide)) hk (fun _ h => h.2)) (fun _ h => h.1))
  replace B4 := a_ (Kd.ae (Kd.dx (ak.apart (show ak w _ g522 C2 C6 C7 from z7_) (ra_ B4.out) (by decide)) hk (fun _ h => h.2)) (fun _ h => h.1))
  replace B7 := a_ (Kd.ae (Kd.dx (ak.apart (show ak w _ g522 C2 C6 C7 from z7_) (ra_ B7.out) (by decide)) hk (fun _ h => h.2)) (fun _ h => h.1))
  replace A8 := a_ (az.blk hk (g' := B0) (rb_ A8.out) C1.out (by simp))
  replace C9 := a_ (Kd.ae (Kd.dx (ak.apart (show ak w _ g522 C2 C6 C7 from z7_) (ra_ C9.out) (by decide)) hk (fun _ h => h.2)) (fun _ h => h.1))
  replace HB := a_ (hb)
  replace HI522 := a_ (hi)
  (try clear hb)
  (try clear hb2)
  (try clear hk)
  (try clear hi)
  refine hK.out _ _ ⟨(aa A8.out 0).trans rfl, (aa A8.out 1).trans rfl, (aa A8.out 2).trans rfl, (aa A8.out 3).trans rfl, (aa A8.out 4).trans rfl⟩ (fun hHeld => ?_)
  clear hK K
  refine nm_ ?_
  refine on_ (i := 4) (N := none) (fun K hK => ?_) (hc := (by kernel_rfl))
  have L5 : G0.cell? ⟨A5, 0, none⟩ = some (.int .i64 0) := (aa A7.out 0).trans rfl
  have hfs23 := bi A7.out 0
  have H2 := A1.out
  have hms23_1 := A9.out
  have L6 : G0.cell? ⟨A5, 1, none⟩ = some (.int .i64 0) := (aa A7.out 1).trans rfl
  have hfs24 := bi A7.out 1
  have H3 := A1.out
  have hms24_1 := A9.out
  have L7 : G0.cell? ⟨A5, 2, none⟩ = some (.slice none 0 0) := (aa A7.out 2).trans rfl
  have hfs25 := bi A7.out 2
  have H4 := A1.out
  have hms25_1 := A9.out
  have L8 : G0.cell? ⟨A5, 3, none⟩ = some (.slice none 0 0) := (aa A7.out 3).trans rfl
  have hfs26 := bi A7.out 3
  have H5 := A1.out
  have hms26_1 := A9.out
  have L9 : G0.cell? ⟨A5, 4, none⟩ = some (.slice none 0 0) := (aa A7.out 4).trans rfl
  have hfs27 := bi A7.out 4
  have H6 := A1.out
  have hms27_1 := A9.out
  refine lD (w1 := ?_) (by rfl) rfl ?_ ?_
  rotate_left
  ·go_simp
   rfl
  refine hK.out _ _ ⟨((cell_far (p := ⟨A5, _, none⟩) A1.out _).trans (((cell_far (p := ⟨A5, _, none⟩) A1.out _).trans (((cell_far (p := ⟨A5, _, none⟩) A1.out _).trans (((cell_far (p := ⟨A5, _, none⟩) A1.out _).trans (((cell_far (p := ⟨A5, _, none⟩) A1.out _).trans (hHeld.1)))))))))), ((cell_far (p := ⟨A5, _, none⟩) A1.out _).trans (((cell_far (p := ⟨A5, _, none⟩) A1.out _).trans (((cell_far (p := ⟨A5, _, none⟩) A1.out _).trans (((cell_far (p := ⟨A5, _, none⟩) A1.out _).trans (((cell_far (p := ⟨A5, _, none⟩) A1.out _).trans (hHeld.2.1)))))))))), ((cell_far (p := ⟨A5, _, none⟩) A1.out _).trans (((cell_far (p := ⟨A5, _, none⟩) A1.out _).trans (((cell_far (p := ⟨A5, _, none⟩) A1.out _).trans (((cell_far (p := ⟨A5, _, none⟩) A1.out _).trans (((cell_far (p := ⟨A5, _, none⟩) A1.out _).trans (hHeld.2.2.1)))))))))), ((cell_far (p := ⟨A5, _, none⟩) A1.out _).trans (((cell_far (p := ⟨A5, _, none⟩) A1.out _).trans (((cell_far (p := ⟨A5, _, none⟩) A1.out _).trans (((cell_far (p := ⟨A5, _, none⟩) A1.out _).trans (((cell_far (p := ⟨A5, _, none⟩) A1.out _).trans (hHeld.2.2.2.1)))))))))), ((cell_far (p := ⟨A5, _, none⟩) A1.out _).trans (((cell_far (p := ⟨A5, _, none⟩) A1.out _).trans (((cell_far (p := ⟨A5, _, none⟩) A1.out _).trans (((cell_far (p := ⟨A5, _, none⟩) A1.out _).trans (((cell_far (p := ⟨A5, _, none⟩) A1.out _).trans (hHeld.2.2.2.2))))))))))⟩ (fun hHeld => ?_)
  clear hK K
  refine pv_ 5 (some 3) ?_ (hc := (by kernel_rfl))
  refine jl (by kernel_rfl) ?_
  try go_wp2
  refine bodyPost_ret (gD rfl _ _ A5 28 #[.int .i64 D0, .int .i64 D1, .slice E3 D2.length E4, .slice E5 D3.length E6, .slice E7 D4.length E8] (0, 0) _ rfl (gB (h := by exact gK A7.out)) Tryz.underlying28 rfl (by kernel_rfl)) rfl ?_
  exact ⟨_, _, _, gy, by (with_reducible repeat (first | apply Kd.aC | apply Kd.aA | apply Kd.ay)); exact Kd.ae (bU B3.out A7.out) (fun _ hk => ⟨hk.1.1.1, hk.1.1.2⟩), by (with_reducible repeat (first | apply Kd.aC | apply Kd.aA | apply Kd.ay)); exact Kd.ae (bU B4.out A7.out) (fun _ hk => ⟨hk.1.1.1, hk.1.1.2⟩), by (with_reducible repeat (first | apply Kd.aC | apply Kd.aA | apply Kd.ay)); exact Kd.ae (bU B7.out A7.out) (fun _ hk => ⟨hk.1.1.1, hk.1.1.2⟩), z9_⟩
 rw [if_neg c5] at H
 have J2 : (D6 == 0) = false := beq_eq_false_iff_ne.mpr c5
 have J3 : (D6 != 0) = true := bne_iff_ne.mpr c5
 replace H := bo_ H; obtain ⟨⟨K5, K6, K7⟩, M0, H⟩ := H; (try dsimp only at H)
 simp only [Option.some.injEq, Prod.mk.injEq] at H
 obtain ⟨rfl, rfl, rfl, rfl, rfl, rfl⟩ := H
 go_enter Tryz.func16, Tryz.ntmps16
 try go_wp2_with (first | ((with_reducible refine bn (N := 2) rfl ?_); refine bG ?hg (N := 2) ?hd (cs := #[.int .i64 0, .int .i64 0, .slice none 0 0, .slice none 0 0, .slice none 0 0]) (t := 28) ?hr ?_; (case hd => rfl); (case hg => rfl); (case hr => first | (go_simp; done) | (go_simp; rfl)); intro A5 hg N0 hbox hb; have A7 := a_ (hbox); have F8 := a_ ((fO : w.heap.size ≤ A5)); have GE518 := a_ ((fO : w.heap.size ≤ A5)); replace HB := cK bX hb; clear hb hbox hg) | ((with_reducible refine av (f := 42) rfl ?_); refine bJ (some 8) rfl rfl Tryz.func42 (by kernel_rfl) rfl #[.slice A0 l0.length c0] rfl dN ?_; (with_reducible refine (bP.calls k _ _ l0 C2 D9 E0 w _ ?side1 ?side2 ?side3 A2.out).mono ?_); (case side1 => exact (by (repeat (first | (with_reducible first | exact HB.out | apply aN | apply aD | apply aM | refine aG ?_ GE518.out) | exact HB.out)); first | done | fail)); (case side2 => exact HR0.out); (case side3 => exact L1.out); rintro e N1 ⟨g522, rfl, hi, hb, hb2⟩; refine ⟨_, rfl, ?_⟩; replace HB := a_ (hb); have HI522 := a_ (hi); have NB522_518 := a_ (ak.sS hi (dL (g := A5) (rb_ A7.out) hb2) (by decide)); have C0 := a_ (Ne.symm (ak.sS hi (dL (g := A5) (rb_ A7.out) hb2) (by decide))); replace A7 := a_ (dL (g := A5) (rb_ A7.out) hb2); (try clear hb); (try clear hb2); (try clear hi)) | ((with_reducible refine av (f := 51) rfl ?_); refine bJ (some 11) rfl rfl Tryz.func51 (by kernel_rfl) rfl #[.pointer (some ⟨g522, 0, none⟩)] rfl dN ?_; (with_reducible refine (aU.calls k g522 C2 D9 E0 D0 D1 D2 D3 D4 F7 C4 C5 w _ ?side1 ?side2 A3.out).mono ?_); (case side1 => exact vv); (case side2 => exact rG); rintro e N2 ⟨J7, J8, J9, rfl, ho0, ho1, ho2, hi, hb, hk⟩; refine ⟨_, rfl, ?_⟩; replace A7 := a_ (az.blk hk (g' := A5) (rb_ A7.out) C0.out (by simp)); have B3 := a_ (Kd.bE ho0 (ai rG)); have B4 := a_ (Kd.bE ho1 (ai rG)); have B7 := a_ (Kd.bE ho2 (ai rG)); replace HB := a_ (hb); replace HI522 := a_ (hi); (try clear hb); (try clear hk); (try clear hi); (try clear ho0); (try clear ho1); (try clear ho2)) | ((with_reducible refine bn (N := 5) rfl ?_); refine bG ?hg (N := 5) ?hd (cs := #[.int .i64 0, .int .i64 0, .slice none 0 0, .slice none 0 0, .slice none 0 0]) (t := 28) ?hr ?_; (case hd => rfl); (case hg => rfl); (case hr => first | (go_simp; done) | (go_simp; rfl)); intro B0 hg M1 hbox hb; replace B3 := rl_ B3 hb; replace B4 := rl_ B4 hb; replace B7 := rl_ B7 hb; have A8 := a_ (hbox); have F9 := a_ ((zu : w.heap.size ≤ B0)); have GE537 := a_ ((zu : w.heap.size ≤ B0)); replace HB := cK rG hb; have A9 := a_ ((by rw [hg]; exact Nat.ne_of_lt (dI (g := A5) (rb_ A7.out)) : A5 ≠ B0)); have A1 := a_ ((by rw [hg]; exact Nat.ne_of_gt (dI (g := A5) (rb_ A7.out)) : B0 ≠ A5)); replace A7 := bb_ A5 A7 hb; have NB522_537 := a_ ((by rw [hg]; exact Nat.ne_of_lt (ak.lt (show ak w _ g522 C2 C4 C5 from vv)) : g522 ≠ B0)); have C1 := a_ ((by rw [hg]; exact Nat.ne_of_gt (ak.lt (show ak w _ g522 C2 C4 C5 from vv)) : B0 ≠ g522)); replace HI522 := a_ (ak.below vv hb); clear hb hbox hg; have hnb33 := A1.out; have hnc33 := A9.out; have hnb34 := C1.out; have hnc34 := NB522_537.out; obtain ⟨H7, H8, H9, I0, I1, I2, I3, I4, I5, I6⟩ := eU (w := M1) A8.out; obtain ⟨F0, F1, K8⟩ := Kd.bg B3.out; subst K8; obtain ⟨F2, F3, K9⟩ := Kd.bg B4.out; subst K9; obtain ⟨F4, F5, L0⟩ := Kd.bg B7.out; subst L0) | ((with_reducible refine av (f := 52) rfl ?_); refine bJ (some 15) rfl rfl Tryz.func52 (by kernel_rfl) rfl #[.pointer (some ⟨g522, 0, none⟩), .int .i64 8] rfl dN ?_; (with_reducible refine (bf.calls g522 C2 C4 C5 8 D6 C6 C7 w _ ?side1 ?side2 A4.out).mono ?_); (case side1 => exact z7_); (case side2 => exact z9_); rintro e M2 ⟨rfl, hi, hb, hk⟩; refine ⟨_, rfl, ?_⟩; replace A7 := a_ (az.blk hk (g' := A5) (o := .cells #[.int .i64 0, .int .i64 0, .slice none 0 0, .slice none 0 0, .slice none 0 0] 28 (0, 0)) (gB (h := by exact lw A9.out A7.out)) C0.out (by simp)); replace B3 := a_ (Kd.ae (Kd.dx (ak.apart (show ak w _ g522 C2 C4 C5 from z7_) (rc_ (h := by exact Kd.ae (bU B3.out A8.out) (fun _ h_ => h_.1))) (by decide)) hk (fun _ h => h.2)) (fun _ h => h.1)); replace B4 := a_ (Kd.ae (Kd.dx (ak.apart (show ak w _ g522 C2 C4 C5 from z7_) (rc_ (h := by exact Kd.ae (bU B4.out A8.out) (fun _ h_ => h_.1))) (by decide)) hk (fun _ h => h.2)) (fun _ h => h.1)); replace B7 := a_ (Kd.ae (Kd.dx (ak.apart (show ak w _ g522 C2 C4 C5 from z7_) (rc_ (h := by exact Kd.ae (bU B7.out A8.out) (fun _ h_ => h_.1))) (by decide)) hk (fun _ h => h.2)) (fun _ h => h.1)); replace A8 := a_ (az.blk hk (g' := B0) (o := .cells #[.int .i64 D0, .int .i64 D1, .slice F0 D2.length F1, .slice F2 D3.length F3, .slice F4 D4.length F5] 28 (0, 0)) (gB (h := by exact gK A8.out)) C1.out (by simp)); replace HB := a_ (hb); replace HI522 := a_ (hi); (try clear hb); (try clear hk); (try clear hi)))
 replace B3 := a_ (Kd.ay B3.out)
 replace B4 := a_ (Kd.ay B4.out)
 replace B7 := a_ (Kd.ay B7.out)
 replace A7 := a_ (bv A7.out)
 replace A8 := a_ (bv A8.out)
 replace HI522 := a_ (ak.drew HI522.out)
 replace HB := a_ (aM HB.out)
 refine gW (n := 6) (S := fun w' => w'.cell? ⟨B0, 0, none⟩ = some (.int .i64 D0) ∧ w'.cell? ⟨B0, 1, none⟩ = some (.int .i64 D1) ∧ w'.cell? ⟨B0, 2, none⟩ = some (.slice F0 D2.length F1) ∧ w'.cell? ⟨B0, 3, none⟩ = some (.slice F2 D3.length F3) ∧ w'.cell? ⟨B0, 4, none⟩ = some (.slice F4 D4.length F5)) (ds := []) #[false, false, false, false, false, false] (by kernel_rfl) rfl rfl ⟨(aa A8.out 0).trans rfl, (aa A8.out 1).trans rfl, (aa A8.out 2).trans rfl, (aa A8.out 3).trans rfl, (aa A8.out 4).trans rfl⟩ (fun hHeld => ?_)
 generalize M2.drew = N3 at B3 B4 B7 A7 A8 HI522 HB hHeld ⊢
 refine pv_ 1 (some 22) ?_ (hc := (by kernel_rfl))
 refine xU (i := 0) (N := some 21) hHeld ?_ (hc := (by kernel_rfl))
 refine on_ (i := 2) (N := some 23) (fun K hK => ?_) (hc := (by kernel_rfl))
 refine iQ Tryz.func52 (by kernel_rfl) rfl #[.pointer (some ⟨g522, 0, none⟩), .int .i64 60] (by rfl) rfl rfl dN ?_
 with_reducible refine (bf.calls g522 C2 C6 C7 60 K5 K6 K7 w _ ?side1 ?side2 M0.out).mono ?_
 (case side1 => exact z7_)
 (case side2 => exact z9_)
 rintro e G1 ⟨rfl, hi, hb, hk⟩
 refine ⟨_, rfl, ?_⟩
 replace A7 := a_ (az.blk hk (g' := A5) (rb_ A7.out) C0.out (by simp))
 replace B3 := a_ (Kd.ae (Kd.dx (ak.apart (show ak w _ g522 C2 C6 C7 from z7_) (ra_ B3.out) (by decide)) hk (fun _ h => h.2)) (fun _ h => h.1))
 replace B4 := a_ (Kd.ae (Kd.dx (ak.apart (show ak w _ g522 C2 C6 C7 from z7_) (ra_ B4.out) (by decide)) hk (fun _ h => h.2)) (fun _ h => h.1))
 replace B7 := a_ (Kd.ae (Kd.dx (ak.apart (show ak w _ g522 C2 C6 C7 from z7_) (ra_ B7.out) (by decide)) hk (fun _ h => h.2)) (fun _ h => h.1))
 replace A8 := a_ (az.blk hk (g' := B0) (rb_ A8.out) C1.out (by simp))
 replace HB := a_ (hb)
 replace HI522 := a_ (hi)
 (try clear hb)
 (try clear hb2)
 (try clear hk)
 (try clear hi)
 refine hK.out _ _ ⟨(aa A8.out 0).trans rfl, (aa A8.out 1).trans rfl, (aa A8.out 2).trans rfl, (aa A8.out 3).trans rfl, (aa A8.out 4).trans rfl⟩ (fun hHeld => ?_)
 clear hK K
 refine nm_ ?_
 refine pv_ 3 (some 24) ?_ (hc := (by kernel_rfl))
 refine on_ (i := 4) (N := none) (fun K hK => ?_) (hc := (by kernel_rfl))
 have M3 : G1.cell? ⟨A5, 0, none⟩ = some (.int .i64 0) := (aa A7.out 0).trans rfl
 have hfs42 := bi A7.out 0
 have I7 := A1.out
 have hms42_1 := A9.out
 have M4 : G1.cell? ⟨A5, 1, none⟩ = some (.int .i64 0) := (aa A7.out 1).trans rfl
 have hfs43 := bi A7.out 1
 have I8 := A1.out
 have hms43_1 := A9.out
 have M5 : G1.cell? ⟨A5, 2, none⟩ = some (.slice none 0 0) := (aa A7.out 2).trans rfl
 have hfs44 := bi A7.out 2
 have I9 := A1.out
 have hms44_1 := A9.out
 have M6 : G1.cell? ⟨A5, 3, none⟩ = some (.slice none 0 0) := (aa A7.out 3).trans rfl
 have hfs45 := bi A7.out 3
 have J0 := A1.out
 have hms45_1 := A9.out
 have M7 : G1.cell? ⟨A5, 4, none⟩ = some (.slice none 0 0) := (aa A7.out 4).trans rfl
 have hfs46 := bi A7.out 4
 have J1 := A1.out
 have hms46_1 := A9.out
 refine lD (w1 := ?_) (by rfl) rfl ?_ ?_
 rotate_left
 ·go_simp
  rfl
 refine hK.out _ _ ⟨((cell_far (p := ⟨A5, _, none⟩) A1.out _).trans (((cell_far (p := ⟨A5, _, none⟩) A1.out _).trans (((cell_far (p := ⟨A5, _, none⟩) A1.out _).trans (((cell_far (p := ⟨A5, _, none⟩) A1.out _).trans (((cell_far (p := ⟨A5, _, none⟩) A1.out _).trans (hHeld.1)))))))))), ((cell_far (p := ⟨A5, _, none⟩) A1.out _).trans (((cell_far (p := ⟨A5, _, none⟩) A1.out _).trans (((cell_far (p := ⟨A5, _, none⟩) A1.out _).trans (((cell_far (p := ⟨A5, _, none⟩) A1.out _).trans (((cell_far (p := ⟨A5, _, none⟩) A1.out _).trans (hHeld.2.1)))))))))), ((cell_far (p := ⟨A5, _, none⟩) A1.out _).trans (((cell_far (p := ⟨A5, _, none⟩) A1.out _).trans (((cell_far (p := ⟨A5, _, none⟩) A1.out _).trans (((cell_far (p := ⟨A5, _, none⟩) A1.out _).trans (((cell_far (p := ⟨A5, _, none⟩) A1.out _).trans (hHeld.2.2.1)))))))))), ((cell_far (p := ⟨A5, _, none⟩) A1.out _).trans (((cell_far (p := ⟨A5, _, none⟩) A1.out _).trans (((cell_far (p := ⟨A5, _, none⟩) A1.out _).trans (((cell_far (p := ⟨A5, _, none⟩) A1.out _).trans (((cell_far (p := ⟨A5, _, none⟩) A1.out _).trans (hHeld.2.2.2.1)))))))))), ((cell_far (p := ⟨A5, _, none⟩) A1.out _).trans (((cell_far (p := ⟨A5, _, none⟩) A1.out _).trans (((cell_far (p := ⟨A5, _, none⟩) A1.out _).trans (((cell_far (p := ⟨A5, _, none⟩) A1.out _).trans (((cell_far (p := ⟨A5, _, none⟩) A1.out _).trans (hHeld.2.2.2.2))))))))))⟩ (fun hHeld => ?_)
 clear hK K
 refine pv_ 5 (some 3) ?_ (hc := (by kernel_rfl))
 refine jl (by kernel_rfl) ?_
 try go_wp2
 refine bodyPost_ret (gD rfl _ _ A5 28 #[.int .i64 D0, .int .i64 D1, .slice F0 D2.length F1, .slice F2 D3.length F3, .slice F4 D4.length F5] (0, 0) _ rfl (gB (h := by exact gK A7.out)) Tryz.underlying28 rfl (by kernel_rfl)) rfl ?_
 exact ⟨_, _, _, gy, by (with_reducible repeat (first | apply Kd.aC | apply Kd.aA | apply Kd.ay)); exact Kd.ae (bU B3.out A7.out) (fun _ hk => ⟨hk.1.1, hk.1.2⟩), by (with_reducible repeat (first | apply Kd.aC | apply Kd.aA | apply Kd.ay)); exact Kd.ae (bU B4.out A7.out) (fun _ hk => ⟨hk.1.1, hk.1.2⟩), by (with_reducible repeat (first | apply Kd.aC | apply Kd.aA | apply Kd.ay)); exact Kd.ae (bU B7.out A7.out) (fun _ hk => ⟨hk.1.1, hk.1.2⟩), z9_⟩
def cu.l0 : Nat → Int → List Int → List Int → Int → Int → Option (List Int)
 | 0, _, _, _, _, _ => none
 | k + 1, x1, x5, x9, x10, x11 => if x11 < x10 then (if 0 ≤ x11 then (if x11 < (x9.length : Int) then (if x5.length < 17592186044416 then (cu.l0 k x1 (x5 ++ [wrap64 ((rd x9 x11) + x1)]) x9 x10 (wrap64 (x11 + 1))) else (none)) else (none)) else (none)) else (some x5)
def cu.f (k : Nat) (l0 : List Int) (a1 : Int) : Option (List Int) := cu.l0 k a1 (([] : List Int)) l0 (l0.length : Int) 0
theorem cu.dC : ∀ k, (∀ y0 y1 y2 y3 y4, LeO (cu.l0 k y0 y1 y2 y3 y4) (cu.l0 (k + 1) y0 y1 y2 y3 y4))
 | 0 => fun _ _ _ _ _ r h => by simp [cu.l0] at h
 | k + 1 => by
  have ih0 := cu.dC k
  ·intro y0 y1 y2 y3 y4
   unfold cu.l0
   repeat' first | (with_reducible first | exact ih0 .. | exact LeO.refl .. | exact LeO.none .. | refine LeO.ite ?_ ?_ | refine LeO.bind ?_ (fun _ => ?_))
theorem cu.mono : ∀ a0 a1 k, LeO (cu.f k a0 a1) (cu.f (k + 1) a0 a1) := by
 intro a0 a1 k
 have ih0 := cu.dC k
 unfold cu.f
 repeat' first | (with_reducible first | exact ih0 .. | exact LeO.refl .. | exact LeO.none .. | refine LeO.ite ?_ ?_ | refine LeO.bind ?_ (fun _ => ?_))
theorem cu.calls (k : Nat) (A0 : Option Addr) (c0 : Nat) (l0 : List Int) (a1 : Int) (r : List Int) (w : World) (hr0 : Kd.C (Kd.int .i64) w A0 l0.length l0) (hc0 : l0.length ≤ c0) (h : cu.f k l0 a1 = some r) :
  Calls Tryz.prog 55 #[.slice A0 l0.length c0, .int .i64 a1] w fun e w' => ∃ v0_ : Value, e = .returned (v0_) ∧ Kd.R (Kd.int .i64) 2 w' w.heap.size (fun _ => True) v0_ r ∧ Below w.heap.size w w' := by
 have HR0 := a_ hr0
 have C7 := a_ hc0
 clear hr0 hc0
 have HB := a_ (Below.refl w.heap.size w)
 have H : (cu.l0 k a1 (([] : List Int)) l0 (l0.length : Int) 0) = some r := h
 clear h
 obtain ⟨A9, A3⟩ : ∃ y_ : List Int, y_ = (([] : List Int)) := ⟨_, rfl⟩
 replace H : (cu.l0 k a1 A9 l0 (l0.length : Int) 0) = some r := rh_ A3 H
 have A6 := a_ A3
 clear A3
 have H' := a_ H
 clear H
 go_enter Tryz.func55, Tryz.ntmps55
 go_wp2_with (first | ((with_reducible refine bn (N := 8) rfl ?_); refine Kd.iM (Kd.int .i64) _ 2 ?hg (N := 8) ?hd (xs := ([] : List Int)) (inner := []) (ok := fun _ => True) (okp := fun _ => True) ?hr ?hp (fun _ hk => hk) trivial (Below.refl _ _) (Nat.le_refl _) (by simp) ?_; (case hd => rfl); (case hg => rfl); (case hr => first | (go_simp; done) | (go_simp; rfl)); (case hp => exact (dG.none _ _)); intro C3 w3 ho4 hb hg_ hnew_; clear hg_ hnew_; (first | rw [← A6.out] at ho4 | (simp only [Int.reduceToNat] at ho4; rw [← A6.out] at ho4)); have B0 := a_ (Kd.bE ho4 (ai bX)); replace HB := cK bX hb; clear hb ho4))
 go_loopg [5, 11] k (fun kq v5 v11 w' => ∃ (A4 : List Int) (A1 : Int), v11 = .int .i64 A1 ∧ af (cu.l0 kq a1 A4 l0 (l0.length : Int) A1 = some r) ∧ af (kq ≤ k) ∧ af (Kd.R (Kd.int .i64) 2 w' w.heap.size (fun _ => True) v5 A4) ∧ af (Below w.heap.size w w'))
 case atStart => exact ⟨(A9), (0), cz, H', ⟨Nat.le_refl _⟩, ⟨by (with_reducible repeat (first | apply Kd.aC | apply Kd.aA | apply Kd.ay)); exact B0.out⟩, ⟨bX⟩⟩
 case round =>
  clear H'
  obtain ⟨A4, A1, rfl, HA, HK1, HO_5, HB⟩ := hrel
  cases gk with
  | zero => exact absurd HA.out (by simp [cu.l0])
  | succ k1 =>
   have H := HA.out
   clear HA
   simp only [cu.l0] at H
   by_cases c5 : A1 < (l0.length : Int)
   ·rw [if_pos c5] at H
    have C0 := decide_eq_true c5
    clear c5
    replace H := ig_ H; obtain ⟨c6, H⟩ := H
    have C4 := decide_eq_true c6
    clear c6
    replace H := ig_ H; obtain ⟨c7, H⟩ := H
    have C5 := decide_eq_true c7
    clear c7
    replace H := ig_ H; obtain ⟨c8, H⟩ := H
    have LMc8 := a_ c8
    clear c8
    obtain ⟨B3, A5⟩ : ∃ y_ : List Int, y_ = (A4 ++ [wrap64 ((rd l0 A1) + a1)]) := ⟨_, rfl⟩
    replace H : (cu.l0 k1 a1 B3 l0 (l0.length : Int) (wrap64 (A1 + 1))) = some r := rh_ A5 H
    have B4 := a_ A5
    clear A5
    have H' := a_ H
    clear H
    have A7 : 0 ≤ (A1 : Int) := of_decide_eq_true aX
    have A8 : A1 < (l0.length : Int) := of_decide_eq_true aX
    obtain ⟨C2, C1, A2⟩ := Kd.eF HR0.out A1 A7 A8
    cases C1
    replace A2 := (HB.out.cell (World.block_lt_of_cell? _ _ A2)).trans A2
    replace A7 := eq_true A7
    replace A8 := eq_true A8
    go_wp2_with (first | ((with_reducible refine di (b := .append) (xs := #[.tmp 15, .tmp 19]) rfl ?_); at_builtin; refine Kd.fZ (Kd.int .i64) (w0 := w) w.heap.size rfl (.tmp 15) (.tmp 19) 22 2 (.int .i64 0) 8 rfl Tryz.underlying22 jQ rfl (by decide) (by omega) u5 A4 (wrap64 ((rd l0 A1) + a1)) [.int .i64 (wrap64 ((rd l0 A1) + a1))] (fun _ => True) (fun _ => False) rfl rfl ?aP (fun _ hk => hk.elim) ?aF ?aO ?aB ?aS ?aL ?_; (case aP => exact rfl); (case aB => exact bX); (case aF => exact (fun _ _ => trivial)); (case aO => exact (ra_ HO_5.out)); (case aS => exact (ai bX)); (case aL => have := LMc8.out; omega); intro C6 w9 ho hb hg hat; rw [← B4.out] at ho; replace HB := a_ (hb); have B7 := a_ (ho); clear HO_5; clear ho hb hg hat))
    go_roundg k1
    case measure => have := HK1.out; omega
    case rel => exact ⟨(B3), (wrap64 (A1 + 1)), cz, H', ⟨kW⟩, ⟨by (with_reducible repeat (first | apply Kd.aC | apply Kd.aA | apply Kd.ay)); exact B7.out⟩, ⟨bX⟩⟩
   rw [if_neg c5] at H
   have C0 := decide_eq_false c5
   clear c5
   obtain rfl := Option.some.inj H
   go_wp2
   go_ret
   exact ⟨_, gy, oo, bX⟩
def dV.f (l0 : List Int) : Option (List Int) := if 0 < l0.length then (if l0.length ≤ 1000000 then some l0 else none) else none
theorem dV.calls (A0 : Option Addr) (c0 : Nat) (l0 : List Int) (r : List Int) (w : World) (hr0 : Kd.C (Kd.int .i64) w A0 l0.length l0) (hc0 : l0.length ≤ c0) (h : dV.f l0 = some r) :
  Calls Tryz.prog 56 #[.slice A0 l0.length c0] w fun e w' => ∃ v0_ : Value, e = .returned (v0_) ∧ Kd.R (Kd.int .i64) 2 w' w.heap.size (fun _ => True) v0_ r ∧ Below w.heap.size w w' := by
 unfold dV.f at h
 by_cases h1 : 0 < l0.length
 ·rw [if_pos h1] at h
  by_cases h2 : l0.length ≤ 1000000
  ·rw [if_pos h2] at h
   obtain rfl := Option.some.inj h
   clear h
   obtain ⟨ad, hA0, _⟩ := Kd.eF hr0 0 (by omega) (by omega)
   subst hA0
   have hnil : ∀ (w1 : World) (c1 : Nat), (binOp .eql 22 (.slice (some ad) l0.length c1) (.slice none 0 0)).run Tryz.prog w1 = .ok (.bool false) w1 := fun w1 c1 => Go.Lib.run_eql_slice_nil (P := Tryz.prog) w1 22 2 (some ad) l0.length c1 0 0 Tryz.underlying22
   have HR0 := a_ hr0
   have B3 := a_ hc0
   clear hr0 hc0
   have HB := a_ (Below.refl w.heap.size w)
   obtain ⟨A3, A1⟩ : ∃ y_ : List Int, y_ = (([] : List Int)) := ⟨_, rfl⟩
   have A4 := a_ A1
   have LMc2 := a_ (show A3.length + l0.length < 17592186044416 by rw [A1, List.length_nil]; omega)
   have HE := a_ (show A3 ++ l0 = l0 by rw [A1]; rfl)
   clear A1 h1 h2
   obtain ⟨A9, A2⟩ : ∃ y_ : List Int, y_ = (A3 ++ l0) := ⟨_, rfl⟩
   rw [← A2] at HE
   have A6 := a_ A2
   clear A2
   go_enter Tryz.func56, Tryz.ntmps56
   go_wp2_with (first | ((with_reducible refine bn (N := 5) rfl ?_); refine Kd.iM (Kd.int .i64) _ 2 ?hg (N := 5) ?hd (xs := ([] : List Int)) (inner := []) (ok := fun _ => True) (okp := fun _ => True) ?hr ?hp (fun _ hk => hk) trivial (Below.refl _ _) (Nat.le_refl _) (by simp) ?_; (case hd => rfl); (case hg => rfl); (case hr => first | (go_simp; done) | (go_simp; rfl)); (case hp => exact (dG.none _ _)); intro A8 w3 ho4 hb hg_ hnew_; clear hg_ hnew_; (first | rw [← A4.out] at ho4 | (simp only [Int.reduceToNat] at ho4; rw [← A4.out] at ho4)); have A5 := a_ (Kd.bE ho4 (ai bX)); replace HB := cK bX hb; clear hb ho4) | ((with_reducible refine di (b := .append) (xs := #[.tmp 5, .tmp 6]) rfl ?_); at_builtin; refine Kd.il (Kd.int .i64) (w0 := w) w.heap.size rfl (.tmp 5) (.tmp 6) 22 2 (.int .i64 0) 8 rfl Tryz.underlying22 jQ rfl (by decide) (by omega) A8 A3 l0 _ _ _ (fun _ => True) (fun _ => False) rfl rfl ?aO ?aR (fun _ _ h => h) (fun _ h => h.elim) ?aF ?aB ?aS ?aL ?_; (case aR => exact kc_ (Kd.bT HR0.out HB.out)); (case aB => exact bX); (case aF => exact (fun _ _ => trivial)); (case aO => exact (ra_ A5.out)); (case aS => exact (ai bX)); (case aL => have := LMc2.out; omega); intro B0 w5 ho hb hg hat; rw [← A6.out] at ho; replace HB := a_ (hb); have A7 := a_ (ho); clear A5; clear ho hb hg hat))
   go_ret
   exact ⟨_, gy, by (with_reducible repeat (first | apply Kd.aC | apply Kd.aA | apply Kd.ay)); rw [← HE.out]; exact A7.out, bX⟩
  ·rw [if_neg h2] at h; cases h
 ·rw [if_neg h1] at h; cases h
def dm.f (k : Nat) (a0_0 : Int) (a0_1 : Int) (l0_2 : List Int) (l0_3 : List Int) (l0_4 : List Int) (a1 : Int) : Option (Int × Int × List Int × List Int × List Int × Int) := (aW.f k a0_0 a0_1 l0_2 l0_3 l0_4).bind fun t559 => (if t559 = true then ((fE.f a1 (-1000000000) 1000000000).bind fun t560 => (if t560 = true then ((cu.f k l0_2 a1).bind fun t561 => ((cu.f k l0_3 a1).bind fun t564 => ((dV.f l0_4).bind fun t567 => ((aW.f k a0_0 a0_1 t561 t564 t567).bind fun t571 => (if t571 = true then (some (a0_0, a0_1, t561, t564, t567, 0)) else (some (0, 0, ([] : List Int), ([] : List Int), ([] : List Int), 3))))))) else (some (0, 0, ([] : List Int), ([] : List Int), ([] : List Int), 2)))) else (some (0, 0, ([] : List Int), ([] : List Int), ([] : List Int), 1)))
theorem dm.mono : ∀ a0 a1 a2 a3 a4 a5 k, LeO (dm.f k a0 a1 a2 a3 a4 a5) (dm.f (k + 1) a0 a1 a2 a3 a4 a5) := by
 intro a0 a1 a2 a3 a4 a5 k
 unfold dm.f
 repeat' first | (with_reducible first | exact aW.mono .. | exact cu.mono .. | exact LeO.refl .. | exact LeO.none .. | refine LeO.ite ?_ ?_ | refine LeO.bind ?_ (fun _ => ?_))
def dm.T5 : Bool × List (List Nat × List Nat) := (true, [([], []), ([0], [0]), ([], []), ([2], [2]), ([], []), ([4], [4]), ([], []), ([5, 6], [5, 6]), ([], []), ([8], [8]), ([], []), ([9, 10, 7], [9, 10]), ([], []), ([12], [12]), ([13, 11], [13]), ([1, 3, 7, 11, 14], [1, 3, 7, 11, 14]), ([], []), ([16, 15, 14, 0, 1, 2, 3, 4, 5, 6, 7, 8, 9, 10, 11, 12, 13, 14, 15, 16], [15, 16])])
def dm.B5 : List Nat := [0, 1, 0, 4, 0, 16, 0, 112, 0, 256, 0, 2032, 0, 4096, 16368, 32767, 0, 131071]
theorem dm.vP : ig .any (opsOf Tryz.f17 5) = dm.T5 := by kernel_rfl
theorem dm.qU : gm dm.T5.2 dm.B5 = true := by kernel_rfl
theorem dm.calls (k : Nat) (a0_0 : Int) (a0_1 : Int) (E5 : Option Addr) (E6 : Nat) (l0_2 : List Int) (E7 : Option Addr) (E8 : Nat) (l0_3 : List Int) (E9 : Option Addr) (F0 : Nat) (l0_4 : List Int) (a1 : Int) (r1 : Int) (r2 : Int) (r3 : List Int) (r4 : List Int) (r5 : List Int) (r6 : Int) (w : World) (hr0_2 : Kd.C (Kd.int .i64) w E5 l0_2.length l0_2) (hc0_2 : l0_2.length ≤ E6) (hr0_3 : Kd.C (Kd.int .i64) w E7 l0_3.length l0_3) (hc0_3 : l0_3.length ≤ E8) (hr0_4 : Kd.C (Kd.int .i64) w E9 l0_4.length l0_4) (hc0_4 : l0_4.length ≤ F0) (h : dm.f k a0_0 a0_1 l0_2 l0_3 l0_4 a1 = some (r1, r2, r3, r4, r5, r6)) :
  Calls Tryz.prog 17 #[.agg #[.int .i64 a0_0, .int .i64 a0_1, .slice E5 l0_2.length E6, .slice E7 l0_3.length E8, .slice E9 l0_4.length F0], .int .i64 a1] w fun e w' => ∃ v2_ v3_ v4_ : Value, e = .returned (.tuple #[.agg #[.int .i64 r1, .int .i64 r2, v2_, v3_, v4_], .int .i64 r6]) ∧ Kd.R (Kd.int .i64) 2 w' w.heap.size (fun k_ => some k_ ≠ (v3_ : Value).ownBlock ∧ some k_ ≠ (v4_ : Value).ownBlock) v2_ r3 ∧ Kd.R (Kd.int .i64) 2 w' w.heap.size (fun k_ => some k_ ≠ (v2_ : Value).ownBlock ∧ some k_ ≠ (v4_ : Value).ownBlock) v3_ r4 ∧ Kd.R (Kd.int .i64) 2 w' w.heap.size (fun k_ => some k_ ≠ (v2_ : Value).ownBlock ∧ some k_ ≠ (v3_ : Value).ownBlock) v4_ r5 ∧ Below w.heap.size w w' := by
 have hu28 := Tryz.underlying28
 have G0 := a_ hr0_2
 have G1 := a_ hc0_2
 clear hr0_2 hc0_2
 have G2 := a_ hr0_3
 have G3 := a_ hc0_3
 clear hr0_3 hc0_3
 have HR0_4 := a_ hr0_4
 have G4 := a_ hc0_4
 clear hr0_4 hc0_4
 have HB := a_ (Below.refl w.heap.size w)
 have H : ((aW.f k a0_0 a0_1 l0_2 l0_3 l0_4).bind fun H7 => (if H7 = true then ((fE.f a1 (-1000000000) 1000000000).bind fun G6 => (if G6 = true then ((cu.f k l0_2 a1).bind fun E2 => ((cu.f k l0_3 a1).bind fun E3 => ((dV.f l0_4).bind fun E4 => ((aW.f k a0_0 a0_1 E2 E3 E4).bind fun F3 => (if F3 = true then (some (a0_0, a0_1, E2, E3, E4, 0)) else (some (0, 0, ([] : List Int), ([] : List Int), ([] : List Int), 3))))))) else (some (0, 0, ([] : List Int), ([] : List Int), ([] : List Int), 2)))) else (some (0, 0, ([] : List Int), ([] : List Int), ([] : List Int), 1)))) = some (r1, r2, r3, r4, r5, r6) := h
 clear h
 replace H := bo_ H; obtain ⟨H7, A3, H⟩ := H; (try dsimp only at H)
 by_cases c4 : H7 = true
 ·subst c4
  have H1 : ((fE.f a1 (-1000000000) 1000000000).bind fun G6 => (if G6 = true then ((cu.f k l0_2 a1).bind fun E2 => ((cu.f k l0_3 a1).bind fun E3 => ((dV.f l0_4).bind fun E4 => ((aW.f k a0_0 a0_1 E2 E3 E4).bind fun F3 => (if F3 = true then (some (a0_0, a0_1, E2, E3, E4, 0)) else (some (0, 0, ([] : List Int), ([] : List Int), ([] : List Int), 3))))))) else (some (0, 0, ([] : List Int), ([] : List Int), ([] : List Int), 2)))) = some (r1, r2, r3, r4, r5, r6) := by rw [if_pos rfl] at H; exact H
  clear H
  have H := H1
  clear H1
  replace H := bo_ H; obtain ⟨G6, A5, H⟩ := H; (try dsimp only at H)
  by_cases c6 : G6 = true
  ·subst c6
   have H1 : ((cu.f k l0_2 a1).bind fun E2 => ((cu.f k l0_3 a1).bind fun E3 => ((dV.f l0_4).bind fun E4 => ((aW.f k a0_0 a0_1 E2 E3 E4).bind fun F3 => (if F3 = true then (some (a0_0, a0_1, E2, E3, E4, 0)) else (some (0, 0, ([] : List Int), ([] : List Int), ([] : List Int), 3))))))) = some (r1, r2, r3, r4, r5, r6) := by rw [if_pos rfl] at H; exact H
   clear H
   have H := H1
   clear H1
   replace H := bo_ H; obtain ⟨E2, A7, H⟩ := H; (try dsimp only at H)
   replace H := bo_ H; obtain ⟨E3, A8, H⟩ := H; (try dsimp only at H)
   replace H := bo_ H; obtain ⟨E4, A9, H⟩ := H; (try dsimp only at H)
   replace H := bo_ H; obtain ⟨F3, V1, H⟩ := H; (try dsimp only at H)
   have HHm_ := a_ H
   clear H
   go_enter Tryz.func17, Tryz.ntmps17
   try go_wp2_with (first | ((with_reducible refine bn (N := 2) rfl ?_); refine bG ?hg (N := 2) ?hd (cs := #[.int .i64 a0_0, .int .i64 a0_1, .slice E5 l0_2.length E6, .slice E7 l0_3.length E8, .slice E9 l0_4.length F0]) (t := 28) ?hr ?_; (case hd => rfl); (case hg => rfl); (case hr => first | (go_simp; done) | (go_simp; rfl)); intro A2 hg X2 hbox hb; have A1 := a_ (hbox); have H5 := a_ ((fO : w.heap.size ≤ A2)); have GE557 := a_ ((fO : w.heap.size ≤ A2)); replace HB := cK bX hb; clear hb hbox hg) | ((with_reducible refine bn (N := 4) rfl ?_); refine bG ?hg (N := 4) ?hd (cs := #[.int .i64 0, .int .i64 0, .slice none 0 0, .slice none 0 0, .slice none 0 0]) (t := 28) ?hr ?_; (case hd => rfl); (case hg => rfl); (case hr => first | (go_simp; done) | (go_simp; rfl)); intro D0 hg V8 hbox hb; have B4 := a_ (hbox); have H6 := a_ ((xC : w.heap.size ≤ D0)); have GE558 := a_ ((xC : w.heap.size ≤ D0)); replace HB := cK Aq hb; have F1 := a_ ((by rw [hg]; exact Nat.ne_of_lt (dI (g := A2) (rb_ A1.out)) : A2 ≠ D0)); have F2 := a_ ((by rw [hg]; exact Nat.ne_of_gt (dI (g := A2) (rb_ A1.out)) : D0 ≠ A2)); replace A1 := bb_ A2 A1 hb; clear hb hbox hg; have hnb14 := F1.out; have hnc14 := F2.out; obtain ⟨J2, J3, J4, J5, J6, J7, J8, J9, K0, K1⟩ := eU (w := V8) A1.out) | ((with_reducible refine av (f := 20) rfl ?_); refine bJ (some 9) rfl rfl Tryz.func20 (by kernel_rfl) rfl #[.agg #[.int .i64 a0_0, .int .i64 a0_1, .slice E5 l0_2.length E6, .slice E7 l0_3.length E8, .slice E9 l0_4.length F0]] rfl dN ?_; (with_reducible refine (aW.calls k a0_0 a0_1 (fun k_ => k_ < w.heap.size) _ _ l0_2 (fun k_ => k_ < w.heap.size) _ _ l0_3 _ _ l0_4 true _ ?side1 ?side2 ?side3 ?side4 A3.out).mono ?_); (case side1 => exact Kd.pY G1.out (Kd.iY (Kd.C_F (Kd.iR .i64) G0.out) kg)); (case side2 => exact Kd.pY G3.out (Kd.iY (Kd.C_F (Kd.iR .i64) G2.out) kg)); (case side3 => exact kc_ (Kd.bT HR0_4.out HB.out)); (case side4 => exact G4.out); rintro e H8 ⟨rfl, hb⟩; refine ⟨_, rfl, ?_⟩; replace A1 := bb_ A2 A1 hb; replace B4 := bb_ D0 B4 hb; replace HB := cK kg hb; (try clear hb)) | ((with_reducible refine av (f := 54) rfl ?_); refine bJ (some 14) rfl rfl Tryz.func54 (by kernel_rfl) rfl #[.int .i64 a1, .int .i64 (-1000000000), .int .i64 1000000000] rfl dN ?_; (with_reducible refine (fE.calls a1 (-1000000000) 1000000000 true _ A5.out).mono ?_); rintro e w' ⟨rfl, ⟨nd, rfl⟩⟩; refine ⟨_, rfl, ?_⟩; (try (rw [jq H8]; generalize hq_ : World.drewN H8 _ = H8; have n0_ : af (H8.heap[A2]? = some (.cells #[.int .i64 a0_0, .int .i64 a0_1, .slice E5 l0_2.length E6, .slice E7 l0_3.length E8, .slice E9 l0_4.length F0] 28 (0, 0))) := ⟨by rw [← hq_]; exact (rb_ A1.out)⟩; have n1_ : af (H8.heap[D0]? = some (.cells #[.int .i64 0, .int .i64 0, .slice none 0 0, .slice none 0 0, .slice none 0 0] 28 (0, 0))) := ⟨by rw [← hq_]; exact (rb_ B4.out)⟩; have n2_ : af (Below w.heap.size w H8) := ⟨by rw [← hq_]; exact kg⟩; clear A1 B4 HB hq_; have A1 := n0_; have B4 := n1_; have HB := n2_; clear n0_ n1_ n2_))))
   replace A1 := a_ (bv A1.out)
   replace B4 := a_ (bv B4.out)
   replace HB := a_ (aM HB.out)
   refine gW (n := 18) (S := fun w' => True) (ds := []) #[false, false, false, false, false, false, false, false, false, false, false, false, false, false, false, false, false, false] (by kernel_rfl) rfl rfl trivial (fun hHeld => ?_); refine fq dm.vP dm.qU (fun HT_ HW_ => ?_)
   generalize H8.drew = X3 at A1 B4 HB hHeld ⊢
   refine pv_ 0 (some 17) ?_
   refine pv_ 2 (some 19) ?_
   refine pv_ 4 (some 21) ?_
   refine pv_ 6 (some 23) ?_
   refine pv_ 8 (some 25) ?_
   refine pv_ 10 (some 27) ?_
   refine pv_ 12 (some 29) ?_
   refine uf [1, 3, 5, 7, 9, 11, 13, 14, 15, 16, 17] (fun a0_ b a w' => ∃ (D7 : Value) (D8 : Value) (D9 : Value) (gb570 : Nat) (m15_ : Value) (m16_ : Value), a = gI a0_ b [(1, 18, .int .i64 a0_0), (3, 20, .int .i64 a0_1), (5, 22, .slice E5 l0_2.length E6), (7, 24, D7), (9, 26, .slice E7 l0_3.length E8), (11, 28, D8), (13, 30, .slice E9 l0_4.length F0), (14, 31, D9), (15, 32, m15_), (16, 6, m16_)] ∧ (w'.heap[A2]? = some (.cells #[.int .i64 a0_0, .int .i64 a0_1, .slice E5 l0_2.length E6, .slice E7 l0_3.length E8, .slice E9 l0_4.length F0] 28 (0, 0))) ∧ (w'.heap[D0]? = some (.cells #[.int .i64 0, .int .i64 0, .slice none 0 0, .slice none 0 0, .slice none 0 0] 28 (0, 0))) ∧ (Below w.heap.size w w') ∧ (b 7 = true → Kd.R (Kd.int .i64) 2 w' w.heap.size (fun _ => True) D7 E2) ∧ (b 11 = true → Kd.R (Kd.int .i64) 2 w' w.heap.size (fun _ => True) D8 E3) ∧ (b 14 = true → Kd.R (Kd.int .i64) 2 w' w.heap.size (fun _ => True) D9 E4) ∧ (b 16 = true → b 17 = false → w'.heap[gb570]? = some (.cells #[.int .i64 0, .int .i64 0, .slice none 0 0, .slice none 0 0, .slice none 0 0] 28 (0, 0))) ∧ (b 16 = true → w.heap.size ≤ gb570) ∧ (b 16 = true → w.heap.size ≤ gb570) ∧ (b 16 = true → A2 ≠ gb570) ∧ (b 16 = true → gb570 ≠ A2) ∧ (b 16 = true → D0 ≠ gb570) ∧ (b 16 = true → gb570 ≠ D0) ∧ (b 17 = true → w'.heap[gb570]? = some (.cells #[.int .i64 a0_0, .int .i64 a0_1, D7, D8, D9] 28 (0, 0))) ∧ (b 15 = true → (m15_ : Value) = .agg #[.int .i64 a0_0, .int .i64 a0_1, D7, D8, D9]) ∧ (b 16 = true → (m16_ : Value) = .pointer (some ⟨gb570, 0, none⟩)) ∧ (b 7 = true → b 11 = true → ∀ k_ : Nat, (D7 : Value).ownBlock = some k_ → (D8 : Value).ownBlock ≠ some k_) ∧ (b 7 = true → b 14 = true → ∀ k_ : Nat, (D7 : Value).ownBlock = some k_ → (D9 : Value).ownBlock ≠ some k_) ∧ (b 11 = true → b 14 = true → ∀ k_ : Nat, (D8 : Value).ownBlock = some k_ → (D9 : Value).ownBlock ≠ some k_)) HT_.out HW_.out (by kernel_rfl) (by kernel_rfl) ?_ ?_ ?_
   ·exact ⟨.bool false, .bool false, .bool false, 0, .bool false, .bool false, by simp only [gI, Bool.false_eq_true, if_false], A1.out, B4.out, HB.out, fun h_ => absurd h_ (by decide), fun h_ => absurd h_ (by decide), fun h_ => absurd h_ (by decide), fun h_ => absurd h_ (by decide), fun h_ => absurd h_ (by decide), fun h_ => absurd h_ (by decide), fun h_ => absurd h_ (by decide), fun h_ => absurd h_ (by decide), fun h_ => absurd h_ (by decide), fun h_ => absurd h_ (by decide), fun h_ => absurd h_ (by decide), fun h_ => absurd h_ (by decide), fun h_ => absurd h_ (by decide), fun h_ => absurd h_ (by decide), fun h_ => absurd h_ (by decide), fun h_ => absurd h_ (by decide)⟩
   ·skip
    clear A1 B4 HB
    refine dM ?_ ?_
    ·rintro b a w' ⟨D7, D8, D9, gb570, m15_, m16_, ha, C0, C1, Q_HB, C4, C6, C9, Q_BK570, C7, C8, A4, A6, B0, B3, C5, Q_X15_, Q_X16_, C2, C3, B7⟩ hb_ hon hoff
     refine ⟨_, rfl, fun K hK => ?_⟩
     have X4 : a.tmps[17]? = some (.pointer (some ⟨A2, 0, none⟩)) := by rw [ha]; exact (eD rfl).trans rfl
     replace ha := a_ ha
     have A1 := a_ C0
     have B4 := a_ C1
     have HB := a_ Q_HB
     have hc0_ : w'.cell? ⟨A2, 0, none⟩ = some (.int .i64 a0_0) := (aa A1.out 0).trans rfl
     have hc1_ : w'.cell? ⟨A2, 1, none⟩ = some (.int .i64 a0_1) := (aa A1.out 1).trans rfl
     have hc2_ : w'.cell? ⟨A2, 2, none⟩ = some (.slice E5 l0_2.length E6) := (aa A1.out 2).trans rfl
     have hc3_ : w'.cell? ⟨A2, 3, none⟩ = some (.slice E7 l0_3.length E8) := (aa A1.out 3).trans rfl
     have hc4_ : w'.cell? ⟨A2, 4, none⟩ = some (.slice E9 l0_4.length F0) := (aa A1.out 4).trans rfl
     refine ji (w1 := w') (v := .int .i64 a0_0) (by rfl) rfl ?_ ?_
     ·go_simp
      (try simp only [eX])
      try rfl
      (try (first | done | omega | (simp only [decide_eq_true_eq] at *; omega)))
     refine hK.out _ _ ⟨D7, D8, D9, gb570, m15_, m16_, (by rw [ha.out]; exact dU 0 hb_ rfl rfl rfl), C0, C1, Q_HB, C4, C6, C9, Q_BK570, C7, C8, A4, A6, B0, B3, fun h0_ => absurd ((hoff 17 (by kernel_rfl)).symm.trans h0_) (by decide), fun h0_ => absurd ((hoff 15 (by kernel_rfl)).symm.trans h0_) (by decide), Q_X16_, C2, C3, B7⟩
    refine dM ?_ ?_
    ·rintro b a w' ⟨D7, D8, D9, gb570, m15_, m16_, ha, C0, C1, Q_HB, C4, C6, C9, Q_BK570, C7, C8, A4, A6, B0, B3, C5, Q_X15_, Q_X16_, C2, C3, B7⟩ hb_ hon hoff
     refine ⟨_, rfl, fun K hK => ?_⟩
     have X5 : a.tmps[19]? = some (.pointer (some ⟨A2, 1, none⟩)) := by rw [ha]; exact (eD rfl).trans rfl
     replace ha := a_ ha
     have A1 := a_ C0
     have B4 := a_ C1
     have HB := a_ Q_HB
     have hc0_ : w'.cell? ⟨A2, 0, none⟩ = some (.int .i64 a0_0) := (aa A1.out 0).trans rfl
     have hc1_ : w'.cell? ⟨A2, 1, none⟩ = some (.int .i64 a0_1) := (aa A1.out 1).trans rfl
     have hc2_ : w'.cell? ⟨A2, 2, none⟩ = some (.slice E5 l0_2.length E6) := (aa A1.out 2).trans rfl
     have hc3_ : w'.cell? ⟨A2, 3, none⟩ = some (.slice E7 l0_3.length E8) := (aa A1.out 3).trans rfl
     have hc4_ : w'.cell? ⟨A2, 4, none⟩ = some (.slice E9 l0_4.length F0) := (aa A1.out 4).trans rfl
     refine ji (w1 := w') (v := .int .i64 a0_1) (by rfl) rfl ?_ ?_
     ·go_simp
      (try simp only [eX])
      try rfl
      (try (first | done | omega | (simp only [decide_eq_true_eq] at *; omega)))
     refine hK.out _ _ ⟨D7, D8, D9, gb570, m15_, m16_, (by rw [ha.out]; exact dU 1 hb_ rfl rfl rfl), C0, C1, Q_HB, C4, C6, C9, Q_BK570, C7, C8, A4, A6, B0, B3, fun h0_ => absurd ((hoff 17 (by kernel_rfl)).symm.trans h0_) (by decide), fun h0_ => absurd ((hoff 15 (by kernel_rfl)).symm.trans h0_) (by decide), Q_X16_, C2, C3, B7⟩
    refine dM ?_ ?_
    ·rintro b a w' ⟨D7, D8, D9, gb570, m15_, m16_, ha, C0, C1, Q_HB, C4, C6, C9, Q_BK570, C7, C8, A4, A6, B0, B3, C5, Q_X15_, Q_X16_, C2, C3, B7⟩ hb_ hon hoff
     refine ⟨_, rfl, fun K hK => ?_⟩
     have X6 : a.tmps[21]? = some (.pointer (some ⟨A2, 2, none⟩)) := by rw [ha]; exact (eD rfl).trans rfl
     replace ha := a_ ha
     have A1 := a_ C0
     have B4 := a_ C1
     have HB := a_ Q_HB
     have hc0_ : w'.cell? ⟨A2, 0, none⟩ = some (.int .i64 a0_0) := (aa A1.out 0).trans rfl
     have hc1_ : w'.cell? ⟨A2, 1, none⟩ = some (.int .i64 a0_1) := (aa A1.out 1).trans rfl
     have hc2_ : w'.cell? ⟨A2, 2, none⟩ = some (.slice E5 l0_2.length E6) := (aa A1.out 2).trans rfl
     have hc3_ : w'.cell? ⟨A2, 3, none⟩ = some (.slice E7 l0_3.length E8) := (aa A1.out 3).trans rfl
     have hc4_ : w'.cell? ⟨A2, 4, none⟩ = some (.slice E9 l0_4.length F0) := (aa A1.out 4).trans rfl
     refine ji (w1 := w') (v := .slice E5 l0_2.length E6) (by rfl) rfl ?_ ?_
     ·go_simp
      (try simp only [eX])
      try rfl
      (try (first | done | omega | (simp only [decide_eq_true_eq] at *; omega)))
     refine hK.out _ _ ⟨D7, D8, D9, gb570, m15_, m16_, (by rw [ha.out]; exact dU 2 hb_ rfl rfl rfl), C0, C1, Q_HB, fun h0_ => absurd ((hoff 7 (by kernel_rfl)).symm.trans h0_) (by decide), fun h0_ => absurd ((hoff 11 (by kernel_rfl)).symm.trans h0_) (by decide), fun h0_ => absurd ((hoff 14 (by kernel_rfl)).symm.trans h0_) (by decide), Q_BK570, C7, C8, A4, A6, B0, B3, fun h0_ => absurd ((hoff 17 (by kernel_rfl)).symm.trans h0_) (by decide), fun h0_ => absurd ((hoff 15 (by kernel_rfl)).symm.trans h0_) (by decide), Q_X16_, C2, C3, B7⟩
    refine dM ?_ ?_
    ·rintro b a w' ⟨D7, D8, D9, gb570, m15_, m16_, ha, C0, C1, Q_HB, C4, C6, C9, Q_BK570, C7, C8, A4, A6, B0, B3, C5, Q_X15_, Q_X16_, C2, C3, B7⟩ hb_ hon hoff
     refine ⟨_, rfl, fun K hK => ?_⟩
     have V2 : a.tmps[22]? = some (.slice E5 l0_2.length E6) := by rw [ha]; exact eu (e := (5, 22, .slice E5 l0_2.length E6)) 2 rfl rfl (hon 5 (by kernel_rfl)) rfl
     have V3 : a.tmps[23]? = some (.int .i64 a1) := by rw [ha]; exact (eD rfl).trans rfl
     replace ha := a_ ha
     have A1 := a_ C0
     have B4 := a_ C1
     have HB := a_ Q_HB
     refine iQ Tryz.func55 (by kernel_rfl) rfl #[.slice E5 l0_2.length E6, .int .i64 a1] (by rfl) rfl rfl (by first | (simp only [List.map_toArray, List.map_cons, List.map_nil, Act.eval, Array.getD_eq_getD_getElem?, Option.getD_some, V2, V3]; done) | (simp only [List.map_toArray, List.map_cons, List.map_nil, Act.eval, Array.getD_eq_getD_getElem?, Option.getD_some, V2, V3]; rfl)) ?_
     with_reducible refine (cu.calls k _ _ l0_2 a1 E2 _ ?side1 ?side2 A7.out).mono ?_
     (case side1 => exact kc_ (Kd.bT G0.out HB.out))
     (case side2 => exact G1.out)
     rintro e J1 ⟨D7, rfl, ho0, hb⟩
     refine ⟨_, rfl, ?_⟩
     have n0_ := a_ (Kd.bE ho0 (ai kg))
     have n1_ := bb_ A2 A1 hb
     have n2_ := bb_ D0 B4 hb
     have n3_ := cK kg hb
     have z_BK570 := fun (h0_ : b 16 = true) (h1_ : b 17 = false) => (show J1.heap[gb570]? = some (.cells #[.int .i64 0, .int .i64 0, .slice none 0 0, .slice none 0 0, .slice none 0 0] 28 (0, 0)) from z5_)
     clear A1; clear B4; clear HB
     have D1 := n0_
     have A1 := n1_
     have B4 := n2_
     have HB := n3_
     clear n0_ n1_ n2_ n3_
     have z_NE7_11 := fun (h1_ : b 11 = true) (k_ : Nat) (hk_ : (D7 : Value).ownBlock = some k_) (hk2_ : (D8 : Value).ownBlock = some k_) => (Nat.not_lt.mpr (Kd.aH ho0 k_ hk_)) (Kd.df (C6 h1_) k_ hk2_)
     have z_NE7_14 := fun (h1_ : b 14 = true) (k_ : Nat) (hk_ : (D7 : Value).ownBlock = some k_) (hk2_ : (D9 : Value).ownBlock = some k_) => (Nat.not_lt.mpr (Kd.aH ho0 k_ hk_)) (Kd.df (C9 h1_) k_ hk2_)
     (try clear hb)
     (try clear hb2)
     (try clear hk)
     (try clear hi)
     (try clear ho0)
     refine hK.out _ _ ⟨D7, D8, D9, gb570, m15_, m16_, (by rw [ha.out]; exact dU 3 hb_ rfl rfl rfl), (rb_ A1.out), (rb_ B4.out), kg, fun _ => Kd.ae (ra_ D1.out) (fun _ _ => trivial), fun h0_ => absurd ((hoff 11 (by kernel_rfl)).symm.trans h0_) (by decide), fun h0_ => absurd ((hoff 14 (by kernel_rfl)).symm.trans h0_) (by decide), z_BK570, C7, C8, A4, A6, B0, B3, fun h0_ => absurd ((hoff 17 (by kernel_rfl)).symm.trans h0_) (by decide), fun h0_ => absurd ((hoff 15 (by kernel_rfl)).symm.trans h0_) (by decide), Q_X16_, fun _ h1_ => z_NE7_11 h1_, fun _ h1_ => z_NE7_14 h1_, B7⟩
    refine dM ?_ ?_
    ·rintro b a w' ⟨D7, D8, D9, gb570, m15_, m16_, ha, C0, C1, Q_HB, C4, C6, C9, Q_BK570, C7, C8, A4, A6, B0, B3, C5, Q_X15_, Q_X16_, C2, C3, B7⟩ hb_ hon hoff
     refine ⟨_, rfl, fun K hK => ?_⟩
     have X7 : a.tmps[25]? = some (.pointer (some ⟨A2, 3, none⟩)) := by rw [ha]; exact (eD rfl).trans rfl
     replace ha := a_ ha
     have A1 := a_ C0
     have B4 := a_ C1
     have HB := a_ Q_HB
     have hc0_ : w'.cell? ⟨A2, 0, none⟩ = some (.int .i64 a0_0) := (aa A1.out 0).trans rfl
     have hc1_ : w'.cell? ⟨A2, 1, none⟩ = some (.int .i64 a0_1) := (aa A1.out 1).trans rfl
     have hc2_ : w'.cell? ⟨A2, 2, none⟩ = some (.slice E5 l0_2.length E6) := (aa A1.out 2).trans rfl
     have hc3_ : w'.cell? ⟨A2, 3, none⟩ = some (.slice E7 l0_3.length E8) := (aa A1.out 3).trans rfl
     have hc4_ : w'.cell? ⟨A2, 4, none⟩ = some (.slice E9 l0_4.length F0) := (aa A1.out 4).trans rfl
     refine ji (w1 := w') (v := .slice E7 l0_3.length E8) (by rfl) rfl ?_ ?_
     ·go_simp
      (try simp only [eX])
      try rfl
      (try (first | done | omega | (simp only [decide_eq_true_eq] at *; omega)))
     refine hK.out _ _ ⟨D7, D8, D9, gb570, m15_, m16_, (by rw [ha.out]; exact dU 4 hb_ rfl rfl rfl), C0, C1, Q_HB, C4, fun h0_ => absurd ((hoff 11 (by kernel_rfl)).symm.trans h0_) (by decide), fun h0_ => absurd ((hoff 14 (by kernel_rfl)).symm.trans h0_) (by decide), Q_BK570, C7, C8, A4, A6, B0, B3, fun h0_ => absurd ((hoff 17 (by kernel_rfl)).symm.trans h0_) (by decide), fun h0_ => absurd ((hoff 15 (by kernel_rfl)).symm.trans h0_) (by decide), Q_X16_, C2, C3, B7⟩
    refine dM ?_ ?_
    ·rintro b a w' ⟨D7, D8, D9, gb570, m15_, m16_, ha, C0, C1, Q_HB, C4, C6, C9, Q_BK570, C7, C8, A4, A6, B0, B3, C5, Q_X15_, Q_X16_, C2, C3, B7⟩ hb_ hon hoff
     refine ⟨_, rfl, fun K hK => ?_⟩
     have V4 : a.tmps[26]? = some (.slice E7 l0_3.length E8) := by rw [ha]; exact eu (e := (9, 26, .slice E7 l0_3.length E8)) 4 rfl rfl (hon 9 (by kernel_rfl)) rfl
     have V5 : a.tmps[27]? = some (.int .i64 a1) := by rw [ha]; exact (eD rfl).trans rfl
     replace ha := a_ ha
     have A1 := a_ C0
     have B4 := a_ C1
     have HB := a_ Q_HB
     have D1 := a_ (C4 (hon 7 (by kernel_rfl)))
     refine iQ Tryz.func55 (by kernel_rfl) rfl #[.slice E7 l0_3.length E8, .int .i64 a1] (by rfl) rfl rfl (by first | (simp only [List.map_toArray, List.map_cons, List.map_nil, Act.eval, Array.getD_eq_getD_getElem?, Option.getD_some, V4, V5]; done) | (simp only [List.map_toArray, List.map_cons, List.map_nil, Act.eval, Array.getD_eq_getD_getElem?, Option.getD_some, V4, V5]; rfl)) ?_
     with_reducible refine (cu.calls k _ _ l0_3 a1 E3 _ ?side1 ?side2 A8.out).mono ?_
     (case side1 => exact kc_ (Kd.bT G2.out HB.out))
     (case side2 => exact G3.out)
     rintro e V9 ⟨D8, rfl, ho0, hb⟩
     refine ⟨_, rfl, ?_⟩
     have n0_ := a_ (Kd.bC (ra_ D1.out) (Kd.aH ho0) hb)
     have n1_ := a_ (Kd.bE (Kd.bq ho0 (Kd.df (ra_ D1.out))) (ai kg))
     have n2_ := bb_ A2 A1 hb
     have n3_ := bb_ D0 B4 hb
     have n4_ := cK kg hb
     have z_BK570 := fun (h0_ : b 16 = true) (h1_ : b 17 = false) => (show V9.heap[gb570]? = some (.cells #[.int .i64 0, .int .i64 0, .slice none 0 0, .slice none 0 0, .slice none 0 0] 28 (0, 0)) from z5_)
     clear D1; clear A1; clear B4; clear HB
     have D1 := n0_
     have E0 := n1_
     have A1 := n2_
     have B4 := n3_
     have HB := n4_
     clear n0_ n1_ n2_ n3_ n4_
     have z_NE7_11 := fun (h1_ : b 7 = true) (k_ : Nat) (hk_ : (D7 : Value).ownBlock = some k_) (hk2_ : (D8 : Value).ownBlock = some k_) => (Nat.not_lt.mpr (Kd.aH ho0 k_ hk2_)) (Kd.df (C4 h1_) k_ hk_)
     have z_NE11_14 := fun (h1_ : b 14 = true) (k_ : Nat) (hk_ : (D8 : Value).ownBlock = some k_) (hk2_ : (D9 : Value).ownBlock = some k_) => (Nat.not_lt.mpr (Kd.aH ho0 k_ hk_)) (Kd.df (C9 h1_) k_ hk2_)
     (try clear hb)
     (try clear hb2)
     (try clear hk)
     (try clear hi)
     (try clear ho0)
     refine hK.out _ _ ⟨D7, D8, D9, gb570, m15_, m16_, (by rw [ha.out]; exact dU 5 hb_ rfl rfl rfl), (rb_ A1.out), (rb_ B4.out), kg, fun _ => Kd.ae (rc_ (h := by exact Kd.ae D1.out (fun _ hk => hk.2))) (fun _ _ => trivial), fun _ => Kd.ae (rc_ (h := by exact Kd.ae E0.out (fun _ hk => hk.2))) (fun _ _ => trivial), fun h0_ => absurd ((hoff 14 (by kernel_rfl)).symm.trans h0_) (by decide), z_BK570, C7, C8, A4, A6, B0, B3, fun h0_ => absurd ((hoff 17 (by kernel_rfl)).symm.trans h0_) (by decide), fun h0_ => absurd ((hoff 15 (by kernel_rfl)).symm.trans h0_) (by decide), Q_X16_, fun h1_ _ => z_NE7_11 h1_, C3, fun _ h1_ => z_NE11_14 h1_⟩
    refine dM ?_ ?_
    ·rintro b a w' ⟨D7, D8, D9, gb570, m15_, m16_, ha, C0, C1, Q_HB, C4, C6, C9, Q_BK570, C7, C8, A4, A6, B0, B3, C5, Q_X15_, Q_X16_, C2, C3, B7⟩ hb_ hon hoff
     refine ⟨_, rfl, fun K hK => ?_⟩
     have X8 : a.tmps[29]? = some (.pointer (some ⟨A2, 4, none⟩)) := by rw [ha]; exact (eD rfl).trans rfl
     replace ha := a_ ha
     have A1 := a_ C0
     have B4 := a_ C1
     have HB := a_ Q_HB
     have hc0_ : w'.cell? ⟨A2, 0, none⟩ = some (.int .i64 a0_0) := (aa A1.out 0).trans rfl
     have hc1_ : w'.cell? ⟨A2, 1, none⟩ = some (.int .i64 a0_1) := (aa A1.out 1).trans rfl
     have hc2_ : w'.cell? ⟨A2, 2, none⟩ = some (.slice E5 l0_2.length E6) := (aa A1.out 2).trans rfl
     have hc3_ : w'.cell? ⟨A2, 3, none⟩ = some (.slice E7 l0_3.length E8) := (aa A1.out 3).trans rfl
     have hc4_ : w'.cell? ⟨A2, 4, none⟩ = some (.slice E9 l0_4.length F0) := (aa A1.out 4).trans rfl
     refine ji (w1 := w') (v := .slice E9 l0_4.length F0) (by rfl) rfl ?_ ?_
     ·go_simp
      (try simp only [eX])
      try rfl
      (try (first | done | omega | (simp only [decide_eq_true_eq] at *; omega)))
     refine hK.out _ _ ⟨D7, D8, D9, gb570, m15_, m16_, (by rw [ha.out]; exact dU 6 hb_ rfl rfl rfl), C0, C1, Q_HB, C4, C6, fun h0_ => absurd ((hoff 14 (by kernel_rfl)).symm.trans h0_) (by decide), Q_BK570, C7, C8, A4, A6, B0, B3, fun h0_ => absurd ((hoff 17 (by kernel_rfl)).symm.trans h0_) (by decide), fun h0_ => absurd ((hoff 15 (by kernel_rfl)).symm.trans h0_) (by decide), Q_X16_, C2, C3, B7⟩
    refine dM ?_ ?_
    ·rintro b a w' ⟨D7, D8, D9, gb570, m15_, m16_, ha, C0, C1, Q_HB, C4, C6, C9, Q_BK570, C7, C8, A4, A6, B0, B3, C5, Q_X15_, Q_X16_, C2, C3, B7⟩ hb_ hon hoff
     refine ⟨_, rfl, fun K hK => ?_⟩
     have V6 : a.tmps[30]? = some (.slice E9 l0_4.length F0) := by rw [ha]; exact eu (e := (13, 30, .slice E9 l0_4.length F0)) 6 rfl rfl (hon 13 (by kernel_rfl)) rfl
     replace ha := a_ ha
     have A1 := a_ C0
     have B4 := a_ C1
     have HB := a_ Q_HB
     have D1 := a_ (C4 (hon 7 (by kernel_rfl)))
     have E0 := a_ (C6 (hon 11 (by kernel_rfl)))
     refine iQ Tryz.func56 (by kernel_rfl) rfl #[.slice E9 l0_4.length F0] (by rfl) rfl rfl (by first | (simp only [List.map_toArray, List.map_cons, List.map_nil, Act.eval, Array.getD_eq_getD_getElem?, Option.getD_some, V6]; done) | (simp only [List.map_toArray, List.map_cons, List.map_nil, Act.eval, Array.getD_eq_getD_getElem?, Option.getD_some, V6]; rfl)) ?_
     with_reducible refine (dV.calls _ _ l0_4 E4 _ ?side1 ?side2 A9.out).mono ?_
     (case side1 => exact kc_ (Kd.bT HR0_4.out HB.out))
     (case side2 => exact G4.out)
     rintro e W0 ⟨D9, rfl, ho0, hb⟩
     refine ⟨_, rfl, ?_⟩
     have n0_ := a_ (Kd.bC (ra_ D1.out) (Kd.aH ho0) hb)
     have n1_ := a_ (Kd.bC (ra_ E0.out) (Kd.aH ho0) hb)
     have n2_ := a_ (Kd.bE (Kd.bq (Kd.bq ho0 (Kd.df (ra_ D1.out))) (Kd.df (ra_ E0.out))) (ai kg))
     have n3_ := bb_ A2 A1 hb
     have n4_ := bb_ D0 B4 hb
     have n5_ := cK kg hb
     have z_BK570 := fun (h0_ : b 16 = true) (h1_ : b 17 = false) => (show W0.heap[gb570]? = some (.cells #[.int .i64 0, .int .i64 0, .slice none 0 0, .slice none 0 0, .slice none 0 0] 28 (0, 0)) from z5_)
     clear D1; clear E0; clear A1; clear B4; clear HB
     have D1 := n0_
     have E0 := n1_
     have E1 := n2_
     have A1 := n3_
     have B4 := n4_
     have HB := n5_
     clear n0_ n1_ n2_ n3_ n4_ n5_
     have z_NE7_14 := fun (h1_ : b 7 = true) (k_ : Nat) (hk_ : (D7 : Value).ownBlock = some k_) (hk2_ : (D9 : Value).ownBlock = some k_) => (Nat.not_lt.mpr (Kd.aH ho0 k_ hk2_)) (Kd.df (C4 h1_) k_ hk_)
     have z_NE11_14 := fun (h1_ : b 11 = true) (k_ : Nat) (hk_ : (D8 : Value).ownBlock = some k_) (hk2_ : (D9 : Value).ownBlock = some k_) => (Nat.not_lt.mpr (Kd.aH ho0 k_ hk2_)) (Kd.df (C6 h1_) k_ hk_)
     (try clear hb)
     (try clear hb2)
     (try clear hk)
     (try clear hi)
     (try clear ho0)
     obtain ⟨T7, U0, H9⟩ := Kd.bg E1.out
     (first | subst H9 | (injection H9.symm with f1_ f2_ f3_; clear f2_ H9; subst f1_ f3_))
     obtain ⟨U1, U2, I0⟩ := Kd.bg E0.out
     (first | subst I0 | (injection I0.symm with f1_ f2_ f3_; clear f2_ I0; subst f1_ f3_))
     obtain ⟨U3, U4, I1⟩ := Kd.bg D1.out
     (first | subst I1 | (injection I1.symm with f1_ f2_ f3_; clear f2_ I1; subst f1_ f3_))
     refine hK.out _ _ ⟨.slice U3 E2.length U4, .slice U1 E3.length U2, .slice T7 E4.length U0, gb570, m15_, m16_, (by rw [ha.out]; exact dU 7 hb_ rfl rfl rfl), (rb_ A1.out), (rb_ B4.out), kg, fun _ => Kd.ae (ra_ D1.out) (fun _ _ => trivial), fun _ => Kd.ae (ra_ E0.out) (fun _ _ => trivial), fun _ => (rc_ (h := by exact Kd.ae E1.out (fun _ _ => trivial))), z_BK570, C7, C8, A4, A6, B0, B3, fun h0_ => absurd ((hoff 17 (by kernel_rfl)).symm.trans h0_) (by decide), fun h0_ => absurd ((hoff 15 (by kernel_rfl)).symm.trans h0_) (by decide), Q_X16_, C2, fun h1_ _ => z_NE7_14 h1_, fun h1_ _ => z_NE11_14 h1_⟩
    refine dM ?_ ?_
    ·rintro b a w' ⟨D7, D8, D9, gb570, m15_, m16_, ha, C0, C1, Q_HB, C4, C6, C9, Q_BK570, C7, C8, A4, A6, B0, B3, C5, Q_X15_, Q_X16_, C2, C3, B7⟩ hb_ hon hoff
     refine ⟨_, rfl, fun K hK => ?_⟩
     have X9 : a.tmps[18]? = some (.int .i64 a0_0) := by rw [ha]; exact eu (e := (1, 18, .int .i64 a0_0)) 0 rfl rfl (hon 1 (by kernel_rfl)) rfl
     have Y0 : a.tmps[20]? = some (.int .i64 a0_1) := by rw [ha]; exact eu (e := (3, 20, .int .i64 a0_1)) 1 rfl rfl (hon 3 (by kernel_rfl)) rfl
     have Y1 : a.tmps[24]? = some (D7) := by rw [ha]; exact eu (e := (7, 24, D7)) 3 rfl rfl (hon 7 (by kernel_rfl)) rfl
     have Y2 : a.tmps[28]? = some (D8) := by rw [ha]; exact eu (e := (11, 28, D8)) 5 rfl rfl (hon 11 (by kernel_rfl)) rfl
     have Y3 : a.tmps[31]? = some (D9) := by rw [ha]; exact eu (e := (14, 31, D9)) 7 rfl rfl (hon 14 (by kernel_rfl)) rfl
     replace ha := a_ ha
     have A1 := a_ C0
     have B4 := a_ C1
     have HB := a_ Q_HB
     have D1 := a_ (C4 (hon 7 (by kernel_rfl)))
     have E0 := a_ (C6 (hon 11 (by kernel_rfl)))
     have E1 := a_ (C9 (hon 14 (by kernel_rfl)))
     obtain ⟨F4, F5, eo_⟩ := Kd.bg D1.out
     subst eo_
     obtain ⟨F6, F7, eo_⟩ := Kd.bg E0.out
     subst eo_
     obtain ⟨F8, F9, eo_⟩ := Kd.bg E1.out
     subst eo_
     refine ji (w1 := w') (v := .agg #[.int .i64 a0_0, .int .i64 a0_1, .slice F4 E2.length F5, .slice F6 E3.length F7, .slice F8 E4.length F9]) (by rfl) rfl ?_ ?_
     ·go_simp
      (try simp only [eX])
      try rfl
      (try (first | done | omega | (simp only [decide_eq_true_eq] at *; omega)))
     refine hK.out _ _ ⟨.slice F4 E2.length F5, .slice F6 E3.length F7, .slice F8 E4.length F9, gb570, (.agg #[.int .i64 a0_0, .int .i64 a0_1, .slice F4 E2.length F5, .slice F6 E3.length F7, .slice F8 E4.length F9]), m16_, (by rw [ha.out]; exact dU 8 hb_ rfl rfl rfl), C0, C1, Q_HB, C4, C6, C9, Q_BK570, C7, C8, A4, A6, B0, B3, fun h0_ => absurd ((hoff 17 (by kernel_rfl)).symm.trans h0_) (by decide), fun _ => rfl, Q_X16_, C2, C3, B7⟩
    refine dM ?_ ?_
    ·rintro b a w' ⟨D7, D8, D9, gb570, m15_, m16_, ha, C0, C1, Q_HB, C4, C6, C9, Q_BK570, C7, C8, A4, A6, B0, B3, C5, Q_X15_, Q_X16_, C2, C3, B7⟩ hb_ hon hoff
     refine ⟨_, rfl, fun K hK => ?_⟩
     replace ha := a_ ha
     have A1 := a_ C0
     have B4 := a_ C1
     have HB := a_ Q_HB
     refine om ?hg (N := 6) ?hd (cs := #[.int .i64 0, .int .i64 0, .slice none 0 0, .slice none 0 0, .slice none 0 0]) (t := 28) ?hr ?_; (case hd => rfl); (case hg => rfl); (case hr => first | (go_simp; done) | (go_simp; rfl))
     intro gb570 hg J1 hbox hb
     have n0_ := bb_ A2 A1 hb
     have n1_ := bb_ D0 B4 hb
     have n2_ := cK kg hb
     have n3_ := a_ (hbox)
     have n4_ := a_ ((by rw [hg]; exact (ai kg) : w.heap.size ≤ gb570))
     have n5_ := a_ ((by rw [hg]; exact (ai kg) : w.heap.size ≤ gb570))
     have n6_ := a_ ((by rw [hg]; exact Nat.ne_of_lt (dI (g := A2) (rb_ A1.out)) : A2 ≠ gb570))
     have n7_ := a_ ((by rw [hg]; exact Nat.ne_of_gt (dI (g := A2) (rb_ A1.out)) : gb570 ≠ A2))
     have n8_ := a_ ((by rw [hg]; exact Nat.ne_of_lt (dI (g := D0) (rb_ B4.out)) : D0 ≠ gb570))
     have n9_ := a_ ((by rw [hg]; exact Nat.ne_of_gt (dI (g := D0) (rb_ B4.out)) : gb570 ≠ D0))
     have H2 := fun (h0_ : b 7 = true) => (show Kd.R (Kd.int .i64) 2 J1 w.heap.size (fun _ => True) D7 E2 from by first | exact (Kd.dF (rc_ (h := by exact C4 h0_)) hb) | exact Kd.ae (Kd.dF (rc_ (h := by exact C4 h0_)) hb) (fun _ h_ => by first | trivial | exact h_ | exact h_.1))
     have H3 := fun (h0_ : b 11 = true) => (show Kd.R (Kd.int .i64) 2 J1 w.heap.size (fun _ => True) D8 E3 from by first | exact (Kd.dF (rc_ (h := by exact C6 h0_)) hb) | exact Kd.ae (Kd.dF (rc_ (h := by exact C6 h0_)) hb) (fun _ h_ => by first | trivial | exact h_ | exact h_.1))
     have H4 := fun (h0_ : b 14 = true) => (show Kd.R (Kd.int .i64) 2 J1 w.heap.size (fun _ => True) D9 E4 from by first | exact (Kd.dF (rc_ (h := by exact C9 h0_)) hb) | exact Kd.ae (Kd.dF (rc_ (h := by exact C9 h0_)) hb) (fun _ h_ => by first | trivial | exact h_ | exact h_.1))
     clear A1; clear B4; clear HB
     have A1 := n0_
     have B4 := n1_
     have HB := n2_
     have D2 := n3_
     have G5 := n4_
     have GE570 := n5_
     have D3 := n6_
     have D5 := n7_
     have D4 := n8_
     have D6 := n9_
     clear n0_ n1_ n2_ n3_ n4_ n5_ n6_ n7_ n8_ n9_
     clear hb hbox hg
     refine hK.out _ _ ⟨D7, D8, D9, gb570, m15_, (.pointer (some ⟨gb570, 0, none⟩)), (by rw [ha.out]; exact dU 9 hb_ rfl rfl rfl), (rb_ A1.out), (rb_ B4.out), xF, H2, H3, H4, fun _ _ => (rb_ D2.out), fun _ => G5.out, fun _ => GE570.out, fun _ => D3.out, fun _ => D5.out, fun _ => D4.out, fun _ => D6.out, fun h0_ => absurd ((hoff 17 (by kernel_rfl)).symm.trans h0_) (by decide), Q_X15_, fun _ => rfl, C2, C3, B7⟩
    refine dM ?_ ?_
    ·rintro b a w' ⟨D7, D8, D9, gb570, m15_, m16_, ha, C0, C1, Q_HB, C4, C6, C9, Q_BK570, C7, C8, A4, A6, B0, B3, C5, Q_X15_, Q_X16_, C2, C3, B7⟩ hb_ hon hoff
     refine ⟨_, rfl, fun K hK => ?_⟩
     have e6 : a.tmps[6]? = some (m16_) := by rw [ha]; exact eu (e := (16, 6, m16_)) 9 rfl rfl (hon 16 (by kernel_rfl)) rfl
     rw [Q_X16_ (hon 16 (by kernel_rfl))] at e6
     have W1 : a.tmps[32]? = some (m15_) := by rw [ha]; exact eu (e := (15, 32, m15_)) 8 rfl rfl (hon 15 (by kernel_rfl)) rfl
     rw [Q_X15_ (hon 15 (by kernel_rfl))] at W1
     replace ha := a_ ha
     have A1 := a_ C0
     have B4 := a_ C1
     have HB := a_ Q_HB
     have D1 := a_ (C4 (hon 7 (by kernel_rfl)))
     have E0 := a_ (C6 (hon 11 (by kernel_rfl)))
     have E1 := a_ (C9 (hon 14 (by kernel_rfl)))
     have D2 := a_ (Q_BK570 (hon 16 (by kernel_rfl)) hb_)
     have G5 := a_ (C7 (hon 16 (by kernel_rfl)))
     have GE570 := a_ (C8 (hon 16 (by kernel_rfl)))
     have D3 := a_ (A4 (hon 16 (by kernel_rfl)))
     have D5 := a_ (A6 (hon 16 (by kernel_rfl)))
     have D4 := a_ (B0 (hon 16 (by kernel_rfl)))
     have D6 := a_ (B3 (hon 16 (by kernel_rfl)))
     obtain ⟨U5, U6, I2⟩ := Kd.bg E1.out
     (first | subst I2 | (injection I2.symm with f1_ f2_ f3_; clear f2_ I2; subst f1_ f3_))
     obtain ⟨U7, U8, I3⟩ := Kd.bg E0.out
     (first | subst I3 | (injection I3.symm with f1_ f2_ f3_; clear f2_ I3; subst f1_ f3_))
     obtain ⟨U9, V0, I4⟩ := Kd.bg D1.out
     (first | subst I4 | (injection I4.symm with f1_ f2_ f3_; clear f2_ I4; subst f1_ f3_))
     have W3 : w'.cell? ⟨gb570, 0, none⟩ = some (.int .i64 0) := (aa D2.out 0).trans rfl
     have hfs29 := bi D2.out 0
     have K2 := D3.out
     have K3 := D4.out
     have hms29_0 := D5.out
     have hms29_1 := D6.out
     have W4 : w'.cell? ⟨gb570, 1, none⟩ = some (.int .i64 0) := (aa D2.out 1).trans rfl
     have hfs30 := bi D2.out 1
     have K4 := D3.out
     have K5 := D4.out
     have hms30_0 := D5.out
     have hms30_1 := D6.out
     have W5 : w'.cell? ⟨gb570, 2, none⟩ = some (.slice none 0 0) := (aa D2.out 2).trans rfl
     have hfs31 := bi D2.out 2
     have K6 := D3.out
     have K7 := D4.out
     have hms31_0 := D5.out
     have hms31_1 := D6.out
     have W6 : w'.cell? ⟨gb570, 3, none⟩ = some (.slice none 0 0) := (aa D2.out 3).trans rfl
     have hfs32 := bi D2.out 3
     have K8 := D3.out
     have K9 := D4.out
     have hms32_0 := D5.out
     have hms32_1 := D6.out
     have W7 : w'.cell? ⟨gb570, 4, none⟩ = some (.slice none 0 0) := (aa D2.out 4).trans rfl
     have hfs33 := bi D2.out 4
     have L0 := D3.out
     have L1 := D4.out
     have hms33_0 := D5.out
     have hms33_1 := D6.out
     refine lD (w1 := ?_) (by rfl) rfl ?_ ?_
     rotate_left
     ·go_simp
      rfl
     refine hK.out _ _ ⟨.slice U9 E2.length V0, .slice U7 E3.length U8, .slice U5 E4.length U6, gb570, m15_, m16_, (by rw [ha.out]; exact lg (v := undef) rfl), (gB (h := by exact lw D3.out A1.out)), (gB (h := by exact lw D4.out B4.out)), xF, fun _ => (rc_ (h := by exact Kd.ae (bU D1.out D2.out) (fun _ _ => trivial))), fun _ => (rc_ (h := by exact Kd.ae (bU E0.out D2.out) (fun _ _ => trivial))), fun _ => (rc_ (h := by exact Kd.ae (bU E1.out D2.out) (fun _ _ => trivial))), fun _ h1_ => absurd ((kY b 17).symm.trans h1_) (by decide), fun _ => G5.out, fun _ => GE570.out, fun _ => D3.out, fun _ => D5.out, fun _ => D4.out, fun _ => D6.out, fun _ => (gB (h := by exact gK D2.out)), Q_X15_, Q_X16_, C2, C3, B7⟩
    exact mO
   rintro b a L2 hall ⟨D7, D8, D9, gb570, m15_, m16_, ha, C0, C1, Q_HB, C4, C6, C9, Q_BK570, C7, C8, A4, A6, B0, B3, C5, Q_X15_, Q_X16_, C2, C3, B7⟩
   clear A1 B4 HB
   have hb1_ := hall 1 (by kernel_rfl)
   have hb3_ := hall 3 (by kernel_rfl)
   have hb5_ := hall 5 (by kernel_rfl)
   have hb7_ := hall 7 (by kernel_rfl)
   have hb9_ := hall 9 (by kernel_rfl)
   have hb11_ := hall 11 (by kernel_rfl)
   have hb13_ := hall 13 (by kernel_rfl)
   have hb14_ := hall 14 (by kernel_rfl)
   have hb15_ := hall 15 (by kernel_rfl)
   have hb16_ := hall 16 (by kernel_rfl)
   have hb17_ := hall 17 (by kernel_rfl)
   subst ha
   obtain rfl := Q_X15_ hb15_
   obtain rfl := Q_X16_ hb16_
   simp only [gI, hb1_, hb3_, hb5_, hb7_, hb9_, hb11_, hb13_, hb14_, hb15_, hb16_, hb17_, if_true, Act.put, List.setIfInBounds_toArray, List.set_cons_zero, List.set_cons_succ]
   have A1 := a_ C0
   clear C0
   have B4 := a_ C1
   clear C1
   have HB := a_ Q_HB
   clear Q_HB
   have D1 := a_ (show Kd.R (Kd.int .i64) 2 L2 w.heap.size (fun k_ => some k_ ≠ (D8 : Value).ownBlock ∧ some k_ ≠ (D9 : Value).ownBlock) D7 E2 from Kd.iJ (Kd.fF (C4 hb7_)) (fun k_ hk_ => ⟨fun e_ => C2 hb7_ hb11_ k_ hk_ e_.symm, fun e_ => C3 hb7_ hb14_ k_ hk_ e_.symm⟩))
   have E0 := a_ (show Kd.R (Kd.int .i64) 2 L2 w.heap.size (fun k_ => some k_ ≠ (D7 : Value).ownBlock ∧ some k_ ≠ (D9 : Value).ownBlock) D8 E3 from Kd.iJ (Kd.fF (C6 hb11_)) (fun k_ hk_ => ⟨fun e_ => C2 hb7_ hb11_ k_ e_.symm hk_, fun e_ => B7 hb11_ hb14_ k_ hk_ e_.symm⟩))
   have E1 := a_ (show Kd.R (Kd.int .i64) 2 L2 w.heap.size (fun k_ => some k_ ≠ (D7 : Value).ownBlock ∧ some k_ ≠ (D8 : Value).ownBlock) D9 E4 from Kd.iJ (Kd.fF (C9 hb14_)) (fun k_ hk_ => ⟨fun e_ => C3 hb7_ hb14_ k_ e_.symm hk_, fun e_ => B7 hb11_ hb14_ k_ e_.symm hk_⟩))
   clear Q_BK570
   have G5 := a_ (C7 hb16_)
   clear C7
   have GE570 := a_ (C8 hb16_)
   clear C8
   have D3 := a_ (A4 hb16_)
   clear A4
   have D5 := a_ (A6 hb16_)
   clear A6
   have D4 := a_ (B0 hb16_)
   clear B0
   have D6 := a_ (B3 hb16_)
   clear B3
   have D2 := a_ (C5 hb17_)
   clear C5
   clear C2 C3 B7 C4 C6 C9
   clear hall hb1_ hb3_ hb5_ hb7_ hb9_ hb11_ hb13_ hb14_ hb15_ hb16_ hb17_
   obtain ⟨I5, I6, I7⟩ := Kd.bg E1.out
   (first | subst I7 | (injection I7.symm with f1_ f2_ f3_; clear f2_ I7; subst f1_ f3_))
   obtain ⟨G7, G8, I8⟩ := Kd.bg E0.out
   (first | subst I8 | (injection I8.symm with f1_ f2_ f3_; clear f2_ I8; subst f1_ f3_))
   obtain ⟨G9, H0, I9⟩ := Kd.bg D1.out
   (first | subst I9 | (injection I9.symm with f1_ f2_ f3_; clear f2_ I9; subst f1_ f3_))
   have hnb34 := D5.out
   have hnc34 := D3.out
   have hnb35 := D6.out
   have hnc35 := D4.out
   obtain ⟨L3, L4, L5, L6, L7, L8, L9, M0, M1, M2⟩ := eU (w := L2) D2.out
   by_cases c11 : F3 = true
   ·have H := HHm_.out
    clear HHm_
    subst c11
    have H1 : (some (a0_0, a0_1, E2, E3, E4, 0)) = some (r1, r2, r3, r4, r5, r6) := by rw [if_pos rfl] at H; exact H
    clear H
    have H := H1
    clear H1
    simp only [Option.some.injEq, Prod.mk.injEq] at H
    obtain ⟨rfl, rfl, rfl, rfl, rfl, rfl⟩ := H
    try go_wp2_with (first | ((with_reducible refine av (f := 20) rfl ?_); refine bJ (some 34) rfl rfl Tryz.func20 (by kernel_rfl) rfl #[.agg #[.int .i64 a0_0, .int .i64 a0_1, .slice G9 E2.length H0, .slice G7 E3.length G8, .slice I5 E4.length I6]] rfl dN ?_; (with_reducible refine (aW.calls k a0_0 a0_1 (fun k_ => some k_ = (.slice G9 E2.length H0 : Value).ownBlock) _ _ E2 (fun k_ => some k_ = (.slice G7 E3.length G8 : Value).ownBlock) _ _ E3 _ _ E4 true _ ?side1 ?side2 ?side3 ?side4 V1.out).mono ?_); (case side1 => exact Kd.R_V (Kd.iX rfl (Kd.dR (Kd.dR (Kd.dR (D1.out) A1.out (by decide)) B4.out (by decide)) D2.out (by decide)))); (case side2 => exact Kd.R_V (Kd.iX rfl (Kd.dR (Kd.dR (Kd.dR (E0.out) A1.out (by decide)) B4.out (by decide)) D2.out (by decide)))); (case side3 => exact (by (repeat (first | exact (Kd.aI E1.out).2.2 | (with_reducible refine Kd.dD ?_ _) | (with_reducible refine Kd.dH ?_ _) | (with_reducible refine Kd.dZ ?_))); first | done | fail)); (case side4 => exact (Kd.aI E1.out).2.1); rintro e V7 ⟨rfl, hb⟩; refine ⟨_, rfl, ?_⟩; replace D1 := rl_ D1 hb; replace E0 := rl_ E0 hb; replace E1 := rl_ E1 hb; replace A1 := bb_ A2 A1 hb; replace B4 := bb_ D0 B4 hb; replace D2 := bb_ gb570 D2 hb; replace HB := cK xF hb; (try clear hb); obtain ⟨M3, M4, M5, M6, M7, M8, M9, N0, N1, N2⟩ := eU (w := V7) D2.out; obtain ⟨N3, N4, N5, N6, N7, N8, N9, O0, O1, O2⟩ := eU (w := V7) B4.out))
    refine bodyPost_ret (gD rfl _ _ D0 28 #[.int .i64 a0_0, .int .i64 a0_1, .slice G9 E2.length H0, .slice G7 E3.length G8, .slice I5 E4.length I6] (0, 0) _ rfl (gB (h := by exact gK B4.out)) Tryz.underlying28 rfl (by kernel_rfl)) rfl ?_
    exact ⟨_, _, _, gy, by (with_reducible repeat (first | apply Kd.aC | apply Kd.aA | apply Kd.ay)); exact Kd.ae (bU D1.out B4.out) (fun _ hk => ⟨hk.1.1, hk.1.2⟩), by (with_reducible repeat (first | apply Kd.aC | apply Kd.aA | apply Kd.ay)); exact Kd.ae (bU E0.out B4.out) (fun _ hk => ⟨hk.1.1, hk.1.2⟩), by (with_reducible repeat (first | apply Kd.aC | apply Kd.aA | apply Kd.ay)); exact Kd.ae (bU E1.out B4.out) (fun _ hk => ⟨hk.1.1, hk.1.2⟩), xF⟩
   ·have H := HHm_.out
    clear HHm_
    replace c11 := Bool.eq_false_iff.mpr c11
    subst c11
    have H1 : (some (0, 0, ([] : List Int), ([] : List Int), ([] : List Int), 3)) = some (r1, r2, r3, r4, r5, r6) := by rw [if_neg (show ¬ (false = true) by decide)] at H; exact H
    clear H
    have H := H1
    clear H1
    simp only [Option.some.injEq, Prod.mk.injEq] at H
    obtain ⟨rfl, rfl, rfl, rfl, rfl, rfl⟩ := H
    try go_wp2_with (first | ((with_reducible refine av (f := 20) rfl ?_); refine bJ (some 34) rfl rfl Tryz.func20 (by kernel_rfl) rfl #[.agg #[.int .i64 a0_0, .int .i64 a0_1, .slice G9 E2.length H0, .slice G7 E3.length G8, .slice I5 E4.length I6]] rfl dN ?_; (with_reducible refine (aW.calls k a0_0 a0_1 (fun k_ => some k_ = (.slice G9 E2.length H0 : Value).ownBlock) _ _ E2 (fun k_ => some k_ = (.slice G7 E3.length G8 : Value).ownBlock) _ _ E3 _ _ E4 false _ ?side1 ?side2 ?side3 ?side4 V1.out).mono ?_); (case side1 => exact Kd.R_V (Kd.iX rfl (Kd.dR (Kd.dR (Kd.dR (D1.out) A1.out (by decide)) B4.out (by decide)) D2.out (by decide)))); (case side2 => exact Kd.R_V (Kd.iX rfl (Kd.dR (Kd.dR (Kd.dR (E0.out) A1.out (by decide)) B4.out (by decide)) D2.out (by decide)))); (case side3 => exact (by (repeat (first | exact (Kd.aI E1.out).2.2 | (with_reducible refine Kd.dD ?_ _) | (with_reducible refine Kd.dH ?_ _) | (with_reducible refine Kd.dZ ?_))); first | done | fail)); (case side4 => exact (Kd.aI E1.out).2.1); rintro e W8 ⟨rfl, hb⟩; refine ⟨_, rfl, ?_⟩; replace D1 := rl_ D1 hb; replace E0 := rl_ E0 hb; replace E1 := rl_ E1 hb; replace A1 := bb_ A2 A1 hb; replace B4 := bb_ D0 B4 hb; replace D2 := bb_ gb570 D2 hb; replace HB := cK xF hb; (try clear hb); obtain ⟨O3, O4, O5, O6, O7, O8, O9, P0, P1, P2⟩ := eU (w := W8) B4.out))
    refine bodyPost_ret (gD rfl _ _ D0 28 #[.int .i64 0, .int .i64 0, .slice none 0 0, .slice none 0 0, .slice none 0 0] (0, 0) _ rfl (gB (h := by exact gK B4.out)) Tryz.underlying28 rfl (by kernel_rfl)) rfl ?_
    exact ⟨_, _, _, gy, jX, jX, jX, xF⟩
  ·replace c6 := Bool.eq_false_iff.mpr c6
   subst c6
   have H1 : (some (0, 0, ([] : List Int), ([] : List Int), ([] : List Int), 2)) = some (r1, r2, r3, r4, r5, r6) := by rw [if_neg (show ¬ (false = true) by decide)] at H; exact H
   clear H
   have H := H1
   clear H1
   simp only [Option.some.injEq, Prod.mk.injEq] at H
   obtain ⟨rfl, rfl, rfl, rfl, rfl, rfl⟩ := H
   go_enter Tryz.func17, Tryz.ntmps17
   go_wp2_with (first | ((with_reducible refine bn (N := 2) rfl ?_); refine bG ?hg (N := 2) ?hd (cs := #[.int .i64 a0_0, .int .i64 a0_1, .slice E5 l0_2.length E6, .slice E7 l0_3.length E8, .slice E9 l0_4.length F0]) (t := 28) ?hr ?_; (case hd => rfl); (case hg => rfl); (case hr => first | (go_simp; done) | (go_simp; rfl)); intro A2 hg Y4 hbox hb; have A1 := a_ (hbox); have H5 := a_ ((fO : w.heap.size ≤ A2)); have GE557 := a_ ((fO : w.heap.size ≤ A2)); replace HB := cK bX hb; clear hb hbox hg) | ((with_reducible refine bn (N := 4) rfl ?_); refine bG ?hg (N := 4) ?hd (cs := #[.int .i64 0, .int .i64 0, .slice none 0 0, .slice none 0 0, .slice none 0 0]) (t := 28) ?hr ?_; (case hd => rfl); (case hg => rfl); (case hr => first | (go_simp; done) | (go_simp; rfl)); intro D0 hg W9 hbox hb; have B4 := a_ (hbox); have H6 := a_ ((xC : w.heap.size ≤ D0)); have GE558 := a_ ((xC : w.heap.size ≤ D0)); replace HB := cK Aq hb; have F1 := a_ ((by rw [hg]; exact Nat.ne_of_lt (dI (g := A2) (rb_ A1.out)) : A2 ≠ D0)); have F2 := a_ ((by rw [hg]; exact Nat.ne_of_gt (dI (g := A2) (rb_ A1.out)) : D0 ≠ A2)); replace A1 := bb_ A2 A1 hb; clear hb hbox hg; have hnb69 := F1.out; have hnc69 := F2.out; obtain ⟨P3, P4, P5, P6, P7, P8, P9, Q0, Q1, Q2⟩ := eU (w := W9) A1.out) | ((with_reducible refine av (f := 20) rfl ?_); refine bJ (some 9) rfl rfl Tryz.func20 (by kernel_rfl) rfl #[.agg #[.int .i64 a0_0, .int .i64 a0_1, .slice E5 l0_2.length E6, .slice E7 l0_3.length E8, .slice E9 l0_4.length F0]] rfl dN ?_; (with_reducible refine (aW.calls k a0_0 a0_1 (fun k_ => k_ < w.heap.size) _ _ l0_2 (fun k_ => k_ < w.heap.size) _ _ l0_3 _ _ l0_4 true _ ?side1 ?side2 ?side3 ?side4 A3.out).mono ?_); (case side1 => exact Kd.pY G1.out (Kd.iY (Kd.C_F (Kd.iR .i64) G0.out) kg)); (case side2 => exact Kd.pY G3.out (Kd.iY (Kd.C_F (Kd.iR .i64) G2.out) kg)); (case side3 => exact kc_ (Kd.bT HR0_4.out HB.out)); (case side4 => exact G4.out); rintro e J0 ⟨rfl, hb⟩; refine ⟨_, rfl, ?_⟩; replace A1 := bb_ A2 A1 hb; replace B4 := bb_ D0 B4 hb; replace HB := cK kg hb; (try clear hb)) | ((with_reducible refine av (f := 54) rfl ?_); refine bJ (some 14) rfl rfl Tryz.func54 (by kernel_rfl) rfl #[.int .i64 a1, .int .i64 (-1000000000), .int .i64 1000000000] rfl dN ?_; (with_reducible refine (fE.calls a1 (-1000000000) 1000000000 false _ A5.out).mono ?_); rintro e w' ⟨rfl, ⟨nd, rfl⟩⟩; refine ⟨_, rfl, ?_⟩; (try (rw [jq J0]; generalize hq_ : World.drewN J0 _ = J0; have n0_ : af (J0.heap[A2]? = some (.cells #[.int .i64 a0_0, .int .i64 a0_1, .slice E5 l0_2.length E6, .slice E7 l0_3.length E8, .slice E9 l0_4.length F0] 28 (0, 0))) := ⟨by rw [← hq_]; exact (rb_ A1.out)⟩; have n1_ : af (J0.heap[D0]? = some (.cells #[.int .i64 0, .int .i64 0, .slice none 0 0, .slice none 0 0, .slice none 0 0] 28 (0, 0))) := ⟨by rw [← hq_]; exact (rb_ B4.out)⟩; have n2_ : af (Below w.heap.size w J0) := ⟨by rw [← hq_]; exact kg⟩; clear A1 B4 HB hq_; have A1 := n0_; have B4 := n1_; have HB := n2_; clear n0_ n1_ n2_)); obtain ⟨Q3, Q4, Q5, Q6, Q7, Q8, Q9, R0, R1, R2⟩ := eU (w := J0) B4.out))
   refine bodyPost_ret (gD rfl _ _ D0 28 #[.int .i64 0, .int .i64 0, .slice none 0 0, .slice none 0 0, .slice none 0 0] (0, 0) _ rfl (gB (h := by exact gK B4.out)) Tryz.underlying28 rfl (by kernel_rfl)) rfl ?_
   exact ⟨_, _, _, gy, jX, jX, jX, kg⟩
 ·replace c4 := Bool.eq_false_iff.mpr c4
  subst c4
  have H1 : (some (0, 0, ([] : List Int), ([] : List Int), ([] : List Int), 1)) = some (r1, r2, r3, r4, r5, r6) := by rw [if_neg (show ¬ (false = true) by decide)] at H; exact H
  clear H
  have H := H1
  clear H1
  simp only [Option.some.injEq, Prod.mk.injEq] at H
  obtain ⟨rfl, rfl, rfl, rfl, rfl, rfl⟩ := H
  go_enter Tryz.func17, Tryz.ntmps17
  go_wp2_with (first | ((with_reducible refine bn (N := 2) rfl ?_); refine bG ?hg (N := 2) ?hd (cs := #[.int .i64 a0_0, .int .i64 a0_1, .slice E5 l0_2.length E6, .slice E7 l0_3.length E8, .slice E9 l0_4.length F0]) (t := 28) ?hr ?_; (case hd => rfl); (case hg => rfl); (case hr => first | (go_simp; done) | (go_simp; rfl)); intro A2 hg Y5 hbox hb; have A1 := a_ (hbox); have H5 := a_ ((fO : w.heap.size ≤ A2)); have GE557 := a_ ((fO : w.heap.size ≤ A2)); replace HB := cK bX hb; clear hb hbox hg) | ((with_reducible refine bn (N := 4) rfl ?_); refine bG ?hg (N := 4) ?hd (cs := #[.int .i64 0, .int .i64 0, .slice none 0 0, .slice none 0 0, .slice none 0 0]) (t := 28) ?hr ?_; (case hd => rfl); (case hg => rfl); (case hr => first | (go_simp; done) | (go_simp; rfl)); intro D0 hg X0 hbox hb; have B4 := a_ (hbox); have H6 := a_ ((xC : w.heap.size ≤ D0)); have GE558 := a_ ((xC : w.heap.size ≤ D0)); replace HB := cK Aq hb; have F1 := a_ ((by rw [hg]; exact Nat.ne_of_lt (dI (g := A2) (rb_ A1.out)) : A2 ≠ D0)); have F2 := a_ ((by rw [hg]; exact Nat.ne_of_gt (dI (g := A2) (rb_ A1.out)) : D0 ≠ A2)); replace A1 := bb_ A2 A1 hb; clear hb hbox hg; have hnb75 := F1.out; have hnc75 := F2.out; obtain ⟨R3, R4, R5, R6, R7, R8, R9, S0, S1, S2⟩ := eU (w := X0) A1.out) | ((with_reducible refine av (f := 20) rfl ?_); refine bJ (some 9) rfl rfl Tryz.func20 (by kernel_rfl) rfl #[.agg #[.int .i64 a0_0, .int .i64 a0_1, .slice E5 l0_2.length E6, .slice E7 l0_3.length E8, .slice E9 l0_4.length F0]] rfl dN ?_; (with_reducible refine (aW.calls k a0_0 a0_1 (fun k_ => k_ < w.heap.size) _ _ l0_2 (fun k_ => k_ < w.heap.size) _ _ l0_3 _ _ l0_4 false _ ?side1 ?side2 ?side3 ?side4 A3.out).mono ?_); (case side1 => exact Kd.pY G1.out (Kd.iY (Kd.C_F (Kd.iR .i64) G0.out) kg)); (case side2 => exact Kd.pY G3.out (Kd.iY (Kd.C_F (Kd.iR .i64) G2.out) kg)); (case side3 => exact kc_ (Kd.bT HR0_4.out HB.out)); (case side4 => exact G4.out); rintro e X1 ⟨rfl, hb⟩; refine ⟨_, rfl, ?_⟩; replace A1 := bb_ A2 A1 hb; replace B4 := bb_ D0 B4 hb; replace HB := cK kg hb; (try clear hb); obtain ⟨S3, S4, S5, S6, S7, S8, S9, T0, T3, T4⟩ := eU (w := X1) B4.out))
  refine bodyPost_ret (gD rfl _ _ D0 28 #[.int .i64 0, .int .i64 0, .slice none 0 0, .slice none 0 0, .slice none 0 0] (0, 0) _ rfl (gB (h := by exact gK B4.out)) Tryz.underlying28 rfl (by kernel_rfl)) rfl ?_
  exact ⟨_, _, _, gy, jX, jX, jX, kg⟩
end Go.Proofs.YtkpidjmhdagkfaaGreatDoor.QFnImposed
