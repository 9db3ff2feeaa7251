-- Written by own_print.py of this session's repo over the kit's print (its output, turned at some places).
import Derived.Test.YtkpidjmhdagkfaaGreatDoorQFnImposedx0
import Derived.Test.YtkpidjmhdagkfaaGreatDoorQFnImposedx2
namespace Go.Proofs.YtkpidjmhdagkfaaGreatDoor.QFnImposed
open Go.RowKit Go.Proofs.YtkpidjmhdagkfaaGreatDoorW.PrintWords Go.Proofs.YtkpidjmhdagkfaaGreatDoorW.PrintLast Go.Proofs.YtkpidjmhdagkfaaGreatDoorW.PrintMore
attribute [local go_sem] fU fT gP gQ fw fA fQ fV
set_option maxHeartbeats 8000000
set_option maxRecDepth 100000
set_option linter.unusedVariables false
set_option linter.unusedSimpArgs false
mutual
def aV.l0 : Nat → List Int → List (S64) → Int → Int → Int → Int → List Int → List Int → List Int → Option (List Int)
 | 0, _, _, _, _, _, _, _, _, _ => none
 | k + 1, x5, x17, x18, x19, x172000, x172001, x172002, x172003, x172004 => if x19 < x18 then (if 0 ≤ x19 then (if x19 < (x17.length : Int) then ((eT.f x172000 ((ag x17 x19).f0) ((ag x17 x19).f1)).bind fun t180 => (if 0 ≤ t180 then (if t180 < (x172002.length : Int) then ((fM.f x172000 ((ag x17 x19).f0) ((ag x17 x19).f1)).bind fun t182 => (if 0 ≤ t182 then (if t182 < (x172003.length : Int) then ((gu.f ((ag x17 x19).f0) ((ag x17 x19).f1) ((ag x17 x19).f2) ((ag x17 x19).f3)).bind fun t184 => (if t184 = true then (aV.j1 k x5 t180 (rd x172003 t182) (rd x172002 t180) x17 x18 x19 x172000 x172001 x172002 x172003 x172004 ((ag x17 x19).f0) ((ag x17 x19).f1) ((ag x17 x19).f2) ((ag x17 x19).f3)) else (aV.j1 k x5 t180 (rd x172002 t180) (rd x172003 t182) x17 x18 x19 x172000 x172001 x172002 x172003 x172004 ((ag x17 x19).f0) ((ag x17 x19).f1) ((ag x17 x19).f2) ((ag x17 x19).f3)))) else (none)) else (none))) else (none)) else (none))) else (none)) else (none)) else (some x5)
def aV.j1 : Nat → List Int → Int → Int → Int → List (S64) → Int → Int → Int → Int → List Int → List Int → List Int → Int → Int → Bool → Bool → Option (List Int)
 | 0, _, _, _, _, _, _, _, _, _, _, _, _, _, _, _, _ => none
 | k + 1, x5, x8, x9, x10, x17, x18, x19, x172000, x172001, x172002, x172003, x172004, x180000, x180001, x180002, x180003 => if 0 ≤ x8 then (if x8 < (x172004.length : Int) then ((iL.f x180003).bind fun t186 => (if (rd x172004 x8) = t186 then (aV.j2 k x5 x9 x10 x17 x18 x19 x172000 x172001 x172002 x172003 x172004) else (aV.j2 k x5 (wrap64 (-x9)) (wrap64 (-x10)) x17 x18 x19 x172000 x172001 x172002 x172003 x172004))) else (none)) else (none)
def aV.j2 : Nat → List Int → Int → Int → List (S64) → Int → Int → Int → Int → List Int → List Int → List Int → Option (List Int)
 | 0, _, _, _, _, _, _, _, _, _, _, _ => none
 | k + 1, x5, x9, x10, x17, x18, x19, x172000, x172001, x172002, x172003, x172004 => (some (([x9, x10] : List Int) : List Int)).bind fun y187 => (if x5.length + y187.length < 17592186044416 then (aV.l0 k (x5 ++ y187) x17 x18 (wrap64 (x19 + 1)) x172000 x172001 x172002 x172003 x172004) else (none))
end
def aV.f (k : Nat) (a0_0 : Int) (a0_1 : Int) (l0_2 : List Int) (l0_3 : List Int) (l0_4 : List Int) (a1 : ByteArray) : Option (List Int) := (ax.f k a0_0 a0_1 a1).bind fun t175 => (aV.l0 k (([] : List Int)) t175 (t175.length : Int) 0 a0_0 a0_1 l0_2 l0_3 l0_4)
theorem aV.dC : ∀ k, (∀ y0 y1 y2 y3 y4 y5 y6 y7 y8, LeO (aV.l0 k y0 y1 y2 y3 y4 y5 y6 y7 y8) (aV.l0 (k + 1) y0 y1 y2 y3 y4 y5 y6 y7 y8)) ∧ (∀ y0 y1 y2 y3 y4 y5 y6 y7 y8 y9 y10 y11 y12 y13 y14 y15, LeO (aV.j1 k y0 y1 y2 y3 y4 y5 y6 y7 y8 y9 y10 y11 y12 y13 y14 y15) (aV.j1 (k + 1) y0 y1 y2 y3 y4 y5 y6 y7 y8 y9 y10 y11 y12 y13 y14 y15)) ∧ (∀ y0 y1 y2 y3 y4 y5 y6 y7 y8 y9 y10, LeO (aV.j2 k y0 y1 y2 y3 y4 y5 y6 y7 y8 y9 y10) (aV.j2 (k + 1) y0 y1 y2 y3 y4 y5 y6 y7 y8 y9 y10))
 | 0 => ⟨fun _ _ _ _ _ _ _ _ _ r h => by simp [aV.l0] at h, fun _ _ _ _ _ _ _ _ _ _ _ _ _ _ _ _ r h => by simp [aV.j1] at h, fun _ _ _ _ _ _ _ _ _ _ _ r h => by simp [aV.j2] at h⟩
 | k + 1 => by
  obtain ⟨ih0, ih1, ih2⟩ := aV.dC k
  refine ⟨?_, ?_, ?_⟩ <;> intros <;> (first | unfold aV.l0 | unfold aV.j1 | unfold aV.j2) <;> (repeat' first | (with_reducible first | exact ih0 .. | exact ih1 .. | exact ih2 .. | exact ax.mono .. | exact LeO.refl .. | exact LeO.none .. | refine LeO.ite ?_ ?_ | refine LeO.bind ?_ (fun _ => ?_)))
theorem aV.mono : ∀ a0 a1 a2 a3 a4 a5 k, LeO (aV.f k a0 a1 a2 a3 a4 a5) (aV.f (k + 1) a0 a1 a2 a3 a4 a5) := by
 intro a0 a1 a2 a3 a4 a5 k
 obtain ⟨ih0, ih1, ih2⟩ := aV.dC k
 unfold aV.f
 repeat' first | (with_reducible first | exact ih0 .. | exact ih1 .. | exact ih2 .. | exact ax.mono .. | exact LeO.refl .. | exact LeO.none .. | refine LeO.ite ?_ ?_ | refine LeO.bind ?_ (fun _ => ?_))
theorem aV.calls (k : Nat) (a0_0 : Int) (a0_1 : Int) (H4 : Option Addr) (D0 : Nat) (l0_2 : List Int) (H5 : Option Addr) (D1 : Nat) (l0_3 : List Int) (D4 : Option Addr) (D2 : Nat) (l0_4 : List Int) (a1 : ByteArray) (r : List Int) (w : World) (hr0_2 : Kd.C (Kd.int .i64) w H4 l0_2.length l0_2) (hc0_2 : l0_2.length ≤ D0) (hr0_3 : Kd.C (Kd.int .i64) w H5 l0_3.length l0_3) (hc0_3 : l0_3.length ≤ D1) (hr0_4 : Kd.C (Kd.int .i64) w D4 l0_4.length l0_4) (hc0_4 : l0_4.length ≤ D2) (h : aV.f k a0_0 a0_1 l0_2 l0_3 l0_4 a1 = some r) :
  Calls Tryz.prog 70 #[.agg #[.int .i64 a0_0, .int .i64 a0_1, .slice H4 l0_2.length D0, .slice H5 l0_3.length D1, .slice D4 l0_4.length D2], .string a1] w fun e w' => ∃ v0_ : Value, e = .returned (v0_) ∧ Kd.R (Kd.int .i64) 2 w' w.heap.size (fun _ => True) v0_ r ∧ Below w.heap.size w w' := by
 have hu28 := Tryz.underlying28
 have hu64 := Tryz.underlying64
 have H6 := a_ hr0_2
 have O9 := a_ hc0_2
 clear hr0_2 hc0_2
 have H7 := a_ hr0_3
 have P0 := a_ hc0_3
 clear hr0_3 hc0_3
 have HR0_4 := a_ hr0_4
 have P1 := a_ hc0_4
 clear hr0_4 hc0_4
 have HB := a_ (Below.refl w.heap.size w)
 have H : ((ax.f k a0_0 a0_1 a1).bind fun A4 => (aV.l0 k (([] : List Int)) A4 (A4.length : Int) 0 a0_0 a0_1 l0_2 l0_3 l0_4)) = some r := h
 clear h
 obtain ⟨M2, H8⟩ : ∃ y_ : List Int, y_ = (([] : List Int)) := ⟨_, rfl⟩
 replace H : ((ax.f k a0_0 a0_1 a1).bind fun A4 => (aV.l0 k M2 A4 (A4.length : Int) 0 a0_0 a0_1 l0_2 l0_3 l0_4)) = some r := rh_ H8 H
 have D5 := a_ H8
 clear H8
 replace H := bo_ H; obtain ⟨A4, A3, H⟩ := H; (try dsimp only at H)
 have H' := a_ H
 clear H
 go_enter Tryz.func70, Tryz.ntmps70
 go_wp2_with (first | ((with_reducible refine bn (N := 2) rfl ?_); refine bG ?hg (N := 2) ?hd (cs := #[.int .i64 a0_0, .int .i64 a0_1, .slice H4 l0_2.length D0, .slice H5 l0_3.length D1, .slice D4 l0_4.length D2]) (t := 28) ?hr ?_; (case hd => rfl); (case hg => rfl); (case hr => first | (go_simp; done) | (go_simp; rfl)); intro A5 hg w4 hbox hb; have BK171 := a_ (hbox); have L6 := a_ ((fO : w.heap.size ≤ A5)); have GE171 := a_ ((fO : w.heap.size ≤ A5)); replace HB := cK bX hb; clear hb hbox hg) | ((with_reducible refine bn (N := 11) rfl ?_); refine Kd.iM (Kd.int .i64) _ 2 ?hg (N := 11) ?hd (xs := ([] : List Int)) (inner := []) (ok := fun _ => True) (okp := fun _ => True) ?hr ?hp (fun _ hk => hk) trivial (Below.refl _ _) (Nat.le_refl _) (by simp) ?_; (case hd => rfl); (case hg => rfl); (case hr => first | (go_simp; done) | (go_simp; rfl)); (case hp => exact (dG.none _ _)); intro M3 w5 ho6 hb hg_ hnew_; clear hg_ hnew_; (first | rw [← D5.out] at ho6 | (simp only [Int.reduceToNat] at ho6; rw [← D5.out] at ho6)); have C4 := a_ (Kd.bE ho6 (ai mH)); replace BK171 := bb_ A5 BK171 hb; replace HB := cK mH hb; clear hb ho6; obtain ⟨G0, G1, G2, G3, G4, G5, G6, G7, G8, G9⟩ := eU (w := w5) BK171.out) | (go_at_call 44; (with_reducible refine (ax.calls k a0_0 a0_1 a1 A4 _ A3.out).mono ?_); rintro e w8 ⟨M4, rfl, ho0, hb⟩; replace C4 := rl_ C4 hb; have D6 := a_ (Kd.bE ho0 (ai mH)); replace BK171 := bb_ A5 BK171 hb; replace HB := cK mH hb; (try clear hb); (try clear ho0); obtain ⟨O1, M5, M6⟩ := Kd.bg D6.out; subst M6))
 repeat (go_quiet (first | ((with_reducible refine bn (N := 2) rfl ?_); refine bG ?hg (N := 2) ?hd (cs := #[.int .i64 a0_0, .int .i64 a0_1, .slice H4 l0_2.length D0, .slice H5 l0_3.length D1, .slice D4 l0_4.length D2]) (t := 28) ?hr ?_; (case hd => rfl); (case hg => rfl); (case hr => first | (go_simp; done) | (go_simp; rfl)); intro A5 hg w4 hbox hb; have BK171 := a_ (hbox); have L6 := a_ ((fO : w.heap.size ≤ A5)); have GE171 := a_ ((fO : w.heap.size ≤ A5)); replace HB := cK bX hb; clear hb hbox hg) | ((with_reducible refine bn (N := 11) rfl ?_); refine Kd.iM (Kd.int .i64) _ 2 ?hg (N := 11) ?hd (xs := ([] : List Int)) (inner := []) (ok := fun _ => True) (okp := fun _ => True) ?hr ?hp (fun _ hk => hk) trivial (Below.refl _ _) (Nat.le_refl _) (by simp) ?_; (case hd => rfl); (case hg => rfl); (case hr => first | (go_simp; done) | (go_simp; rfl)); (case hp => exact (dG.none _ _)); intro M3 w5 ho6 hb hg_ hnew_; clear hg_ hnew_; (first | rw [← D5.out] at ho6 | (simp only [Int.reduceToNat] at ho6; rw [← D5.out] at ho6)); have C4 := a_ (Kd.bE ho6 (ai mH)); replace BK171 := bb_ A5 BK171 hb; replace HB := cK mH hb; clear hb ho6; obtain ⟨G0, G1, G2, G3, G4, G5, G6, G7, G8, G9⟩ := eU (w := w5) BK171.out) | (go_at_call 44; (with_reducible refine (ax.calls k a0_0 a0_1 a1 A4 _ A3.out).mono ?_); rintro e w8 ⟨M4, rfl, ho0, hb⟩; replace C4 := rl_ C4 hb; have D6 := a_ (Kd.bE ho0 (ai mH)); replace BK171 := bb_ A5 BK171 hb; replace HB := cK mH hb; (try clear hb); (try clear ho0); obtain ⟨O1, M5, M6⟩ := Kd.bg D6.out; subst M6)); try go_wp2_with (first | ((with_reducible refine bn (N := 2) rfl ?_); refine bG ?hg (N := 2) ?hd (cs := #[.int .i64 a0_0, .int .i64 a0_1, .slice H4 l0_2.length D0, .slice H5 l0_3.length D1, .slice D4 l0_4.length D2]) (t := 28) ?hr ?_; (case hd => rfl); (case hg => rfl); (case hr => first | (go_simp; done) | (go_simp; rfl)); intro A5 hg w4 hbox hb; have BK171 := a_ (hbox); have L6 := a_ ((fO : w.heap.size ≤ A5)); have GE171 := a_ ((fO : w.heap.size ≤ A5)); replace HB := cK bX hb; clear hb hbox hg) | ((with_reducible refine bn (N := 11) rfl ?_); refine Kd.iM (Kd.int .i64) _ 2 ?hg (N := 11) ?hd (xs := ([] : List Int)) (inner := []) (ok := fun _ => True) (okp := fun _ => True) ?hr ?hp (fun _ hk => hk) trivial (Below.refl _ _) (Nat.le_refl _) (by simp) ?_; (case hd => rfl); (case hg => rfl); (case hr => first | (go_simp; done) | (go_simp; rfl)); (case hp => exact (dG.none _ _)); intro M3 w5 ho6 hb hg_ hnew_; clear hg_ hnew_; (first | rw [← D5.out] at ho6 | (simp only [Int.reduceToNat] at ho6; rw [← D5.out] at ho6)); have C4 := a_ (Kd.bE ho6 (ai mH)); replace BK171 := bb_ A5 BK171 hb; replace HB := cK mH hb; clear hb ho6; obtain ⟨G0, G1, G2, G3, G4, G5, G6, G7, G8, G9⟩ := eU (w := w5) BK171.out) | (go_at_call 44; (with_reducible refine (ax.calls k a0_0 a0_1 a1 A4 _ A3.out).mono ?_); rintro e w8 ⟨M4, rfl, ho0, hb⟩; replace C4 := rl_ C4 hb; have D6 := a_ (Kd.bE ho0 (ai mH)); replace BK171 := bb_ A5 BK171 hb; replace HB := cK mH hb; (try clear hb); (try clear ho0); obtain ⟨O1, M5, M6⟩ := Kd.bg D6.out; subst M6)))
 go_loopg [5, 19] k (fun kq v5 v19 w' => ∃ (C3 : List Int) (A1 : Int), v19 = .int .i64 A1 ∧ af (aV.l0 kq C3 A4 (A4.length : Int) A1 a0_0 a0_1 l0_2 l0_3 l0_4 = some r) ∧ af (kq ≤ k) ∧ af (Kd.R (Kd.int .i64) 2 w' w.heap.size (fun _ => True) v5 C3) ∧ af (Kd.R k64 64 w' w.heap.size (fun _ => True) (.slice O1 A4.length M5) A4) ∧ af (w'.heap[A5]? = some (.cells #[.int .i64 a0_0, .int .i64 a0_1, (.slice H4 l0_2.length D0), (.slice H5 l0_3.length D1), (.slice D4 l0_4.length D2)] 28 (0, 0))) ∧ af (Below w.heap.size w w'))
 case atStart => exact ⟨(M2), (0), cz, H', ⟨Nat.le_refl _⟩, ⟨by (with_reducible repeat (first | apply Kd.aC | apply Kd.aA | apply Kd.ay)); exact C4.out⟩, ⟨by (with_reducible repeat (first | apply Kd.aC | apply Kd.aA | apply Kd.ay)); exact D6.out⟩, ⟨xS⟩, ⟨mH⟩⟩
 case round =>
  clear H'
  try clear G0 G1 G2 G3 G4; try clear G5 G6 G7 G8 G9
  obtain ⟨C3, A1, rfl, HA, HK1, HO_5, A6, BK171, HB⟩ := hrel
  cases gk with
  | zero => exact absurd HA.out (by simp [aV.l0])
  | succ k1 =>
   have H := HA.out
   clear HA
   simp only [aV.l0] at H
   by_cases c10 : A1 < (A4.length : Int)
   ·rw [if_pos c10] at H
    have L7 := decide_eq_true c10
    clear c10
    replace H := ig_ H; obtain ⟨c11, H⟩ := H
    have M7 := decide_eq_true c11
    clear c11
    replace H := ig_ H; obtain ⟨c12, H⟩ := H
    have M8 := decide_eq_true c12
    clear c12
    replace H := bo_ H; obtain ⟨B4, O2, H⟩ := H; (try dsimp only at H)
    replace H := ig_ H; obtain ⟨c14, H⟩ := H
    have M9 := decide_eq_true c14
    clear c14
    replace H := ig_ H; obtain ⟨c15, H⟩ := H
    have N0 := decide_eq_true c15
    clear c15
    replace H := bo_ H; obtain ⟨C2, O3, H⟩ := H; (try dsimp only at H)
    replace H := ig_ H; obtain ⟨c17, H⟩ := H
    have N1 := decide_eq_true c17
    clear c17
    replace H := ig_ H; obtain ⟨c18, H⟩ := H
    have N2 := decide_eq_true c18
    clear c18
    replace H := bo_ H; obtain ⟨I8, O4, H⟩ := H; (try dsimp only at H)
    have L9 := a_ H
    clear H
    have I9 : 0 ≤ (A1 : Int) := of_decide_eq_true aX
    have J0 : A1 < (A4.length : Int) := of_decide_eq_true aX
    obtain ⟨L8, O5, J1, J2, J3, J4⟩ := qP (Kd.aI A6.out).2.2 A1 I9 J0
    cases O5
    replace I9 := eq_true I9
    replace J0 := eq_true J0
    go_upto_if 47 with (first | ((with_reducible refine bn (N := 7) rfl ?_); refine bG ?hg (N := 7) ?hd (cs := #[.int .i64 0, .int .i64 0, .bool false, .bool false]) (t := 64) ?hr ?_; (case hd => rfl); (case hg => rfl); (case hr => first | (go_simp; done) | (go_simp; rfl)); intro A2 hg H0 hbox hb; replace HO_5 := rl_ HO_5 hb; replace A6 := a_ (Kd.dF (Kd.kC (ra_ A6.out) A2 (Nat.le_of_eq hg.symm)) hb); have BK179 := a_ (hbox); have A7 := a_ ((xN : w.heap.size ≤ A2)); have GE179 := a_ ((xN : w.heap.size ≤ A2)); replace HB := cK mH hb; have A8 := a_ ((by rw [hg]; exact Nat.ne_of_lt (dI (g := A5) (rb_ BK171.out)) : A5 ≠ A2)); have C1 := a_ ((by rw [hg]; exact Nat.ne_of_gt (dI (g := A5) (rb_ BK171.out)) : A2 ≠ A5)); replace BK171 := bb_ A5 BK171 hb; clear hb hbox hg; have hnb22 := C1.out; have hnc22 := A8.out; obtain ⟨D8, D9, E0, E1, E2, E3, E4, E5⟩ := rq (w := H0) BK179.out; obtain ⟨E6, E7, E8, E9, F0, F1, F2, F3, F4, F5⟩ := eU (w := H0) BK171.out) | (go_at_call 46; (with_reducible refine (eT.calls a0_0 ((ag A4 A1).f0) ((ag A4 A1).f1) B4 _ O2.out).mono ?_); rintro e w' ⟨rfl, ⟨nd, rfl⟩⟩; (try first | exact ⟨rfl, _, World.drewN_drewN _ _ _⟩ | exact ⟨rfl, _, Eq.trans (World.drewN_drewN _ _ _) (congrArg (World.drewN _) (Nat.add_assoc _ _ _))⟩); have C5 : 0 ≤ (B4 : Int) := of_decide_eq_true aX; have C6 : B4 < (l0_2.length : Int) := of_decide_eq_true aX; obtain ⟨B0, H9, hx181_0⟩ := Kd.eF H6.out B4 C5 C6; cases H9; have hn181_0 : B0.block ≠ A2 := Nat.ne_of_lt (Nat.lt_of_lt_of_le lW A7.out); have hn181_1 : B0.block ≠ A2 := Nat.ne_of_lt (Nat.lt_of_lt_of_le lW A7.out); have hn181_2 : B0.block ≠ A2 := Nat.ne_of_lt (Nat.lt_of_lt_of_le lW A7.out); have hn181_3 : B0.block ≠ A2 := Nat.ne_of_lt (Nat.lt_of_lt_of_le lW A7.out); replace hx181_0 := (HB.out.cell (World.block_lt_of_cell? _ _ hx181_0)).trans hx181_0; replace hx181_0 := (cell_far (p := ⟨A2, 0, none⟩) Bi (.int .i64 ((ag A4 A1).f0))).trans hx181_0; replace hx181_0 := (cell_far (p := ⟨A2, 1, none⟩) Bn (.int .i64 ((ag A4 A1).f1))).trans hx181_0; replace hx181_0 := (cell_far (p := ⟨A2, 2, none⟩) Ar (.bool ((ag A4 A1).f2))).trans hx181_0; replace hx181_0 := (cell_far (p := ⟨A2, 3, none⟩) Bj (.bool ((ag A4 A1).f3))).trans hx181_0; (try have H2 := fun (n_ : Nat) => (show ((((((H0.drewN n_).setCell ⟨A2, 0, none⟩ (.int .i64 ((ag A4 A1).f0))).setCell ⟨A2, 1, none⟩ (.int .i64 ((ag A4 A1).f1))).setCell ⟨A2, 2, none⟩ (.bool ((ag A4 A1).f2))).setCell ⟨A2, 3, none⟩ (.bool ((ag A4 A1).f3)))).cell? _ = some _ from hx181_0)); clear hn181_0; clear hn181_1; clear hn181_2; clear hn181_3; replace C5 := eq_true C5; replace C6 := eq_true C6) | (go_at_call 47; (with_reducible refine (fM.calls a0_0 ((ag A4 A1).f0) ((ag A4 A1).f1) C2 _ O3.out).mono ?_); rintro e w' ⟨rfl, ⟨nd, rfl⟩⟩; (try first | exact ⟨rfl, _, World.drewN_drewN _ _ _⟩ | exact ⟨rfl, _, Eq.trans (World.drewN_drewN _ _ _) (congrArg (World.drewN _) (Nat.add_assoc _ _ _))⟩); have C7 : 0 ≤ (C2 : Int) := of_decide_eq_true aX; have C8 : C2 < (l0_3.length : Int) := of_decide_eq_true aX; obtain ⟨B3, I0, hx183_0⟩ := Kd.eF H7.out C2 C7 C8; cases I0; have hn183_0 : B3.block ≠ A2 := Nat.ne_of_lt (Nat.lt_of_lt_of_le lY A7.out); have hn183_1 : B3.block ≠ A2 := Nat.ne_of_lt (Nat.lt_of_lt_of_le lY A7.out); have hn183_2 : B3.block ≠ A2 := Nat.ne_of_lt (Nat.lt_of_lt_of_le lY A7.out); have hn183_3 : B3.block ≠ A2 := Nat.ne_of_lt (Nat.lt_of_lt_of_le lY A7.out); replace hx183_0 := (HB.out.cell (World.block_lt_of_cell? _ _ hx183_0)).trans hx183_0; replace hx183_0 := (cell_far (p := ⟨A2, 0, none⟩) AB (.int .i64 ((ag A4 A1).f0))).trans hx183_0; replace hx183_0 := (cell_far (p := ⟨A2, 1, none⟩) AO (.int .i64 ((ag A4 A1).f1))).trans hx183_0; replace hx183_0 := (cell_far (p := ⟨A2, 2, none⟩) AJ (.bool ((ag A4 A1).f2))).trans hx183_0; replace hx183_0 := (cell_far (p := ⟨A2, 3, none⟩) Bl (.bool ((ag A4 A1).f3))).trans hx183_0; (try have H3 := fun (n_ : Nat) => (show ((((((H0.drewN n_).setCell ⟨A2, 0, none⟩ (.int .i64 ((ag A4 A1).f0))).setCell ⟨A2, 1, none⟩ (.int .i64 ((ag A4 A1).f1))).setCell ⟨A2, 2, none⟩ (.bool ((ag A4 A1).f2))).setCell ⟨A2, 3, none⟩ (.bool ((ag A4 A1).f3)))).cell? _ = some _ from hx183_0)); clear hn183_0; clear hn183_1; clear hn183_2; clear hn183_3; replace C7 := eq_true C7; replace C8 := eq_true C8) | (go_at_call 45; (with_reducible refine (gu.calls ((ag A4 A1).f0) ((ag A4 A1).f1) ((ag A4 A1).f2) ((ag A4 A1).f3) I8 _ O4.out).mono ?_); rintro e P2 ⟨rfl, hb⟩; replace HO_5 := a_ (Kd.dF (rc_ (h := by exact Kd.ae (ui HO_5.out BK179.out) (fun _ h_ => h_.1))) hb); replace A6 := a_ (Kd.dF (rc_ (h := by exact Kd.ae (Kd.dW (p := ⟨A2, 3, none⟩) (Kd.dW (p := ⟨A2, 2, none⟩) (Kd.dW (p := ⟨A2, 1, none⟩) (Kd.dW (p := ⟨A2, 0, none⟩) (Kd.ae A6.out (fun k_ hk => (⟨hk, hk.2⟩ : _ ∧ k_ ≠ A2))) (fun _ hk => hk.2) (.int .i64 ((ag A4 A1).f0))) (fun _ hk => hk.2) (.int .i64 ((ag A4 A1).f1))) (fun _ hk => hk.2) (.bool ((ag A4 A1).f2))) (fun _ hk => hk.2) (.bool ((ag A4 A1).f3))) (fun _ h_ => h_.1))) hb); replace BK171 := a_ (dL (g := A5) (o := .cells #[.int .i64 a0_0, .int .i64 a0_1, .slice (some B0) l0_2.length D0, .slice (some B3) l0_3.length D1, .slice D4 l0_4.length D2] 28 (0, 0)) (gB (h := by exact wH A8.out BK171.out)) hb); replace BK179 := a_ (dL (g := A2) (o := .cells #[.int .i64 ((ag A4 A1).f0), .int .i64 ((ag A4 A1).f1), .bool ((ag A4 A1).f2), .bool ((ag A4 A1).f3)] 64 (0, 0)) (gB (h := by exact qR BK179.out)) hb); replace HB := cK lG hb; (try clear hb); (try clear hk)))
    repeat (go_quiet (first | ((with_reducible refine bn (N := 7) rfl ?_); refine bG ?hg (N := 7) ?hd (cs := #[.int .i64 0, .int .i64 0, .bool false, .bool false]) (t := 64) ?hr ?_; (case hd => rfl); (case hg => rfl); (case hr => first | (go_simp; done) | (go_simp; rfl)); intro A2 hg H0 hbox hb; replace HO_5 := rl_ HO_5 hb; replace A6 := a_ (Kd.dF (Kd.kC (ra_ A6.out) A2 (Nat.le_of_eq hg.symm)) hb); have BK179 := a_ (hbox); have A7 := a_ ((xN : w.heap.size ≤ A2)); have GE179 := a_ ((xN : w.heap.size ≤ A2)); replace HB := cK mH hb; have A8 := a_ ((by rw [hg]; exact Nat.ne_of_lt (dI (g := A5) (rb_ BK171.out)) : A5 ≠ A2)); have C1 := a_ ((by rw [hg]; exact Nat.ne_of_gt (dI (g := A5) (rb_ BK171.out)) : A2 ≠ A5)); replace BK171 := bb_ A5 BK171 hb; clear hb hbox hg; have hnb22 := C1.out; have hnc22 := A8.out; obtain ⟨D8, D9, E0, E1, E2, E3, E4, E5⟩ := rq (w := H0) BK179.out; obtain ⟨E6, E7, E8, E9, F0, F1, F2, F3, F4, F5⟩ := eU (w := H0) BK171.out) | (go_at_call 46; (with_reducible refine (eT.calls a0_0 ((ag A4 A1).f0) ((ag A4 A1).f1) B4 _ O2.out).mono ?_); rintro e w' ⟨rfl, ⟨nd, rfl⟩⟩; (try first | exact ⟨rfl, _, World.drewN_drewN _ _ _⟩ | exact ⟨rfl, _, Eq.trans (World.drewN_drewN _ _ _) (congrArg (World.drewN _) (Nat.add_assoc _ _ _))⟩); have C5 : 0 ≤ (B4 : Int) := of_decide_eq_true aX; have C6 : B4 < (l0_2.length : Int) := of_decide_eq_true aX; obtain ⟨B0, H9, hx181_0⟩ := Kd.eF H6.out B4 C5 C6; cases H9; have hn181_0 : B0.block ≠ A2 := Nat.ne_of_lt (Nat.lt_of_lt_of_le lW A7.out); have hn181_1 : B0.block ≠ A2 := Nat.ne_of_lt (Nat.lt_of_lt_of_le lW A7.out); have hn181_2 : B0.block ≠ A2 := Nat.ne_of_lt (Nat.lt_of_lt_of_le lW A7.out); have hn181_3 : B0.block ≠ A2 := Nat.ne_of_lt (Nat.lt_of_lt_of_le lW A7.out); replace hx181_0 := (HB.out.cell (World.block_lt_of_cell? _ _ hx181_0)).trans hx181_0; replace hx181_0 := (cell_far (p := ⟨A2, 0, none⟩) Bi (.int .i64 ((ag A4 A1).f0))).trans hx181_0; replace hx181_0 := (cell_far (p := ⟨A2, 1, none⟩) Bn (.int .i64 ((ag A4 A1).f1))).trans hx181_0; replace hx181_0 := (cell_far (p := ⟨A2, 2, none⟩) Ar (.bool ((ag A4 A1).f2))).trans hx181_0; replace hx181_0 := (cell_far (p := ⟨A2, 3, none⟩) Bj (.bool ((ag A4 A1).f3))).trans hx181_0; (try have H2 := fun (n_ : Nat) => (show ((((((H0.drewN n_).setCell ⟨A2, 0, none⟩ (.int .i64 ((ag A4 A1).f0))).setCell ⟨A2, 1, none⟩ (.int .i64 ((ag A4 A1).f1))).setCell ⟨A2, 2, none⟩ (.bool ((ag A4 A1).f2))).setCell ⟨A2, 3, none⟩ (.bool ((ag A4 A1).f3)))).cell? _ = some _ from hx181_0)); clear hn181_0; clear hn181_1; clear hn181_2; clear hn181_3; replace C5 := eq_true C5; replace C6 := eq_true C6) | (go_at_call 47; (with_reducible refine (fM.calls a0_0 ((ag A4 A1).f0) ((ag A4 A1).f1) C2 _ O3.out).mono ?_); rintro e w' ⟨rfl, ⟨nd, rfl⟩⟩; (try first | exact ⟨rfl, _, World.drewN_drewN _ _ _⟩ | exact ⟨rfl, _, Eq.trans (World.drewN_drewN _ _ _) (congrArg (World.drewN _) (Nat.add_assoc _ _ _))⟩); have C7 : 0 ≤ (C2 : Int) := of_decide_eq_true aX; have C8 : C2 < (l0_3.length : Int) := of_decide_eq_true aX; obtain ⟨B3, I0, hx183_0⟩ := Kd.eF H7.out C2 C7 C8; cases I0; have hn183_0 : B3.block ≠ A2 := Nat.ne_of_lt (Nat.lt_of_lt_of_le lY A7.out); have hn183_1 : B3.block ≠ A2 := Nat.ne_of_lt (Nat.lt_of_lt_of_le lY A7.out); have hn183_2 : B3.block ≠ A2 := Nat.ne_of_lt (Nat.lt_of_lt_of_le lY A7.out); have hn183_3 : B3.block ≠ A2 := Nat.ne_of_lt (Nat.lt_of_lt_of_le lY A7.out); replace hx183_0 := (HB.out.cell (World.block_lt_of_cell? _ _ hx183_0)).trans hx183_0; replace hx183_0 := (cell_far (p := ⟨A2, 0, none⟩) AB (.int .i64 ((ag A4 A1).f0))).trans hx183_0; replace hx183_0 := (cell_far (p := ⟨A2, 1, none⟩) AO (.int .i64 ((ag A4 A1).f1))).trans hx183_0; replace hx183_0 := (cell_far (p := ⟨A2, 2, none⟩) AJ (.bool ((ag A4 A1).f2))).trans hx183_0; replace hx183_0 := (cell_far (p := ⟨A2, 3, none⟩) Bl (.bool ((ag A4 A1).f3))).trans hx183_0; (try have H3 := fun (n_ : Nat) => (show ((((((H0.drewN n_).setCell ⟨A2, 0, none⟩ (.int .i64 ((ag A4 A1).f0))).setCell ⟨A2, 1, none⟩ (.int .i64 ((ag A4 A1).f1))).setCell ⟨A2, 2, none⟩ (.bool ((ag A4 A1).f2))).setCell ⟨A2, 3, none⟩ (.bool ((ag A4 A1).f3)))).cell? _ = some _ from hx183_0)); clear hn183_0; clear hn183_1; clear hn183_2; clear hn183_3; replace C7 := eq_true C7; replace C8 := eq_true C8) | (go_at_call 45; (with_reducible refine (gu.calls ((ag A4 A1).f0) ((ag A4 A1).f1) ((ag A4 A1).f2) ((ag A4 A1).f3) I8 _ O4.out).mono ?_); rintro e P2 ⟨rfl, hb⟩; replace HO_5 := a_ (Kd.dF (rc_ (h := by exact Kd.ae (ui HO_5.out BK179.out) (fun _ h_ => h_.1))) hb); replace A6 := a_ (Kd.dF (rc_ (h := by exact Kd.ae (Kd.dW (p := ⟨A2, 3, none⟩) (Kd.dW (p := ⟨A2, 2, none⟩) (Kd.dW (p := ⟨A2, 1, none⟩) (Kd.dW (p := ⟨A2, 0, none⟩) (Kd.ae A6.out (fun k_ hk => (⟨hk, hk.2⟩ : _ ∧ k_ ≠ A2))) (fun _ hk => hk.2) (.int .i64 ((ag A4 A1).f0))) (fun _ hk => hk.2) (.int .i64 ((ag A4 A1).f1))) (fun _ hk => hk.2) (.bool ((ag A4 A1).f2))) (fun _ hk => hk.2) (.bool ((ag A4 A1).f3))) (fun _ h_ => h_.1))) hb); replace BK171 := a_ (dL (g := A5) (o := .cells #[.int .i64 a0_0, .int .i64 a0_1, .slice (some B0) l0_2.length D0, .slice (some B3) l0_3.length D1, .slice D4 l0_4.length D2] 28 (0, 0)) (gB (h := by exact wH A8.out BK171.out)) hb); replace BK179 := a_ (dL (g := A2) (o := .cells #[.int .i64 ((ag A4 A1).f0), .int .i64 ((ag A4 A1).f1), .bool ((ag A4 A1).f2), .bool ((ag A4 A1).f3)] 64 (0, 0)) (gB (h := by exact qR BK179.out)) hb); replace HB := cK lG hb; (try clear hb); (try clear hk))); go_upto_if 47 with (first | ((with_reducible refine bn (N := 7) rfl ?_); refine bG ?hg (N := 7) ?hd (cs := #[.int .i64 0, .int .i64 0, .bool false, .bool false]) (t := 64) ?hr ?_; (case hd => rfl); (case hg => rfl); (case hr => first | (go_simp; done) | (go_simp; rfl)); intro A2 hg H0 hbox hb; replace HO_5 := rl_ HO_5 hb; replace A6 := a_ (Kd.dF (Kd.kC (ra_ A6.out) A2 (Nat.le_of_eq hg.symm)) hb); have BK179 := a_ (hbox); have A7 := a_ ((xN : w.heap.size ≤ A2)); have GE179 := a_ ((xN : w.heap.size ≤ A2)); replace HB := cK mH hb; have A8 := a_ ((by rw [hg]; exact Nat.ne_of_lt (dI (g := A5) (rb_ BK171.out)) : A5 ≠ A2)); have C1 := a_ ((by rw [hg]; exact Nat.ne_of_gt (dI (g := A5) (rb_ BK171.out)) : A2 ≠ A5)); replace BK171 := bb_ A5 BK171 hb; clear hb hbox hg; have hnb22 := C1.out; have hnc22 := A8.out; obtain ⟨D8, D9, E0, E1, E2, E3, E4, E5⟩ := rq (w := H0) BK179.out; obtain ⟨E6, E7, E8, E9, F0, F1, F2, F3, F4, F5⟩ := eU (w := H0) BK171.out) | (go_at_call 46; (with_reducible refine (eT.calls a0_0 ((ag A4 A1).f0) ((ag A4 A1).f1) B4 _ O2.out).mono ?_); rintro e w' ⟨rfl, ⟨nd, rfl⟩⟩; (try first | exact ⟨rfl, _, World.drewN_drewN _ _ _⟩ | exact ⟨rfl, _, Eq.trans (World.drewN_drewN _ _ _) (congrArg (World.drewN _) (Nat.add_assoc _ _ _))⟩); have C5 : 0 ≤ (B4 : Int) := of_decide_eq_true aX; have C6 : B4 < (l0_2.length : Int) := of_decide_eq_true aX; obtain ⟨B0, H9, hx181_0⟩ := Kd.eF H6.out B4 C5 C6; cases H9; have hn181_0 : B0.block ≠ A2 := Nat.ne_of_lt (Nat.lt_of_lt_of_le lW A7.out); have hn181_1 : B0.block ≠ A2 := Nat.ne_of_lt (Nat.lt_of_lt_of_le lW A7.out); have hn181_2 : B0.block ≠ A2 := Nat.ne_of_lt (Nat.lt_of_lt_of_le lW A7.out); have hn181_3 : B0.block ≠ A2 := Nat.ne_of_lt (Nat.lt_of_lt_of_le lW A7.out); replace hx181_0 := (HB.out.cell (World.block_lt_of_cell? _ _ hx181_0)).trans hx181_0; replace hx181_0 := (cell_far (p := ⟨A2, 0, none⟩) Bi (.int .i64 ((ag A4 A1).f0))).trans hx181_0; replace hx181_0 := (cell_far (p := ⟨A2, 1, none⟩) Bn (.int .i64 ((ag A4 A1).f1))).trans hx181_0; replace hx181_0 := (cell_far (p := ⟨A2, 2, none⟩) Ar (.bool ((ag A4 A1).f2))).trans hx181_0; replace hx181_0 := (cell_far (p := ⟨A2, 3, none⟩) Bj (.bool ((ag A4 A1).f3))).trans hx181_0; (try have H2 := fun (n_ : Nat) => (show ((((((H0.drewN n_).setCell ⟨A2, 0, none⟩ (.int .i64 ((ag A4 A1).f0))).setCell ⟨A2, 1, none⟩ (.int .i64 ((ag A4 A1).f1))).setCell ⟨A2, 2, none⟩ (.bool ((ag A4 A1).f2))).setCell ⟨A2, 3, none⟩ (.bool ((ag A4 A1).f3)))).cell? _ = some _ from hx181_0)); clear hn181_0; clear hn181_1; clear hn181_2; clear hn181_3; replace C5 := eq_true C5; replace C6 := eq_true C6) | (go_at_call 47; (with_reducible refine (fM.calls a0_0 ((ag A4 A1).f0) ((ag A4 A1).f1) C2 _ O3.out).mono ?_); rintro e w' ⟨rfl, ⟨nd, rfl⟩⟩; (try first | exact ⟨rfl, _, World.drewN_drewN _ _ _⟩ | exact ⟨rfl, _, Eq.trans (World.drewN_drewN _ _ _) (congrArg (World.drewN _) (Nat.add_assoc _ _ _))⟩); have C7 : 0 ≤ (C2 : Int) := of_decide_eq_true aX; have C8 : C2 < (l0_3.length : Int) := of_decide_eq_true aX; obtain ⟨B3, I0, hx183_0⟩ := Kd.eF H7.out C2 C7 C8; cases I0; have hn183_0 : B3.block ≠ A2 := Nat.ne_of_lt (Nat.lt_of_lt_of_le lY A7.out); have hn183_1 : B3.block ≠ A2 := Nat.ne_of_lt (Nat.lt_of_lt_of_le lY A7.out); have hn183_2 : B3.block ≠ A2 := Nat.ne_of_lt (Nat.lt_of_lt_of_le lY A7.out); have hn183_3 : B3.block ≠ A2 := Nat.ne_of_lt (Nat.lt_of_lt_of_le lY A7.out); replace hx183_0 := (HB.out.cell (World.block_lt_of_cell? _ _ hx183_0)).trans hx183_0; replace hx183_0 := (cell_far (p := ⟨A2, 0, none⟩) AB (.int .i64 ((ag A4 A1).f0))).trans hx183_0; replace hx183_0 := (cell_far (p := ⟨A2, 1, none⟩) AO (.int .i64 ((ag A4 A1).f1))).trans hx183_0; replace hx183_0 := (cell_far (p := ⟨A2, 2, none⟩) AJ (.bool ((ag A4 A1).f2))).trans hx183_0; replace hx183_0 := (cell_far (p := ⟨A2, 3, none⟩) Bl (.bool ((ag A4 A1).f3))).trans hx183_0; (try have H3 := fun (n_ : Nat) => (show ((((((H0.drewN n_).setCell ⟨A2, 0, none⟩ (.int .i64 ((ag A4 A1).f0))).setCell ⟨A2, 1, none⟩ (.int .i64 ((ag A4 A1).f1))).setCell ⟨A2, 2, none⟩ (.bool ((ag A4 A1).f2))).setCell ⟨A2, 3, none⟩ (.bool ((ag A4 A1).f3)))).cell? _ = some _ from hx183_0)); clear hn183_0; clear hn183_1; clear hn183_2; clear hn183_3; replace C7 := eq_true C7; replace C8 := eq_true C8) | (go_at_call 45; (with_reducible refine (gu.calls ((ag A4 A1).f0) ((ag A4 A1).f1) ((ag A4 A1).f2) ((ag A4 A1).f3) I8 _ O4.out).mono ?_); rintro e P2 ⟨rfl, hb⟩; replace HO_5 := a_ (Kd.dF (rc_ (h := by exact Kd.ae (ui HO_5.out BK179.out) (fun _ h_ => h_.1))) hb); replace A6 := a_ (Kd.dF (rc_ (h := by exact Kd.ae (Kd.dW (p := ⟨A2, 3, none⟩) (Kd.dW (p := ⟨A2, 2, none⟩) (Kd.dW (p := ⟨A2, 1, none⟩) (Kd.dW (p := ⟨A2, 0, none⟩) (Kd.ae A6.out (fun k_ hk => (⟨hk, hk.2⟩ : _ ∧ k_ ≠ A2))) (fun _ hk => hk.2) (.int .i64 ((ag A4 A1).f0))) (fun _ hk => hk.2) (.int .i64 ((ag A4 A1).f1))) (fun _ hk => hk.2) (.bool ((ag A4 A1).f2))) (fun _ hk => hk.2) (.bool ((ag A4 A1).f3))) (fun _ h_ => h_.1))) hb); replace BK171 := a_ (dL (g := A5) (o := .cells #[.int .i64 a0_0, .int .i64 a0_1, .slice (some B0) l0_2.length D0, .slice (some B3) l0_3.length D1, .slice D4 l0_4.length D2] 28 (0, 0)) (gB (h := by exact wH A8.out BK171.out)) hb); replace BK179 := a_ (dL (g := A2) (o := .cells #[.int .i64 ((ag A4 A1).f0), .int .i64 ((ag A4 A1).f1), .bool ((ag A4 A1).f2), .bool ((ag A4 A1).f3)] 64 (0, 0)) (gB (h := by exact qR BK179.out)) hb); replace HB := cK lG hb; (try clear hb); (try clear hk))))
    (try simp only [Act.put, List.setIfInBounds_toArray, List.set_cons_zero, List.set_cons_succ])
    go_cut [9, 10] (fun v9 v10 wc => ∃ (kq : Nat) (F7 : Int) (D3 : Int), v9 = .int .i64 F7 ∧ v10 = .int .i64 D3 ∧ af (aV.j1 kq C3 B4 F7 D3 A4 (A4.length : Int) A1 a0_0 a0_1 l0_2 l0_3 l0_4 ((ag A4 A1).f0) ((ag A4 A1).f1) ((ag A4 A1).f2) ((ag A4 A1).f3) = some r) ∧ af (kq ≤ k1) ∧ af (Kd.R (Kd.int .i64) 2 wc w.heap.size (fun _ => True) u5 C3) ∧ af (Kd.R k64 64 wc w.heap.size (fun k_ => k_ ≠ A2) (.slice (some L8) A4.length M5) A4) ∧ af (wc.heap[A5]? = some (.cells #[.int .i64 a0_0, .int .i64 a0_1, (.slice (some B0) l0_2.length D0), (.slice (some B3) l0_3.length D1), (.slice D4 l0_4.length D2)] 28 (0, 0))) ∧ af (wc.heap[A2]? = some (.cells #[.int .i64 ((ag A4 A1).f0), .int .i64 ((ag A4 A1).f1), .bool ((ag A4 A1).f2), .bool ((ag A4 A1).f3)] 64 (0, 0))) ∧ af (Below w.heap.size w wc))
    case first =>
     have H := L9.out
     clear L9
     by_cases c26 : I8 = true
     ·subst c26
      have H1 : (aV.j1 k1 C3 B4 (rd l0_3 C2) (rd l0_2 B4) A4 (A4.length : Int) A1 a0_0 a0_1 l0_2 l0_3 l0_4 ((ag A4 A1).f0) ((ag A4 A1).f1) ((ag A4 A1).f2) ((ag A4 A1).f3)) = some r := by rw [if_pos rfl] at H; exact H
      clear H
      have H := H1
      clear H1
      have H' := a_ H
      clear H
      go_wp2
      repeat (go_quiet (fail); try go_wp2)
      go_meet
      case rel => exact ⟨_, (rd l0_3 C2), (rd l0_2 B4), cz, cz, H', ⟨nC⟩, ⟨oo⟩, ⟨by (with_reducible repeat (first | apply Kd.aC | apply Kd.aA | apply Kd.ay)); exact Kd.ae A6.out (fun _ hk => hk.2)⟩, ⟨xS⟩, ⟨zt⟩, ⟨lG⟩⟩
     ·replace c26 := Bool.eq_false_iff.mpr c26
      subst c26
      have H1 : (aV.j1 k1 C3 B4 (rd l0_2 B4) (rd l0_3 C2) A4 (A4.length : Int) A1 a0_0 a0_1 l0_2 l0_3 l0_4 ((ag A4 A1).f0) ((ag A4 A1).f1) ((ag A4 A1).f2) ((ag A4 A1).f3)) = some r := by rw [if_neg (show ¬ (false = true) by decide)] at H; exact H
      clear H
      have H := H1
      clear H1
      have H' := a_ H
      clear H
      go_wp2
      repeat (go_quiet (fail); try go_wp2)
      go_meet
      case rel => exact ⟨_, (rd l0_2 B4), (rd l0_3 C2), cz, cz, H', ⟨nC⟩, ⟨oo⟩, ⟨by (with_reducible repeat (first | apply Kd.aC | apply Kd.aA | apply Kd.ay)); exact Kd.ae A6.out (fun _ hk => hk.2)⟩, ⟨xS⟩, ⟨zt⟩, ⟨lG⟩⟩
    case rest =>
     clear L9; try clear L7; try clear M7; try clear M8; try clear M9; try clear N0; try clear N1; try clear N2; try clear D8 D9 E0 E1; try clear E6 E7 E8 E9 F0; try clear E2 E3 E4 E5; try clear F1 F2 F3 F4 F5; try clear J1; try clear J2; try clear J3; try clear J4; try clear hx181_0; try clear hx183_0; try clear I9; try clear C5; try clear C7; try clear J0; try clear C6; try clear C8
     obtain ⟨kq, F7, D3, rfl, rfl, HA, J5, HO_5, A6, BK171, BK179, HB⟩ := hcut
     cases kq with
     | zero => exact absurd HA.out (by simp [aV.j1])
     | succ O6 =>
      have H := HA.out
      clear HA
      simp only [aV.j1] at H
      replace H := ig_ H; obtain ⟨c27, H⟩ := H
      have N3 := decide_eq_true c27
      clear c27
      replace H := ig_ H; obtain ⟨c28, H⟩ := H
      have N4 := decide_eq_true c28
      clear c28
      replace H := bo_ H; obtain ⟨F8, O7, H⟩ := H; (try dsimp only at H)
      have M0 := a_ H
      clear H
      have hnb31 := A8.out
      have hnc31 := C1.out
      obtain ⟨J6, J7, J8, J9, K0, K1, K2, K3, K4, K5⟩ := eU (w := wc) BK171.out
      have K6 : 0 ≤ (B4 : Int) := of_decide_eq_true aX
      have K7 : B4 < (l0_4.length : Int) := of_decide_eq_true aX
      obtain ⟨N5, O8, C9⟩ := Kd.eF HR0_4.out B4 K6 K7
      cases O8
      replace C9 := (HB.out.cell (World.block_lt_of_cell? _ _ C9)).trans C9
      replace K6 := eq_true K6
      replace K7 := eq_true K7
      obtain ⟨K8, K9, L0, L1, L2, L3, L4, L5⟩ := rq (w := wc) BK179.out
      go_upto_if 58 with (first | (go_at_call 48; (with_reducible refine (iL.calls ((ag A4 A1).f3) F8 _ O7.out).mono ?_); rintro e w' ⟨rfl, ⟨nd, rfl⟩⟩; (try first | exact ⟨rfl, _, World.drewN_drewN _ _ _⟩ | exact ⟨rfl, _, Eq.trans (World.drewN_drewN _ _ _) (congrArg (World.drewN _) (Nat.add_assoc _ _ _))⟩)))
      repeat (go_quiet (first | (go_at_call 48; (with_reducible refine (iL.calls ((ag A4 A1).f3) F8 _ O7.out).mono ?_); rintro e w' ⟨rfl, ⟨nd, rfl⟩⟩; (try first | exact ⟨rfl, _, World.drewN_drewN _ _ _⟩ | exact ⟨rfl, _, Eq.trans (World.drewN_drewN _ _ _) (congrArg (World.drewN _) (Nat.add_assoc _ _ _))⟩))); go_upto_if 58 with (first | (go_at_call 48; (with_reducible refine (iL.calls ((ag A4 A1).f3) F8 _ O7.out).mono ?_); rintro e w' ⟨rfl, ⟨nd, rfl⟩⟩; (try first | exact ⟨rfl, _, World.drewN_drewN _ _ _⟩ | exact ⟨rfl, _, Eq.trans (World.drewN_drewN _ _ _) (congrArg (World.drewN _) (Nat.add_assoc _ _ _))⟩))))
      (try simp only [Act.put, List.setIfInBounds_toArray, List.set_cons_zero, List.set_cons_succ])
      go_cut [9, 10] (fun v9 v10 wc => ∃ (kq : Nat) (C0 : Int) (A9 : Int), v9 = .int .i64 C0 ∧ v10 = .int .i64 A9 ∧ af (aV.j2 kq C3 C0 A9 A4 (A4.length : Int) A1 a0_0 a0_1 l0_2 l0_3 l0_4 = some r) ∧ af (kq ≤ O6) ∧ af (Kd.R (Kd.int .i64) 2 wc w.heap.size (fun _ => True) u5 C3) ∧ af (Kd.R k64 64 wc w.heap.size (fun k_ => k_ ≠ A2) (.slice (some L8) A4.length M5) A4) ∧ af (wc.heap[A5]? = some (.cells #[.int .i64 a0_0, .int .i64 a0_1, (.slice (some B0) l0_2.length D0), (.slice (some B3) l0_3.length D1), (.slice (some N5) l0_4.length D2)] 28 (0, 0))) ∧ af (wc.heap[A2]? = some (.cells #[.int .i64 ((ag A4 A1).f0), .int .i64 ((ag A4 A1).f1), .bool ((ag A4 A1).f2), .bool ((ag A4 A1).f3)] 64 (0, 0))) ∧ af (Below w.heap.size w wc))
      case first =>
       have H := M0.out
       clear M0
       by_cases c34 : (rd l0_4 B4) = F8
       ·rw [if_pos c34] at H
        have F9 : ((rd l0_4 B4) == F8) = true := beq_iff_eq.mpr c34
        have N6 : ((rd l0_4 B4) != F8) = false := bne_eq_false_iff_eq.mpr c34
        clear c34
        (first | rw [F9] | (simp only [eX, iI]; rw [F9]) | skip)
        have H' := a_ H
        clear H
        go_wp2
        repeat (go_quiet (fail); try go_wp2)
        go_meet
        case rel => exact ⟨_, (F7), (D3), cz, cz, H', ⟨by have := HK1.out; have := J5.out; first | omega | exact Nat.le_refl _⟩, ⟨oo⟩, ⟨by (with_reducible repeat (first | apply Kd.aC | apply Kd.aA | apply Kd.ay)); exact A6.out⟩, ⟨xS⟩, ⟨zt⟩, ⟨lG⟩⟩
       rw [if_neg c34] at H
       have F9 : ((rd l0_4 B4) == F8) = false := beq_eq_false_iff_ne.mpr c34
       have N6 : ((rd l0_4 B4) != F8) = true := bne_iff_ne.mpr c34
       (first | rw [F9] | (simp only [eX, iI]; rw [F9]) | skip)
       have H' := a_ H
       clear H
       go_wp2
       repeat (go_quiet (fail); try go_wp2)
       go_meet
       case rel => exact ⟨_, (wrap64 (-F7)), (wrap64 (-D3)), cz, cz, H', ⟨by have := HK1.out; have := J5.out; first | omega | exact Nat.le_refl _⟩, ⟨oo⟩, ⟨by (with_reducible repeat (first | apply Kd.aC | apply Kd.aA | apply Kd.ay)); exact A6.out⟩, ⟨xS⟩, ⟨zt⟩, ⟨lG⟩⟩
      case rest =>
       clear M0; try clear N3; try clear N4; try clear J6 J7 J8 J9 K0; try clear K8 K9 L0 L1; try clear K1 K2 K3 K4 K5; try clear L2 L3 L4 L5; try clear C9; try clear K6; try clear K7
       obtain ⟨kq, C0, A9, rfl, rfl, HA, N7, HO_5, A6, BK171, BK179, HB⟩ := hcut
       cases kq with
       | zero => exact absurd HA.out (by simp [aV.j2])
       | succ M1 =>
        have H := HA.out
        clear HA
        simp only [aV.j2] at H
        obtain ⟨F6, I1⟩ : ∃ y_ : List Int, y_ = (([C0, A9] : List Int)) := ⟨_, rfl⟩
        replace H : (if C3.length + F6.length < 17592186044416 then (aV.l0 M1 (C3 ++ F6) A4 (A4.length : Int) (wrap64 (A1 + 1)) a0_0 a0_1 l0_2 l0_3 l0_4) else (none)) = some r := rh_ I1 H
        have D7 := a_ I1
        clear I1
        replace H := ig_ H; obtain ⟨c35, H⟩ := H
        have LMc35 := a_ c35
        clear c35
        obtain ⟨N8, I2⟩ : ∃ y_ : List Int, y_ = (C3 ++ F6) := ⟨_, rfl⟩
        replace H : (aV.l0 M1 N8 A4 (A4.length : Int) (wrap64 (A1 + 1)) a0_0 a0_1 l0_2 l0_3 l0_4) = some r := rh_ I2 H
        have I3 := a_ I2
        clear I2
        have H' := a_ H
        clear H
        go_wp2_with (first | ((with_reducible refine bn (N := 66) rfl ?_); refine Kd.iM (Kd.int .i64) _ 2 ?hg (N := 66) ?hd (xs := ([C0, A9] : List Int)) (inner := [.int .i64 C0, .int .i64 A9]) (ok := fun _ => True) (okp := fun _ => True) ?hr ?hp (fun _ hk => hk) trivial (Below.refl _ _) (Nat.le_refl _) (by simp) ?_; (case hd => rfl); (case hg => rfl); (case hr => first | (go_simp; done) | (go_simp; rfl)); (case hp => exact (dG.one (show Kd.M (Kd.int .i64) _ _ _ C0 [.int .i64 C0] from rfl) (dG.one (show Kd.M (Kd.int .i64) _ _ _ A9 [.int .i64 A9] from rfl) (dG.none _ _)))); intro N9 P3 ho37 hb hg_ hnew_; clear hg_ hnew_; (first | rw [← D7.out] at ho37 | (simp only [Int.reduceToNat] at ho37; rw [← D7.out] at ho37)); replace A6 := rl_ A6 hb; have B7 := a_ (Kd.bE (Kd.bq ho37 (Kd.df (ra_ HO_5.out))) (ai lG)); replace HO_5 := a_ (Kd.bC (ra_ HO_5.out) (Kd.aH ho37) hb); replace BK171 := bb_ A5 BK171 hb; replace BK179 := bb_ A2 BK179 hb; replace HB := cK lG hb; clear hb ho37; obtain ⟨I4, I5, I6⟩ := Kd.bg B7.out; subst I6) | ((with_reducible refine di (b := .append) (xs := #[.tmp 63, .tmp 66]) rfl ?_); at_builtin; refine Kd.il (Kd.int .i64) (w0 := w) w.heap.size rfl (.tmp 63) (.tmp 66) 22 2 (.int .i64 0) 8 rfl Tryz.underlying22 jQ rfl (by decide) (by omega) u5 C3 F6 _ _ _ (fun k_ => nb_ k_ I4 F6.length I5) (fun _ => False) rfl rfl ?aO ?aR (fun _ _ h => h) (fun _ h => h.elim) ?aF ?aB ?aS ?aL ?_; (case aR => repeat (first | exact (Kd.aI B7.out).2.2 | (with_reducible refine Kd.dD ?_ _) | (with_reducible refine Kd.dH ?_ _) | (with_reducible refine Kd.dZ ?_))); (case aB => exact lG); (case aF => exact (fun k_ hk => Kd.mq (Kd.df (ra_ B7.out)) k_ hk)); (case aO => exact (rc_ (h := by exact Kd.ae HO_5.out (fun _ hk => hk.2)))); (case aS => exact (ai lG)); (case aL => have := LMc35.out; omega); intro O0 P4 ho hb hg hat; rw [← I3.out] at ho; replace A6 := a_ (Kd.kU (ra_ A6.out) (Kd.jf (ra_ HO_5.out)) (by decide) hg); replace BK171 := a_ (eY (g := A5) (rb_ BK171.out) hg (Kd.iU HO_5.out BK171.out (by decide))); replace BK179 := a_ (eY (g := A2) (rb_ BK179.out) hg (Kd.iU HO_5.out BK179.out (by decide))); replace B7 := a_ (Kd.fe (ok := (fun _ => True)) (ra_ B7.out) hg hat); replace HB := a_ (hb); have I7 := a_ (ho); clear HO_5; clear ho hb hg hat))
        repeat (go_quiet (first | ((with_reducible refine bn (N := 66) rfl ?_); refine Kd.iM (Kd.int .i64) _ 2 ?hg (N := 66) ?hd (xs := ([C0, A9] : List Int)) (inner := [.int .i64 C0, .int .i64 A9]) (ok := fun _ => True) (okp := fun _ => True) ?hr ?hp (fun _ hk => hk) trivial (Below.refl _ _) (Nat.le_refl _) (by simp) ?_; (case hd => rfl); (case hg => rfl); (case hr => first | (go_simp; done) | (go_simp; rfl)); (case hp => exact (dG.one (show Kd.M (Kd.int .i64) _ _ _ C0 [.int .i64 C0] from rfl) (dG.one (show Kd.M (Kd.int .i64) _ _ _ A9 [.int .i64 A9] from rfl) (dG.none _ _)))); intro N9 P3 ho37 hb hg_ hnew_; clear hg_ hnew_; (first | rw [← D7.out] at ho37 | (simp only [Int.reduceToNat] at ho37; rw [← D7.out] at ho37)); replace A6 := rl_ A6 hb; have B7 := a_ (Kd.bE (Kd.bq ho37 (Kd.df (ra_ HO_5.out))) (ai lG)); replace HO_5 := a_ (Kd.bC (ra_ HO_5.out) (Kd.aH ho37) hb); replace BK171 := bb_ A5 BK171 hb; replace BK179 := bb_ A2 BK179 hb; replace HB := cK lG hb; clear hb ho37; obtain ⟨I4, I5, I6⟩ := Kd.bg B7.out; subst I6) | ((with_reducible refine di (b := .append) (xs := #[.tmp 63, .tmp 66]) rfl ?_); at_builtin; refine Kd.il (Kd.int .i64) (w0 := w) w.heap.size rfl (.tmp 63) (.tmp 66) 22 2 (.int .i64 0) 8 rfl Tryz.underlying22 jQ rfl (by decide) (by omega) u5 C3 F6 _ _ _ (fun k_ => nb_ k_ I4 F6.length I5) (fun _ => False) rfl rfl ?aO ?aR (fun _ _ h => h) (fun _ h => h.elim) ?aF ?aB ?aS ?aL ?_; (case aR => repeat (first | exact (Kd.aI B7.out).2.2 | (with_reducible refine Kd.dD ?_ _) | (with_reducible refine Kd.dH ?_ _) | (with_reducible refine Kd.dZ ?_))); (case aB => exact lG); (case aF => exact (fun k_ hk => Kd.mq (Kd.df (ra_ B7.out)) k_ hk)); (case aO => exact (rc_ (h := by exact Kd.ae HO_5.out (fun _ hk => hk.2)))); (case aS => exact (ai lG)); (case aL => have := LMc35.out; omega); intro O0 P4 ho hb hg hat; rw [← I3.out] at ho; replace A6 := a_ (Kd.kU (ra_ A6.out) (Kd.jf (ra_ HO_5.out)) (by decide) hg); replace BK171 := a_ (eY (g := A5) (rb_ BK171.out) hg (Kd.iU HO_5.out BK171.out (by decide))); replace BK179 := a_ (eY (g := A2) (rb_ BK179.out) hg (Kd.iU HO_5.out BK179.out (by decide))); replace B7 := a_ (Kd.fe (ok := (fun _ => True)) (ra_ B7.out) hg hat); replace HB := a_ (hb); have I7 := a_ (ho); clear HO_5; clear ho hb hg hat)); try go_wp2_with (first | ((with_reducible refine bn (N := 66) rfl ?_); refine Kd.iM (Kd.int .i64) _ 2 ?hg (N := 66) ?hd (xs := ([C0, A9] : List Int)) (inner := [.int .i64 C0, .int .i64 A9]) (ok := fun _ => True) (okp := fun _ => True) ?hr ?hp (fun _ hk => hk) trivial (Below.refl _ _) (Nat.le_refl _) (by simp) ?_; (case hd => rfl); (case hg => rfl); (case hr => first | (go_simp; done) | (go_simp; rfl)); (case hp => exact (dG.one (show Kd.M (Kd.int .i64) _ _ _ C0 [.int .i64 C0] from rfl) (dG.one (show Kd.M (Kd.int .i64) _ _ _ A9 [.int .i64 A9] from rfl) (dG.none _ _)))); intro N9 P3 ho37 hb hg_ hnew_; clear hg_ hnew_; (first | rw [← D7.out] at ho37 | (simp only [Int.reduceToNat] at ho37; rw [← D7.out] at ho37)); replace A6 := rl_ A6 hb; have B7 := a_ (Kd.bE (Kd.bq ho37 (Kd.df (ra_ HO_5.out))) (ai lG)); replace HO_5 := a_ (Kd.bC (ra_ HO_5.out) (Kd.aH ho37) hb); replace BK171 := bb_ A5 BK171 hb; replace BK179 := bb_ A2 BK179 hb; replace HB := cK lG hb; clear hb ho37; obtain ⟨I4, I5, I6⟩ := Kd.bg B7.out; subst I6) | ((with_reducible refine di (b := .append) (xs := #[.tmp 63, .tmp 66]) rfl ?_); at_builtin; refine Kd.il (Kd.int .i64) (w0 := w) w.heap.size rfl (.tmp 63) (.tmp 66) 22 2 (.int .i64 0) 8 rfl Tryz.underlying22 jQ rfl (by decide) (by omega) u5 C3 F6 _ _ _ (fun k_ => nb_ k_ I4 F6.length I5) (fun _ => False) rfl rfl ?aO ?aR (fun _ _ h => h) (fun _ h => h.elim) ?aF ?aB ?aS ?aL ?_; (case aR => repeat (first | exact (Kd.aI B7.out).2.2 | (with_reducible refine Kd.dD ?_ _) | (with_reducible refine Kd.dH ?_ _) | (with_reducible refine Kd.dZ ?_))); (case aB => exact lG); (case aF => exact (fun k_ hk => Kd.mq (Kd.df (ra_ B7.out)) k_ hk)); (case aO => exact (rc_ (h := by exact Kd.ae HO_5.out (fun _ hk => hk.2)))); (case aS => exact (ai lG)); (case aL => have := LMc35.out; omega); intro O0 P4 ho hb hg hat; rw [← I3.out] at ho; replace A6 := a_ (Kd.kU (ra_ A6.out) (Kd.jf (ra_ HO_5.out)) (by decide) hg); replace BK171 := a_ (eY (g := A5) (rb_ BK171.out) hg (Kd.iU HO_5.out BK171.out (by decide))); replace BK179 := a_ (eY (g := A2) (rb_ BK179.out) hg (Kd.iU HO_5.out BK179.out (by decide))); replace B7 := a_ (Kd.fe (ok := (fun _ => True)) (ra_ B7.out) hg hat); replace HB := a_ (hb); have I7 := a_ (ho); clear HO_5; clear ho hb hg hat)))
        go_roundg M1
        case measure => have := HK1.out; have := J5.out; have := N7.out; omega
        case rel => exact ⟨(N8), (wrap64 (A1 + 1)), cz, H', ⟨by have := HK1.out; have := J5.out; have := N7.out; omega⟩, ⟨by (with_reducible repeat (first | apply Kd.aC | apply Kd.aA | apply Kd.ay)); exact Kd.ae I7.out (fun _ hk => trivial)⟩, ⟨by (with_reducible repeat (first | apply Kd.aC | apply Kd.aA | apply Kd.ay)); exact Kd.ae A6.out (fun _ hk => trivial)⟩, ⟨xS⟩, ⟨lG⟩⟩
   rw [if_neg c10] at H
   have L7 := decide_eq_false c10
   clear c10
   obtain rfl := Option.some.inj H
   go_wp2
   repeat (go_quiet (fail); try go_wp2)
   go_ret
   exact ⟨_, gy, oo, mH⟩
def aZ.l0 : Nat → List Int → Int → Int → Option (Int)
 | 0, _, _, _ => none
 | k + 1, x0, x3, x4 => if x4 < (x0.length : Int) then (if 0 ≤ x4 then (aZ.l0 k x0 (mn x3 (rd x0 x4)) (wrap64 (x4 + 1))) else (none)) else (some x3)
def aZ.f (k : Nat) (l0 : List Int) : Option (Int) := if (l0.length : Int) < 1 then (none) else (if 0 < (l0.length : Int) then (aZ.l0 k l0 (rd l0 0) 1) else (none))
theorem aZ.dC : ∀ k, (∀ y0 y1 y2, LeO (aZ.l0 k y0 y1 y2) (aZ.l0 (k + 1) y0 y1 y2))
 | 0 => fun _ _ _ r h => by simp [aZ.l0] at h
 | k + 1 => by
  have ih0 := aZ.dC k
  ·intro y0 y1 y2
   unfold aZ.l0
   repeat' first | (with_reducible first | exact ih0 .. | exact LeO.refl .. | exact LeO.none .. | refine LeO.ite ?_ ?_ | refine LeO.bind ?_ (fun _ => ?_))
theorem aZ.mono : ∀ a0 k, LeO (aZ.f k a0) (aZ.f (k + 1) a0) := by
 intro a0 k
 have ih0 := aZ.dC k
 unfold aZ.f
 repeat' first | (with_reducible first | exact ih0 .. | exact LeO.refl .. | exact LeO.none .. | refine LeO.ite ?_ ?_ | refine LeO.bind ?_ (fun _ => ?_))
theorem aZ.calls (k : Nat) (A0 : Option Addr) (c0 : Nat) (l0 : List Int) (r : Int) (w : World) (hr0 : Kd.C (Kd.int .i64) w A0 l0.length l0) (hc0 : l0.length ≤ c0) (h : aZ.f k l0 = some r) :
  Calls Tryz.prog 78 #[.slice A0 l0.length c0] w fun e w' => e = .returned (.int .i64 r) ∧ Below w.heap.size w w' := by
 have HR0 := a_ hr0
 have C7 := a_ hc0
 clear hr0 hc0
 have HB := a_ (Below.refl w.heap.size w)
 have H : (if (l0.length : Int) < 1 then (none) else (if 0 < (l0.length : Int) then (aZ.l0 k l0 (rd l0 0) 1) else (none))) = some r := h
 clear h
 replace H := in_ H; obtain ⟨c2, H⟩ := H
 have B4 := decide_eq_false c2
 have B7 : decide (l0.length < 1) = false := decide_eq_false (by omega)
 clear c2
 replace H := ig_ H; obtain ⟨c3, H⟩ := H
 have C0 := decide_eq_true c3
 have C1 : decide (0 < l0.length) = true := decide_eq_true (by omega)
 clear c3
 have H' := a_ H
 clear H
 have A5 : 0 ≤ (0 : Int) := (by omega)
 have A6 : 0 < (l0.length : Int) := of_decide_eq_true aX
 obtain ⟨B0, C2, A2⟩ := Kd.eF HR0.out 0 A5 A6
 cases C2
 have qi193 : (0 < l0.length) = True := eq_true (by omega)
 (try rw [show ((0 : Int)).toNat = 0 from rfl] at A2)
 (try rw [Addr.add_zero'] at A2)
 replace A5 := eq_true A5
 replace A6 := eq_true A6
 go_enter Tryz.func78, Tryz.ntmps78
 go_wp2
 go_loopg [3, 4] k (fun kq v3 v4 w' => ∃ (A4 : Int) (A1 : Int), v3 = .int .i64 A4 ∧ v4 = .int .i64 A1 ∧ af (aZ.l0 kq l0 A4 A1 = some r) ∧ af (kq ≤ k) ∧ af (Below w.heap.size w w'))
 case atStart => exact ⟨(rd l0 0), (1), cz, cz, H', ⟨Nat.le_refl _⟩, ⟨bX⟩⟩
 case round =>
  clear H'
  try clear B4; try clear B7; try clear C0; try clear C1; try clear A2; try clear A5; try clear A6
  obtain ⟨A4, A1, rfl, rfl, HA, HK1, HB⟩ := hrel
  cases gk with
  | zero => exact absurd HA.out (by simp [aZ.l0])
  | succ k1 =>
   have H := HA.out
   clear HA
   simp only [aZ.l0] at H
   by_cases c4 : A1 < (l0.length : Int)
   ·rw [if_pos c4] at H
    have C3 := decide_eq_true c4
    clear c4
    replace H := ig_ H; obtain ⟨c5, H⟩ := H
    have C6 := decide_eq_true c5
    clear c5
    obtain ⟨C4, A7⟩ : ∃ j_ : Int, (mn A4 (rd l0 A1)) = j_ := ⟨_, rfl⟩
    replace H : (aZ.l0 k1 l0 C4 (wrap64 (A1 + 1))) = some r := by first | (rw [A7] at H; exact H) | (simp only [A7] at H ⊢; exact H)
    have hji6_ : (if (rd l0 A1) < A4 then (rd l0 A1) else A4) = C4 := A7
    have H' := a_ H
    clear H
    have A8 : 0 ≤ (A1 : Int) := of_decide_eq_true aX
    have A9 : A1 < (l0.length : Int) := of_decide_eq_true aX
    obtain ⟨B3, C5, A3⟩ := Kd.eF HR0.out A1 A8 A9
    obtain rfl : B0 = B3 := (by injection C5)
    replace A3 := (HB.out.cell (World.block_lt_of_cell? _ _ A3)).trans A3
    replace A8 := eq_true A8
    replace A9 := eq_true A9
    go_wp2
    go_roundg k1
    case measure => have := HK1.out; omega
    case rel => exact ⟨(C4), (wrap64 (A1 + 1)), (by first | rfl | (simp; done) | (simp only [← A7] <;> (first | rfl | simp)) | (simp [*]; done)), cz, H', ⟨kW⟩, ⟨bX⟩⟩
   rw [if_neg c4] at H
   have C3 := decide_eq_false c4
   clear c4
   obtain rfl := Option.some.inj H
   go_wp2
   go_ret
   exact ⟨gy, bX⟩
end Go.Proofs.YtkpidjmhdagkfaaGreatDoor.QFnImposed
