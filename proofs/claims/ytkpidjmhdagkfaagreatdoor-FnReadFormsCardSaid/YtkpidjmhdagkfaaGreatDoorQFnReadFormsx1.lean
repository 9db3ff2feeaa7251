-- Written by own_print.py of this session's repo over the kit's print (its output, turned at some places).
import Derived.Test.YtkpidjmhdagkfaaGreatDoorQFnReadFormsx0
namespace Go.Proofs.YtkpidjmhdagkfaaGreatDoor.QFnReadForms
open Go.RowKit Go.Proofs.YtkpidjmhdagkfaaGreatDoorW.PrintWords Go.Proofs.YtkpidjmhdagkfaaGreatDoorW.PrintLast Go.Proofs.YtkpidjmhdagkfaaGreatDoorW.PrintMore
attribute [local go_sem] ik iq iR iT gD gF il iw
set_option maxHeartbeats 8000000
set_option maxRecDepth 100000
set_option linter.unusedVariables false
set_option linter.unusedSimpArgs false
mutual
def aM.j0 : Nat → Int → Bool → Int → Int → List Int → List Int → List Int → Option (Bool)
 | 0, _, _, _, _, _, _, _ => none
 | k + 1, x3, x44, x119000, x119001, x119002, x119003, x119004 => if x44 = true then (some false) else ((jy.f x119002).bind fun t121 => (if t121.length + x119003.length < 17592186044416 then ((bT.f k x119000 x119001 x119002 x119003 x119004).bind fun t127 => (aM.l0 k x3 (t121 ++ x119003) t127 0)) else (none)))
def aM.l0 : Nat → Int → List Int → Int → Int → Option (Bool)
 | 0, _, _, _, _ => none
 | k + 1, x3, x4, x5, x6 => if x6 < (x4.length : Int) then (if 0 ≤ x6 then ((iF.f (rd x4 x6) x5 (wrap64 ((wrap64 (x5 + (wrap64 (2 * x3)))) - 1))).bind fun t129 => (if t129 = true then (if x6 ≤ (x4.length : Int) then ((dI.f k (x4.take (x6 : Int).toNat) (rd x4 x6)).bind fun t135 => (if t135 = true then (some false) else (aM.l0 k x3 x4 x5 (wrap64 (x6 + 1))))) else (none)) else (some false))) else (none)) else (if x5 ≥ 1 then (some (decide (x5 ≤ 1000000000))) else (some false))
end
def aM.f (k : Nat) (a0_0 : Int) (a0_1 : Int) (l0_2 : List Int) (l0_3 : List Int) (l0_4 : List Int) : Option (Bool) := (dE.f a0_0 a0_1).bind fun t119 => (if t119 = true then (if (l0_2.length : Int) = (wrap64 (a0_0 * a0_1)) then (if (l0_3.length : Int) = (wrap64 (a0_0 * a0_1)) then (if (l0_4.length : Int) = (wrap64 (a0_0 * a0_1)) then ((cK.f k l0_4 64 0 1).bind fun t120 => (aM.j0 k (wrap64 (a0_0 * a0_1)) (!t120) a0_0 a0_1 l0_2 l0_3 l0_4)) else (aM.j0 k (wrap64 (a0_0 * a0_1)) true a0_0 a0_1 l0_2 l0_3 l0_4)) else (aM.j0 k (wrap64 (a0_0 * a0_1)) true a0_0 a0_1 l0_2 l0_3 l0_4)) else (aM.j0 k (wrap64 (a0_0 * a0_1)) true a0_0 a0_1 l0_2 l0_3 l0_4)) else (aM.j0 k (wrap64 (a0_0 * a0_1)) true a0_0 a0_1 l0_2 l0_3 l0_4))
theorem aM.di : ∀ k, (∀ y0 y1 y2 y3 y4 y5 y6, LeO (aM.j0 k y0 y1 y2 y3 y4 y5 y6) (aM.j0 (k + 1) y0 y1 y2 y3 y4 y5 y6)) ∧ (∀ y0 y1 y2 y3, LeO (aM.l0 k y0 y1 y2 y3) (aM.l0 (k + 1) y0 y1 y2 y3))
 | 0 => ⟨fun _ _ _ _ _ _ _ r h => by simp [aM.j0] at h, fun _ _ _ _ r h => by simp [aM.l0] at h⟩
 | k + 1 => by
  obtain ⟨ih0, ih1⟩ := aM.di k
  refine ⟨?_, ?_⟩ <;> intros <;> (first | unfold aM.j0 | unfold aM.l0) <;> (repeat' first | (with_reducible first | exact ih0 .. | exact ih1 .. | exact dI.mono .. | exact cK.mono .. | exact bT.mono .. | exact LeO.refl .. | exact LeO.none .. | refine LeO.ite ?_ ?_ | refine LeO.bind ?_ (fun _ => ?_)))
theorem aM.mono : ∀ a0 a1 a2 a3 a4 k, LeO (aM.f k a0 a1 a2 a3 a4) (aM.f (k + 1) a0 a1 a2 a3 a4) := by
 intro a0 a1 a2 a3 a4 k
 obtain ⟨ih0, ih1⟩ := aM.di k
 unfold aM.f
 repeat' first | (with_reducible first | exact ih0 .. | exact ih1 .. | exact dI.mono .. | exact cK.mono .. | exact bT.mono .. | exact LeO.refl .. | exact LeO.none .. | refine LeO.ite ?_ ?_ | refine LeO.bind ?_ (fun _ => ?_))
def aM.T9 : Bool × List (List Nat × List Nat) := (true, [([], []), ([], []), ([0, 1], [0, 1]), ([2], [2]), ([], []), ([], []), ([], []), ([6], [6]), ([5, 7], [5, 7]), ([8], [8]), ([3, 4, 9], [3, 4, 9]), ([10], [10]), ([11, 10], [11]), ([12], [12]), ([12], [12]), ([13, 14, 12], [12, 13, 14]), ([12], [12]), ([12], [12]), ([16, 17, 12], [12, 16, 17]), ([18, 12], [12, 18]), ([15, 19, 12, 12], [12, 15, 19]), ([12, 20], [12, 20])])
def aM.B9 : List Nat := [0, 0, 3, 7, 0, 0, 0, 64, 224, 480, 1023, 2047, 4095, 8191, 8191, 32767, 8191, 8191, 204799, 466943, 1048575, 2097151]
theorem aM.Bp : ic .any (opsOf Tryz.f21 9) = aM.T9 := by kernel_rfl
theorem aM.yC : fZ aM.T9.2 aM.B9 = true := by kernel_rfl
theorem aM.calls (k : Nat) (a0_0 : Int) (a0_1 : Int) (B7 : Option Addr) (C0 : Nat) (l0_2 : List Int) (C1 : Option Addr) (C2 : Nat) (l0_3 : List Int) (C3 : Option Addr) (C4 : Nat) (l0_4 : List Int) (r : Bool) (w : World) (hr0_2 : Kd.C (Kd.int .i64) w B7 l0_2.length l0_2) (hc0_2 : l0_2.length ≤ C0) (hr0_3 : Kd.C (Kd.int .i64) w C1 l0_3.length l0_3) (hc0_3 : l0_3.length ≤ C2) (hr0_4 : Kd.C (Kd.int .i64) w C3 l0_4.length l0_4) (hc0_4 : l0_4.length ≤ C4) (h : aM.f k a0_0 a0_1 l0_2 l0_3 l0_4 = some r) :
  Calls Tryz.prog 21 #[.agg #[.int .i64 a0_0, .int .i64 a0_1, .slice B7 l0_2.length C0, .slice C1 l0_3.length C2, .slice C3 l0_4.length C4]] w fun e w' => e = .returned (.bool r) ∧ Below w.heap.size w w' := by
 have hu28 := Tryz.underlying28
 have F2 := a_ hr0_2
 have F3 := a_ hc0_2
 clear hr0_2 hc0_2
 have F4 := a_ hr0_3
 have H2 := a_ hc0_3
 clear hr0_3 hc0_3
 have HR0_4 := a_ hr0_4
 have F5 := a_ hc0_4
 clear hr0_4 hc0_4
 have HB := a_ (Below.refl w.heap.size w)
 have H : ((dE.f a0_0 a0_1).bind fun F6 => (if F6 = true then (if (l0_2.length : Int) = (wrap64 (a0_0 * a0_1)) then (if (l0_3.length : Int) = (wrap64 (a0_0 * a0_1)) then (if (l0_4.length : Int) = (wrap64 (a0_0 * a0_1)) then ((cK.f k l0_4 64 0 1).bind fun C9 => (aM.j0 k (wrap64 (a0_0 * a0_1)) (!C9) a0_0 a0_1 l0_2 l0_3 l0_4)) else (aM.j0 k (wrap64 (a0_0 * a0_1)) true a0_0 a0_1 l0_2 l0_3 l0_4)) else (aM.j0 k (wrap64 (a0_0 * a0_1)) true a0_0 a0_1 l0_2 l0_3 l0_4)) else (aM.j0 k (wrap64 (a0_0 * a0_1)) true a0_0 a0_1 l0_2 l0_3 l0_4)) else (aM.j0 k (wrap64 (a0_0 * a0_1)) true a0_0 a0_1 l0_2 l0_3 l0_4))) = some r := h
 clear h
 have M6 := a_ H
 clear H
 go_enter Tryz.func21, Tryz.ntmps21
 go_upto_region 2 with (first | ((with_reducible refine bf (N := 1) rfl ?_); (try (refine wm (by rfl) ?_; dsimp only)); refine cz ?hg (N := 1) ?hd (cs := #[.int .i64 a0_0, .int .i64 a0_1, .slice B7 l0_2.length C0, .slice C1 l0_3.length C2, .slice C3 l0_4.length C4]) (t := 28) ?hr ?_; (case hd => rfl); (case hg => rfl); (case hr => first | (go_simp; done) | (go_simp; rfl)); intro A8 hg w3 hbox hb; have BK118 := a_ (hbox); have O3 := a_ ((fG : w.heap.size ≤ A8)); have GE118 := a_ ((fG : w.heap.size ≤ A8)); replace HB := df bO hb; clear hb hbox hg; obtain ⟨F7, F8, F9, G0, G1, G2, G3, G4, G5, G6⟩ := eH (w := w3) BK118.out))
 (try simp only [Act.put, List.setIfInBounds_toArray, List.set_cons_zero, List.set_cons_succ])
 go_cut [44] (fun v44 wc => ∃ (kq : Nat) (C7 : Bool), v44 = .bool C7 ∧ ah (aM.j0 kq (wrap64 (a0_0 * a0_1)) C7 a0_0 a0_1 l0_2 l0_3 l0_4 = some r) ∧ ah (kq ≤ k) ∧ ah (wc.heap[A8]? = some (.cells #[.int .i64 a0_0, .int .i64 a0_1, (.slice B7 l0_2.length C0), (.slice C1 l0_3.length C2), (.slice C3 l0_4.length C4)] 28 (0, 0))) ∧ ah (Below w.heap.size w wc))
 case first =>
  have H := M6.out
  clear M6
  replace H := bo_ H; obtain ⟨F6, A5, H⟩ := H; (try dsimp only at H)
  by_cases c6 : F6 = true
  ·subst c6
   have H1 : (if (l0_2.length : Int) = (wrap64 (a0_0 * a0_1)) then (if (l0_3.length : Int) = (wrap64 (a0_0 * a0_1)) then (if (l0_4.length : Int) = (wrap64 (a0_0 * a0_1)) then ((cK.f k l0_4 64 0 1).bind fun C9 => (aM.j0 k (wrap64 (a0_0 * a0_1)) (!C9) a0_0 a0_1 l0_2 l0_3 l0_4)) else (aM.j0 k (wrap64 (a0_0 * a0_1)) true a0_0 a0_1 l0_2 l0_3 l0_4)) else (aM.j0 k (wrap64 (a0_0 * a0_1)) true a0_0 a0_1 l0_2 l0_3 l0_4)) else (aM.j0 k (wrap64 (a0_0 * a0_1)) true a0_0 a0_1 l0_2 l0_3 l0_4)) = some r := by rw [if_pos rfl] at H; exact H
   clear H
   have H := H1
   clear H1
   by_cases c7 : (l0_2.length : Int) = (wrap64 (a0_0 * a0_1))
   ·rw [if_pos c7] at H
    have D1 : ((l0_2.length : Int) == (wrap64 (a0_0 * a0_1))) = true := beq_iff_eq.mpr c7
    have M7 : ((l0_2.length : Int) != (wrap64 (a0_0 * a0_1))) = false := bne_eq_false_iff_eq.mpr c7
    clear c7
    (first | rw [D1] | (simp only [eU, gX]; rw [D1]) | skip)
    by_cases c8 : (l0_3.length : Int) = (wrap64 (a0_0 * a0_1))
    ·rw [if_pos c8] at H
     have M8 : ((l0_3.length : Int) == (wrap64 (a0_0 * a0_1))) = true := beq_iff_eq.mpr c8
     have M9 : ((l0_3.length : Int) != (wrap64 (a0_0 * a0_1))) = false := bne_eq_false_iff_eq.mpr c8
     clear c8
     by_cases c9 : (l0_4.length : Int) = (wrap64 (a0_0 * a0_1))
     ·rw [if_pos c9] at H
      have N0 : ((l0_4.length : Int) == (wrap64 (a0_0 * a0_1))) = true := beq_iff_eq.mpr c9
      have N1 : ((l0_4.length : Int) != (wrap64 (a0_0 * a0_1))) = false := bne_eq_false_iff_eq.mpr c9
      clear c9
      replace H := bo_ H; obtain ⟨C9, P0, H⟩ := H; (try dsimp only at H)
      have H' := a_ H
      clear H
      obtain ⟨H6, H7, H8, H9, I0, I1, I2, I3, I4, I5⟩ := eH (w := w3) BK118.out
      go_wp2_with (first | ((with_reducible refine av (f := 66) rfl ?_); refine bI (some 16) rfl rfl Tryz.func66 (by kernel_rfl) rfl #[.int .i64 a0_0, .int .i64 a0_1] rfl dL ?_; (with_reducible refine (dE.calls a0_0 a0_1 true _ A5.out).mono ?_); rintro e w' ⟨rfl, ⟨nd, rfl⟩⟩; refine ⟨_, rfl, ?_⟩) | (go_at_call 67; (with_reducible refine (cK.calls k _ _ l0_4 64 0 1 C9 _ ?side1 ?side2 P0.out).mono ?_); (case side1 => exact (by (repeat (first | exact (Kd.bE HR0_4.out mg) | (with_reducible refine Kd.dH ?_ _) | (with_reducible refine Kd.dJ ?_ _) | (with_reducible refine Kd.dX ?_))); first | done | fail)); (case side2 => exact F5.out); rintro e w' ⟨rfl, ⟨nd, rfl⟩⟩))
      go_meet
      case rel => exact ⟨_, (!C9), bZ, H', ⟨jD⟩, ⟨wP⟩, ⟨mg⟩⟩
     rw [if_neg c9] at H
     have N0 : ((l0_4.length : Int) == (wrap64 (a0_0 * a0_1))) = false := beq_eq_false_iff_ne.mpr c9
     have N1 : ((l0_4.length : Int) != (wrap64 (a0_0 * a0_1))) = true := bne_iff_ne.mpr c9
     have H' := a_ H
     clear H
     obtain ⟨I6, I7, I8, I9, J0, J1, J2, J3, J4, J5⟩ := eH (w := w3) BK118.out
     go_wp2_with (first | ((with_reducible refine av (f := 66) rfl ?_); refine bI (some 16) rfl rfl Tryz.func66 (by kernel_rfl) rfl #[.int .i64 a0_0, .int .i64 a0_1] rfl dL ?_; (with_reducible refine (dE.calls a0_0 a0_1 true _ A5.out).mono ?_); rintro e w' ⟨rfl, ⟨nd, rfl⟩⟩; refine ⟨_, rfl, ?_⟩))
     go_meet
     case rel => exact ⟨_, (true), bZ, H', ⟨jD⟩, ⟨wP⟩, ⟨mg⟩⟩
    rw [if_neg c8] at H
    have M8 : ((l0_3.length : Int) == (wrap64 (a0_0 * a0_1))) = false := beq_eq_false_iff_ne.mpr c8
    have M9 : ((l0_3.length : Int) != (wrap64 (a0_0 * a0_1))) = true := bne_iff_ne.mpr c8
    have H' := a_ H
    clear H
    obtain ⟨J6, J7, J8, J9, K0, K1, K2, K3, K4, K5⟩ := eH (w := w3) BK118.out
    go_wp2_with (first | ((with_reducible refine av (f := 66) rfl ?_); refine bI (some 16) rfl rfl Tryz.func66 (by kernel_rfl) rfl #[.int .i64 a0_0, .int .i64 a0_1] rfl dL ?_; (with_reducible refine (dE.calls a0_0 a0_1 true _ A5.out).mono ?_); rintro e w' ⟨rfl, ⟨nd, rfl⟩⟩; refine ⟨_, rfl, ?_⟩))
    go_meet
    case rel => exact ⟨_, (true), bZ, H', ⟨jD⟩, ⟨wP⟩, ⟨mg⟩⟩
   rw [if_neg c7] at H
   have D1 : ((l0_2.length : Int) == (wrap64 (a0_0 * a0_1))) = false := beq_eq_false_iff_ne.mpr c7
   have M7 : ((l0_2.length : Int) != (wrap64 (a0_0 * a0_1))) = true := bne_iff_ne.mpr c7
   (first | rw [D1] | (simp only [eU, gX]; rw [D1]) | skip)
   have H' := a_ H
   clear H
   obtain ⟨K6, K7, K8, K9, L0, L1, L2, L3, L4, L5⟩ := eH (w := w3) BK118.out
   go_wp2_with (first | ((with_reducible refine av (f := 66) rfl ?_); refine bI (some 16) rfl rfl Tryz.func66 (by kernel_rfl) rfl #[.int .i64 a0_0, .int .i64 a0_1] rfl dL ?_; (with_reducible refine (dE.calls a0_0 a0_1 true _ A5.out).mono ?_); rintro e w' ⟨rfl, ⟨nd, rfl⟩⟩; refine ⟨_, rfl, ?_⟩))
   go_meet
   case rel => exact ⟨_, (true), bZ, H', ⟨jD⟩, ⟨wP⟩, ⟨mg⟩⟩
  ·replace c6 := Bool.eq_false_iff.mpr c6
   subst c6
   have H1 : (aM.j0 k (wrap64 (a0_0 * a0_1)) true a0_0 a0_1 l0_2 l0_3 l0_4) = some r := by rw [if_neg (show ¬ (false = true) by decide)] at H; exact H
   clear H
   have H := H1
   clear H1
   have H' := a_ H
   clear H
   obtain ⟨L6, L7, L8, L9, M0, M1, M2, M3, M4, M5⟩ := eH (w := w3) BK118.out
   go_wp2_with (first | ((with_reducible refine av (f := 66) rfl ?_); refine bI (some 16) rfl rfl Tryz.func66 (by kernel_rfl) rfl #[.int .i64 a0_0, .int .i64 a0_1] rfl dL ?_; (with_reducible refine (dE.calls a0_0 a0_1 false _ A5.out).mono ?_); rintro e w' ⟨rfl, ⟨nd, rfl⟩⟩; refine ⟨_, rfl, ?_⟩))
   go_meet
   case rel => exact ⟨_, (true), bZ, H', ⟨jD⟩, ⟨wP⟩, ⟨mg⟩⟩
 case rest =>
  clear M6; try clear F7 F8 F9 G0 G1; try clear G2 G3 G4 G5 G6
  obtain ⟨kq, C7, rfl, HA, O4, BK118, HB⟩ := hcut
  cases kq with
  | zero => exact absurd HA.out (by simp [aM.j0])
  | succ G7 =>
   have H := HA.out
   clear HA
   simp only [aM.j0] at H
   by_cases c16 : C7 = true
   ·subst c16
    have H1 : (some false) = some r := by rw [if_pos rfl] at H; exact H
    clear H
    have H := H1
    clear H1
    obtain rfl := Option.some.inj H
    go_wp2
    go_ret
    exact ⟨fO, mg⟩
   ·replace c16 := Bool.eq_false_iff.mpr c16
    subst c16
    have H1 : ((jy.f l0_2).bind fun D0 => (if D0.length + l0_3.length < 17592186044416 then ((bT.f G7 a0_0 a0_1 l0_2 l0_3 l0_4).bind fun A6 => (aM.l0 G7 (wrap64 (a0_0 * a0_1)) (D0 ++ l0_3) A6 0)) else (none))) = some r := by rw [if_neg (show ¬ (false = true) by decide)] at H; exact H
    clear H
    have H := H1
    clear H1
    replace H := bo_ H; obtain ⟨D0, P1, H⟩ := H; (try dsimp only at H)
    replace H := ig_ H; obtain ⟨c18, H⟩ := H
    have LMc18 := a_ c18
    clear c18
    obtain ⟨A2, D2⟩ : ∃ y_ : List Int, y_ = (D0 ++ l0_3) := ⟨_, rfl⟩
    replace H : ((bT.f G7 a0_0 a0_1 l0_2 l0_3 l0_4).bind fun A6 => (aM.l0 G7 (wrap64 (a0_0 * a0_1)) A2 A6 0)) = some r := rh_ D2 H
    have H3 := a_ D2
    clear D2
    replace H := bo_ H; obtain ⟨A6, P2, H⟩ := H; (try dsimp only at H)
    have H' := a_ H
    clear H
    try go_wp2
    replace BK118 := a_ (bU BK118.out)
    replace HB := a_ (aU HB.out)
    refine gQ (n := 7) (S := fun w' => w'.cell? ⟨A8, 0, none⟩ = some (.int .i64 a0_0) ∧ w'.cell? ⟨A8, 1, none⟩ = some (.int .i64 a0_1) ∧ w'.cell? ⟨A8, 2, none⟩ = some (.slice B7 l0_2.length C0) ∧ w'.cell? ⟨A8, 3, none⟩ = some (.slice C1 l0_3.length C2) ∧ w'.cell? ⟨A8, 4, none⟩ = some (.slice C3 l0_4.length C4)) (ds := []) #[false, false, false, false, false, false, false] (by kernel_rfl) rfl rfl ⟨(ai BK118.out 0).trans rfl, (ai BK118.out 1).trans rfl, (ai BK118.out 2).trans rfl, (ai BK118.out 3).trans rfl, (ai BK118.out 4).trans rfl⟩ (fun hHeld => ?_)
    generalize wc.drew = Q2 at BK118 HB hHeld ⊢
    refine pv_ 0 (some 45) ?_ (hc := (by kernel_rfl))
    refine pv_ 3 (some 48) ?_ (hc := (by kernel_rfl))
    refine xM (i := 1) (N := some 46) hHeld ?_ (hc := (by kernel_rfl))
    refine xM (i := 4) (N := some 49) hHeld ?_ (hc := (by kernel_rfl))
    refine on_ (i := 2) (N := some 47) (fun K hK => ?_) (hc := (by kernel_rfl))
    refine jq Tryz.func59 (by kernel_rfl) rfl #[.slice B7 l0_2.length C0] (by rfl) rfl rfl dL ?_
    with_reducible refine (jy.calls _ _ l0_2 D0 _ ?side1 ?side2 P1.out).mono ?_
    (case side1 => exact kc_ (Kd.bE F2.out HB.out))
    (case side2 => exact F3.out)
    rintro e Q3 ⟨N2, rfl, ho0, hb⟩
    refine ⟨_, rfl, ?_⟩
    have D3 := a_ (Kd.bu ho0 (af mg))
    replace BK118 := bb_ A8 BK118 hb
    replace HB := df mg hb
    (try clear hb)
    (try clear hb2)
    (try clear hk)
    (try clear hi)
    (try clear ho0)
    refine hK.out _ _ ⟨(ai BK118.out 0).trans rfl, (ai BK118.out 1).trans rfl, (ai BK118.out 2).trans rfl, (ai BK118.out 3).trans rfl, (ai BK118.out 4).trans rfl⟩ (fun hHeld => ?_)
    clear hK K
    refine nm_ ?_
    refine on_ (i := 5) (N := some 50) (fun K hK => ?_) (hc := (by kernel_rfl))
    refine Kd.iD (Kd.int .i64) (w0 := w) w.heap.size (by rfl) (.tmp 47) (.tmp 49) 22 2 (.int .i64 0) 8 rfl Tryz.underlying22 jc rfl (by decide) (by omega) N2 D0 l0_3 _ _ _ (fun _ => True) (fun _ => False) rfl rfl ?aO ?aR (fun _ _ h => h) (fun _ h => h.elim) ?aF ?aB ?aS ?aL ?_
    (case aR => exact kc_ (Kd.bE F4.out HB.out))
    (case aB => exact mg)
    (case aF => exact (fun _ _ => trivial))
    (case aO => exact (ra_ D3.out))
    (case aS => exact (af mg))
    (case aL => have := LMc18.out; omega)
    intro N3 P3 ho hb hg hat
    rw [← H3.out] at ho
    replace BK118 := a_ (dA (g := A8) (rb_ BK118.out) hg (Kd.gp D3.out BK118.out (by decide)))
    replace HB := a_ (hb)
    have D4 := a_ (ho)
    clear D3
    clear ho hb hg hat
    refine hK.out _ _ ⟨(ai BK118.out 0).trans rfl, (ai BK118.out 1).trans rfl, (ai BK118.out 2).trans rfl, (ai BK118.out 3).trans rfl, (ai BK118.out 4).trans rfl⟩ (fun hHeld => ?_)
    clear hK K
    refine nm_ ?_
    refine pv_ 6 (some 4) ?_ (hc := (by kernel_rfl))
    refine ja (by kernel_rfl) ?_
    obtain ⟨E0, E1, E2, E3, E4, E5, E6, E7, E8, E9⟩ := eH (w := P3) BK118.out
    try go_wp2_with (first | ((with_reducible refine av (f := 68) rfl ?_); refine bI (some 52) rfl rfl Tryz.func68 (by kernel_rfl) rfl #[.agg #[.int .i64 a0_0, .int .i64 a0_1, .slice B7 l0_2.length C0, .slice C1 l0_3.length C2, .slice C3 l0_4.length C4]] rfl dL ?_; (with_reducible refine (bT.calls G7 a0_0 a0_1 _ _ l0_2 _ _ l0_3 _ _ l0_4 A6 _ ?side1 ?side2 ?side3 ?side4 ?side5 ?side6 P2.out).mono ?_); (case side1 => exact kc_ (Kd.bE F2.out HB.out)); (case side2 => exact F3.out); (case side3 => exact kc_ (Kd.bE F4.out HB.out)); (case side4 => exact H2.out); (case side5 => exact kc_ (Kd.bE HR0_4.out HB.out)); (case side6 => exact F5.out); rintro e Q4 ⟨rfl, hb⟩; refine ⟨_, rfl, ?_⟩; replace D4 := rl_ D4 hb; replace BK118 := bb_ A8 BK118 hb; replace HB := df mg hb; (try clear hb)))
    go_loopg [6] G7 (fun kq v6 w' => ∃ (A1 : Int), v6 = .int .i64 A1 ∧ ah (aM.l0 kq (wrap64 (a0_0 * a0_1)) A2 A6 A1 = some r) ∧ ah (kq ≤ G7) ∧ ah (Kd.R (Kd.int .i64) 2 w' w.heap.size (fun _ => True) N3 A2) ∧ ah (w'.heap[A8]? = some (.cells #[.int .i64 a0_0, .int .i64 a0_1, (.slice B7 l0_2.length C0), (.slice C1 l0_3.length C2), (.slice C3 l0_4.length C4)] 28 (0, 0))) ∧ ah (Below w.heap.size w w'))
    case atStart => exact ⟨(0), bZ, H', ⟨Nat.le_refl _⟩, ⟨by (with_reducible repeat (first | apply Kd.aC | apply Kd.aD | apply Kd.az)); exact D4.out⟩, ⟨wP⟩, ⟨mg⟩⟩
    case round =>
     clear H'
     try clear c16; try clear E0 E1 E2 E3 E4; try clear E5 E6 E7 E8 E9
     obtain ⟨A1, rfl, HA, HK2, A3, BK118, HB⟩ := hrel
     cases gk with
     | zero => exact absurd HA.out (by simp [aM.l0])
     | succ k2 =>
      have H := HA.out
      clear HA
      simp only [aM.l0] at H
      by_cases c25 : A1 < (A2.length : Int)
      ·rw [if_pos c25] at H
       have H4 := decide_eq_true c25
       clear c25
       replace H := ig_ H; obtain ⟨c26, H⟩ := H
       have O5 := decide_eq_true c26
       clear c26
       replace H := bo_ H; obtain ⟨N4, N5, H⟩ := H; (try dsimp only at H)
       by_cases c28 : N4 = true
       ·subst c28
        have H1 : (if A1 ≤ (A2.length : Int) then ((dI.f k2 (A2.take (A1 : Int).toNat) (rd A2 A1)).bind fun D5 => (if D5 = true then (some false) else (aM.l0 k2 (wrap64 (a0_0 * a0_1)) A2 A6 (wrap64 (A1 + 1))))) else (none)) = some r := by rw [if_pos rfl] at H; exact H
        clear H
        have H := H1
        clear H1
        have O6 := eq_true (of_decide_eq_true aG : 0 ≤ A1)
        replace H := ig_ H; obtain ⟨c30, H⟩ := H
        have O7 := eq_true c30
        have O8 := decide_eq_true c30
        clear c30
        obtain ⟨B4, D6⟩ : ∃ y_ : List Int, y_ = (A2.take (A1 : Int).toNat) := ⟨_, rfl⟩
        replace H : ((dI.f k2 B4 (rd A2 A1)).bind fun D5 => (if D5 = true then (some false) else (aM.l0 k2 (wrap64 (a0_0 * a0_1)) A2 A6 (wrap64 (A1 + 1))))) = some r := rh_ D6 H
        have C8 := a_ D6
        clear D6
        replace H := bo_ H; obtain ⟨D5, O9, H⟩ := H; (try dsimp only at H)
        by_cases c32 : D5 = true
        ·subst c32
         have H1 : (some false) = some r := by rw [if_pos rfl] at H; exact H
         clear H
         have H := H1
         clear H1
         obtain rfl := Option.some.inj H
         obtain ⟨P4, F0, N6⟩ := Kd.bg A3.out
         subst N6
         try go_wp2
         replace A3 := a_ (Kd.az A3.out)
         replace BK118 := a_ (bU BK118.out)
         replace HB := a_ (aU HB.out)
         have B0 : 0 ≤ (A1 : Int) := of_decide_eq_true aG
         have B3 : A1 < (A2.length : Int) := of_decide_eq_true aG
         obtain ⟨A4, D7, A7⟩ := Kd.dM (Kd.aH A3.out).2.2 A1 B0 B3
         cases D7
         replace B0 := eq_true B0
         replace B3 := eq_true B3
         have C5 : 0 ≤ (A1 : Int) := of_decide_eq_true aG
         have C6 : A1 < (A2.length : Int) := of_decide_eq_true aG
         obtain ⟨D8, G8, A9⟩ := Kd.dM (Kd.aH A3.out).2.2 A1 C5 C6
         obtain rfl : A4 = D8 := (by injection G8)
         replace C5 := eq_true C5
         replace C6 := eq_true C6
         refine gQ (n := 22) (S := fun w' => w'.cell? (A4.add (A1).toNat) = some (.int .i64 (rd A2 A1)) ∧ w'.cell? (A4.add (A1).toNat) = some (.int .i64 (rd A2 A1))) (ds := []) #[false, false, false, false, false, false, false, false, false, false, false, false, false, false, false, false, false, false, false, false, false, false] (by kernel_rfl) rfl rfl ⟨A7, A9⟩ (fun hHeld => ?_); refine fI aM.Bp aM.yC (fun HT_ HW_ => ?_)
         generalize wr.drew = Q5 at A3 BK118 HB A7 A9 hHeld ⊢
         refine pv_ 0 (some 59) ?_
         refine pv_ 1 (some 60) ?_
         refine pv_ 2 (some 61) ?_
         refine pv_ 4 (some 63) ?_
         refine pv_ 5 (some 64) ?_
         refine pv_ 6 (some 65) ?_
         refine pv_ 7 (some 66) ?_
         refine pv_ 8 (some 67) ?_
         refine pv_ 9 (some 68) ?_
         refine nG (i := 3) (N := some 62) hHeld ?_
         refine on_ (i := 10) (N := some 69) (fun K hK => ?_)
         refine jq Tryz.func57 (by kernel_rfl) rfl #[.int .i64 (rd A2 A1), .int .i64 A6, .int .i64 (wrap64 ((wrap64 (A6 + (wrap64 (2 * (wrap64 (a0_0 * a0_1)))))) - 1))] (by rfl) rfl rfl dL ?_
         with_reducible refine (iF.calls (rd A2 A1) A6 (wrap64 ((wrap64 (A6 + (wrap64 (2 * (wrap64 (a0_0 * a0_1)))))) - 1)) true _ N5.out).mono ?_
         rintro e w' ⟨rfl, ⟨nd, rfl⟩⟩
         refine ⟨_, rfl, ?_⟩
         have N7 : (A1 : Int) ≤ ((A2.length : Int) : Int) := of_decide_eq_true aG
         obtain ⟨i035, hi035, _, hsz35, _⟩ := info_parts jc
         have hroom35 : A2.length ≤ F0 := (Kd.aH A3.out).2.1
         have hC35 : Kd.C (Kd.int .i64) _ (some A4) A2.length A2 := (Kd.aH A3.out).2.2
         have hcut35 := uj (P := Tryz.prog) 22 2 .i64 Tryz.underlying22 hi035 (some A4) A2.length F0 A1 (of_decide_eq_true aG) N7 hroom35
         have hr35 := Kd.tT (m := (A1 : Int).toNat) hC35 (by omega)
         have G9 : B4.length = (A1 : Int).toNat := (by rw [C8.out, List.length_take]; omega)
         rw [← C8.out] at hr35
         rw [← G9] at hcut35
         have HR133 := a_ hr35
         have D9 := a_ (show B4.length ≤ F0 from by omega)
         clear hr35 hC35 hroom35 hi035 hsz35
         have KY35 := a_ G9
         clear G9
         have KL35 := a_ (show (A1 : Int).toNat ≤ A2.length from by omega)
         replace N7 := eq_true N7
         refine hK.out _ _ ⟨hHeld.1, hHeld.2⟩ (fun hHeld => ?_)
         clear hK K
         refine nm_ ?_
         refine pv_ 11 (some 70) ?_
         refine pv_ 12 (some 71) ?_
         refine pv_ 13 (some 72) ?_
         refine pv_ 14 (some 73) ?_
         refine pv_ 15 (some 74) ?_
         refine pv_ 16 (some 75) ?_
         refine pv_ 17 (some 76) ?_
         refine pv_ 18 (some 77) ?_
         refine nG (i := 19) (N := some 78) hHeld ?_
         refine on_ (i := 20) (N := some 79) (fun K hK => ?_)
         refine jq Tryz.func69 (by kernel_rfl) rfl #[.slice (some A4) B4.length F0, .int .i64 (rd A2 A1)] (by rfl) rfl rfl dL ?_
         with_reducible refine (dI.calls k2 _ _ B4 (rd A2 A1) true _ ?side1 ?side2 O9.out).mono ?_
         (case side1 => exact (by (repeat (first | exact (by repeat (first | (with_reducible exact HR133.out) | (with_reducible refine Kd.dH ?_ _) | (with_reducible refine Kd.dJ ?_ _) | (with_reducible refine Kd.dX ?_) | exact HR133.out)) | (with_reducible refine Kd.dH ?_ _) | (with_reducible refine Kd.dJ ?_ _) | (with_reducible refine Kd.dX ?_))); first | done | fail))
         (case side2 => exact D9.out)
         rintro e w' ⟨rfl, ⟨nd, rfl⟩⟩
         refine ⟨_, rfl, ?_⟩
         refine hK.out _ _ ⟨hHeld.1, hHeld.2⟩ (fun hHeld => ?_)
         clear hK K
         refine nm_ ?_
         refine pv_ 21 (some 80) ?_
         refine ja (gU HT_.out (by kernel_rfl)) ?_
         try go_wp2
         go_ret
         exact ⟨fO, mg⟩
        ·replace c32 := Bool.eq_false_iff.mpr c32
         subst c32
         have H1 : (aM.l0 k2 (wrap64 (a0_0 * a0_1)) A2 A6 (wrap64 (A1 + 1))) = some r := by rw [if_neg (show ¬ (false = true) by decide)] at H; exact H
         clear H
         have H := H1
         clear H1
         have H' := a_ H
         clear H
         obtain ⟨P5, F1, N8⟩ := Kd.bg A3.out
         subst N8
         try go_wp2
         replace A3 := a_ (Kd.az A3.out)
         replace BK118 := a_ (bU BK118.out)
         replace HB := a_ (aU HB.out)
         have B0 : 0 ≤ (A1 : Int) := of_decide_eq_true aG
         have B3 : A1 < (A2.length : Int) := of_decide_eq_true aG
         obtain ⟨A4, D7, A7⟩ := Kd.dM (Kd.aH A3.out).2.2 A1 B0 B3
         cases D7
         replace B0 := eq_true B0
         replace B3 := eq_true B3
         have C5 : 0 ≤ (A1 : Int) := of_decide_eq_true aG
         have C6 : A1 < (A2.length : Int) := of_decide_eq_true aG
         obtain ⟨D8, G8, A9⟩ := Kd.dM (Kd.aH A3.out).2.2 A1 C5 C6
         obtain rfl : A4 = D8 := (by injection G8)
         replace C5 := eq_true C5
         replace C6 := eq_true C6
         refine gQ (n := 22) (S := fun w' => w'.cell? (A4.add (A1).toNat) = some (.int .i64 (rd A2 A1)) ∧ w'.cell? (A4.add (A1).toNat) = some (.int .i64 (rd A2 A1))) (ds := []) #[false, false, false, false, false, false, false, false, false, false, false, false, false, false, false, false, false, false, false, false, false, false] (by kernel_rfl) rfl rfl ⟨A7, A9⟩ (fun hHeld => ?_); refine fI aM.Bp aM.yC (fun HT_ HW_ => ?_)
         generalize wr.drew = Q6 at A3 BK118 HB A7 A9 hHeld ⊢
         refine pv_ 0 (some 59) ?_
         refine pv_ 1 (some 60) ?_
         refine pv_ 2 (some 61) ?_
         refine pv_ 4 (some 63) ?_
         refine pv_ 5 (some 64) ?_
         refine pv_ 6 (some 65) ?_
         refine pv_ 7 (some 66) ?_
         refine pv_ 8 (some 67) ?_
         refine pv_ 9 (some 68) ?_
         refine nG (i := 3) (N := some 62) hHeld ?_
         refine on_ (i := 10) (N := some 69) (fun K hK => ?_)
         refine jq Tryz.func57 (by kernel_rfl) rfl #[.int .i64 (rd A2 A1), .int .i64 A6, .int .i64 (wrap64 ((wrap64 (A6 + (wrap64 (2 * (wrap64 (a0_0 * a0_1)))))) - 1))] (by rfl) rfl rfl dL ?_
         with_reducible refine (iF.calls (rd A2 A1) A6 (wrap64 ((wrap64 (A6 + (wrap64 (2 * (wrap64 (a0_0 * a0_1)))))) - 1)) true _ N5.out).mono ?_
         rintro e w' ⟨rfl, ⟨nd, rfl⟩⟩
         refine ⟨_, rfl, ?_⟩
         have N9 : (A1 : Int) ≤ ((A2.length : Int) : Int) := of_decide_eq_true aG
         obtain ⟨i038, hi038, _, hsz38, _⟩ := info_parts jc
         have hroom38 : A2.length ≤ F1 := (Kd.aH A3.out).2.1
         have hC38 : Kd.C (Kd.int .i64) _ (some A4) A2.length A2 := (Kd.aH A3.out).2.2
         have hcut38 := uj (P := Tryz.prog) 22 2 .i64 Tryz.underlying22 hi038 (some A4) A2.length F1 A1 (of_decide_eq_true aG) N9 hroom38
         have hr38 := Kd.tT (m := (A1 : Int).toNat) hC38 (by omega)
         have H0 : B4.length = (A1 : Int).toNat := (by rw [C8.out, List.length_take]; omega)
         rw [← C8.out] at hr38
         rw [← H0] at hcut38
         have HR133 := a_ hr38
         have D9 := a_ (show B4.length ≤ F1 from by omega)
         clear hr38 hC38 hroom38 hi038 hsz38
         have KY38 := a_ H0
         clear H0
         have KL38 := a_ (show (A1 : Int).toNat ≤ A2.length from by omega)
         replace N9 := eq_true N9
         refine hK.out _ _ ⟨hHeld.1, hHeld.2⟩ (fun hHeld => ?_)
         clear hK K
         refine nm_ ?_
         refine pv_ 11 (some 70) ?_
         refine pv_ 12 (some 71) ?_
         refine pv_ 13 (some 72) ?_
         refine pv_ 14 (some 73) ?_
         refine pv_ 15 (some 74) ?_
         refine pv_ 16 (some 75) ?_
         refine pv_ 17 (some 76) ?_
         refine pv_ 18 (some 77) ?_
         refine nG (i := 19) (N := some 78) hHeld ?_
         refine on_ (i := 20) (N := some 79) (fun K hK => ?_)
         refine jq Tryz.func69 (by kernel_rfl) rfl #[.slice (some A4) B4.length F1, .int .i64 (rd A2 A1)] (by rfl) rfl rfl dL ?_
         with_reducible refine (dI.calls k2 _ _ B4 (rd A2 A1) false _ ?side1 ?side2 O9.out).mono ?_
         (case side1 => exact (by (repeat (first | exact (by repeat (first | (with_reducible exact HR133.out) | (with_reducible refine Kd.dH ?_ _) | (with_reducible refine Kd.dJ ?_ _) | (with_reducible refine Kd.dX ?_) | exact HR133.out)) | (with_reducible refine Kd.dH ?_ _) | (with_reducible refine Kd.dJ ?_ _) | (with_reducible refine Kd.dX ?_))); first | done | fail))
         (case side2 => exact D9.out)
         rintro e w' ⟨rfl, ⟨nd, rfl⟩⟩
         refine ⟨_, rfl, ?_⟩
         refine hK.out _ _ ⟨hHeld.1, hHeld.2⟩ (fun hHeld => ?_)
         clear hK K
         refine nm_ ?_
         refine pv_ 21 (some 80) ?_
         refine ja (gU HT_.out (by kernel_rfl)) ?_
         try go_wp2
         go_roundg k2
         case measure => have := O4.out; have := HK2.out; omega
         case rel => exact ⟨(wrap64 (A1 + 1)), bZ, H', ⟨by have := O4.out; have := HK2.out; omega⟩, ⟨by (with_reducible repeat (first | apply Kd.aC | apply Kd.aD | apply Kd.az)); exact A3.out⟩, ⟨wP⟩, ⟨mg⟩⟩
       ·replace c28 := Bool.eq_false_iff.mpr c28
        subst c28
        have H1 : (some false) = some r := by rw [if_neg (show ¬ (false = true) by decide)] at H; exact H
        clear H
        have H := H1
        clear H1
        obtain rfl := Option.some.inj H
        obtain ⟨P6, P7, O0⟩ := Kd.bg A3.out
        subst O0
        try go_wp2
        replace A3 := a_ (Kd.az A3.out)
        replace BK118 := a_ (bU BK118.out)
        replace HB := a_ (aU HB.out)
        have B0 : 0 ≤ (A1 : Int) := of_decide_eq_true aG
        have B3 : A1 < (A2.length : Int) := of_decide_eq_true aG
        obtain ⟨A4, D7, A7⟩ := Kd.dM (Kd.aH A3.out).2.2 A1 B0 B3
        cases D7
        replace B0 := eq_true B0
        replace B3 := eq_true B3
        refine gQ (n := 22) (S := fun w' => w'.cell? (A4.add (A1).toNat) = some (.int .i64 (rd A2 A1))) (ds := []) #[false, false, false, false, false, false, false, false, false, false, false, false, false, false, false, false, false, false, false, false, false, false] (by kernel_rfl) rfl rfl (A7) (fun hHeld => ?_); refine fI aM.Bp aM.yC (fun HT_ HW_ => ?_)
        generalize wr.drew = Q7 at A3 BK118 HB A7 hHeld ⊢
        refine pv_ 0 (some 59) ?_
        refine pv_ 1 (some 60) ?_
        refine pv_ 2 (some 61) ?_
        refine pv_ 4 (some 63) ?_
        refine pv_ 5 (some 64) ?_
        refine pv_ 6 (some 65) ?_
        refine pv_ 7 (some 66) ?_
        refine pv_ 8 (some 67) ?_
        refine pv_ 9 (some 68) ?_
        refine qg (i := 3) (N := some 62) (v := ?_) (a' := ?_) #[true, true, true, true, true, true, true, true, true, true, false, false, false, false, false, false, false, false, false, false, false, false] rfl rfl (mJ HT_.out HW_.out (by kernel_rfl)) (fun _ _ _ h => h) (Or.inl ⟨by rfl, ?_⟩) hHeld ?_ ?_
        rotate_left
        ·intro w' s0
         go_simp
         with_reducible rfl
        rotate_left
        ·simp only [Act.put, List.setIfInBounds_toArray, List.set_cons_zero, List.set_cons_succ, eU, gX]
         rfl
        refine on_ (i := 10) (N := some 69) (fun K hK => ?_)
        refine jq Tryz.func57 (by kernel_rfl) rfl #[.int .i64 (rd A2 A1), .int .i64 A6, .int .i64 (wrap64 ((wrap64 (A6 + (wrap64 (2 * (wrap64 (a0_0 * a0_1)))))) - 1))] (by rfl) rfl rfl dL ?_
        with_reducible refine (iF.calls (rd A2 A1) A6 (wrap64 ((wrap64 (A6 + (wrap64 (2 * (wrap64 (a0_0 * a0_1)))))) - 1)) false _ N5.out).mono ?_
        rintro e w' ⟨rfl, ⟨nd, rfl⟩⟩
        refine ⟨_, rfl, ?_⟩
        refine hK.out _ _ (hHeld) (fun hHeld => ?_)
        clear hK K
        refine nm_ ?_
        refine pv_ 11 (some 70) ?_
        refine pv_ 12 (some 71) ?_
        refine oJ (i := 13) (N := some 72) (v := undef) (a' := ?_) #[true, true, true, true, true, true, true, true, true, true, true, true, true, true, false, false, false, false, false, false, false, false] rfl rfl (lL HT_.out (by kernel_rfl)) (fun _ _ _ h => h) (Or.inr ⟨by rfl, rfl⟩) ?_ ?_
        rotate_left
        ·simp only [Act.put, List.setIfInBounds_toArray, List.set_cons_zero, List.set_cons_succ, eU, gX]
         rfl
        refine oJ (i := 14) (N := some 73) (v := undef) (a' := ?_) #[true, true, true, true, true, true, true, true, true, true, true, true, true, true, true, false, false, false, false, false, false, false] rfl rfl (lL HT_.out (by kernel_rfl)) (fun _ _ _ h => h) (Or.inr ⟨by rfl, rfl⟩) ?_ ?_
        rotate_left
        ·simp only [Act.put, List.setIfInBounds_toArray, List.set_cons_zero, List.set_cons_succ, eU, gX]
         rfl
        refine oJ (i := 15) (N := some 74) (v := undef) (a' := ?_) #[true, true, true, true, true, true, true, true, true, true, true, true, true, true, true, true, false, false, false, false, false, false] rfl rfl (lL HT_.out (by kernel_rfl)) (fun _ _ _ h => h) (Or.inr ⟨by rfl, rfl⟩) ?_ ?_
        rotate_left
        ·simp only [Act.put, List.setIfInBounds_toArray, List.set_cons_zero, List.set_cons_succ, eU, gX]
         rfl
        refine oJ (i := 16) (N := some 75) (v := undef) (a' := ?_) #[true, true, true, true, true, true, true, true, true, true, true, true, true, true, true, true, true, false, false, false, false, false] rfl rfl (lL HT_.out (by kernel_rfl)) (fun _ _ _ h => h) (Or.inr ⟨by rfl, rfl⟩) ?_ ?_
        rotate_left
        ·simp only [Act.put, List.setIfInBounds_toArray, List.set_cons_zero, List.set_cons_succ, eU, gX]
         rfl
        refine oJ (i := 17) (N := some 76) (v := undef) (a' := ?_) #[true, true, true, true, true, true, true, true, true, true, true, true, true, true, true, true, true, true, false, false, false, false] rfl rfl (lL HT_.out (by kernel_rfl)) (fun _ _ _ h => h) (Or.inr ⟨by rfl, rfl⟩) ?_ ?_
        rotate_left
        ·simp only [Act.put, List.setIfInBounds_toArray, List.set_cons_zero, List.set_cons_succ, eU, gX]
         rfl
        refine oJ (i := 18) (N := some 77) (v := undef) (a' := ?_) #[true, true, true, true, true, true, true, true, true, true, true, true, true, true, true, true, true, true, true, false, false, false] rfl rfl (lL HT_.out (by kernel_rfl)) (fun _ _ _ h => h) (Or.inr ⟨by rfl, rfl⟩) ?_ ?_
        rotate_left
        ·simp only [Act.put, List.setIfInBounds_toArray, List.set_cons_zero, List.set_cons_succ, eU, gX]
         rfl
        refine oJ (i := 19) (N := some 78) (v := undef) (a' := ?_) #[true, true, true, true, true, true, true, true, true, true, true, true, true, true, true, true, true, true, true, true, false, false] rfl rfl (lL HT_.out (by kernel_rfl)) (fun _ _ _ h => h) (Or.inr ⟨by rfl, rfl⟩) ?_ ?_
        rotate_left
        ·simp only [Act.put, List.setIfInBounds_toArray, List.set_cons_zero, List.set_cons_succ, eU, gX]
         rfl
        refine oJ (i := 20) (N := some 79) (v := undef) (a' := ?_) #[true, true, true, true, true, true, true, true, true, true, true, true, true, true, true, true, true, true, true, true, true, false] rfl rfl (lL HT_.out (by kernel_rfl)) (fun _ _ _ h => h) (Or.inr ⟨by rfl, rfl⟩) ?_ ?_
        rotate_left
        ·simp only [Act.put, List.setIfInBounds_toArray, List.set_cons_zero, List.set_cons_succ, eU, gX]
         rfl
        refine pv_ 21 (some 80) ?_
        refine ja (gU HT_.out (by kernel_rfl)) ?_
        try go_wp2
        go_ret
        exact ⟨fO, mg⟩
      rw [if_neg c25] at H
      have H4 := decide_eq_false c25
      clear c25
      by_cases c41 : A6 ≥ 1
      ·rw [if_pos c41] at H
       have H5 := decide_eq_true c41
       clear c41
       obtain rfl := Option.some.inj H
       obtain ⟨P8, P9, O1⟩ := Kd.bg A3.out
       subst O1
       go_wp2
       go_ret
       exact ⟨fO, mg⟩
      rw [if_neg c41] at H
      have H5 := decide_eq_false c41
      clear c41
      obtain rfl := Option.some.inj H
      obtain ⟨Q0, Q1, O2⟩ := Kd.bg A3.out
      subst O2
      go_wp2
      go_ret
      exact ⟨fO, mg⟩
mutual
def aZ.l0 : Nat → ByteArray → Int → Bool → Int → Bool → Int → Option (Bool)
 | 0, _, _, _, _, _, _ => none
 | k + 1, x2, x7, x8, x9, x10, x11 => if x11 < (x2.size : Int) then (if 0 ≤ x11 then (if (bt x2 x11) = 76 then (aZ.j1 k x2 x7 x8 x9 x10 x11 (bt x2 x11) ((bt x2 x11) == 76)) else (aZ.j1 k x2 x7 x8 x9 x10 x11 (bt x2 x11) ((bt x2 x11) == 82))) else (none)) else (if x8 = true then (if x10 = true then (if x7 = 0 then (some (x9 == 0)) else (some false)) else (some false)) else (some false))
def aZ.j1 : Nat → ByteArray → Int → Bool → Int → Bool → Int → Int → Bool → Option (Bool)
 | 0, _, _, _, _, _, _, _, _ => none
 | k + 1, x2, x7, x8, x9, x10, x11, x30, x31 => if x31 = true then (aZ.l0 k x2 (wrap64 (x7 - 1)) x8 x9 x10 (wrap64 (x11 + 1))) else (if x30 = 84 then (aZ.l0 k x2 x7 x8 (wrap64 (x9 - 1)) x10 (wrap64 (x11 + 1))) else (if x30 = 66 then (aZ.l0 k x2 x7 x8 (wrap64 (x9 - 1)) x10 (wrap64 (x11 + 1))) else (some false)))
end
def aZ.f (k : Nat) (a0 : Int) (a1 : Int) (a2 : ByteArray) : Option (Bool) := (bq.f a0).bind fun bt136 => ((bq.f a1).bind fun bt138 => (aZ.l0 k a2 bt136.1 bt136.2 bt138.1 bt138.2 0))
theorem aZ.di : ∀ k, (∀ y0 y1 y2 y3 y4 y5, LeO (aZ.l0 k y0 y1 y2 y3 y4 y5) (aZ.l0 (k + 1) y0 y1 y2 y3 y4 y5)) ∧ (∀ y0 y1 y2 y3 y4 y5 y6 y7, LeO (aZ.j1 k y0 y1 y2 y3 y4 y5 y6 y7) (aZ.j1 (k + 1) y0 y1 y2 y3 y4 y5 y6 y7))
 | 0 => ⟨fun _ _ _ _ _ _ r h => by simp [aZ.l0] at h, fun _ _ _ _ _ _ _ _ r h => by simp [aZ.j1] at h⟩
 | k + 1 => by
  obtain ⟨ih0, ih1⟩ := aZ.di k
  refine ⟨?_, ?_⟩ <;> intros <;> (first | unfold aZ.l0 | unfold aZ.j1) <;> (repeat' first | (with_reducible first | exact ih0 .. | exact ih1 .. | exact LeO.refl .. | exact LeO.none .. | refine LeO.ite ?_ ?_ | refine LeO.bind ?_ (fun _ => ?_)))
theorem aZ.mono : ∀ a0 a1 a2 k, LeO (aZ.f k a0 a1 a2) (aZ.f (k + 1) a0 a1 a2) := by
 intro a0 a1 a2 k
 obtain ⟨ih0, ih1⟩ := aZ.di k
 unfold aZ.f
 repeat' first | (with_reducible first | exact ih0 .. | exact ih1 .. | exact LeO.refl .. | exact LeO.none .. | refine LeO.ite ?_ ?_ | refine LeO.bind ?_ (fun _ => ?_))
theorem aZ.calls (k : Nat) (a0 : Int) (a1 : Int) (a2 : ByteArray) (r : Bool) (w : World) (h : aZ.f k a0 a1 a2 = some r) :
  Calls Tryz.prog 76 #[.int .i64 a0, .int .i64 a1, .string a2] w fun e w' => e = .returned (.bool r) ∧ eY w w' := by
 have H : ((bq.f a0).bind fun B0 => ((bq.f a1).bind fun B3 => (aZ.l0 k a2 B0.1 B0.2 B3.1 B3.2 0))) = some r := h
 clear h
 replace H := bo_ H; obtain ⟨⟨C0, A8⟩, A4, H⟩ := H; (try dsimp only at H)
 replace H := bo_ H; obtain ⟨⟨C1, A6⟩, A5, H⟩ := H; (try dsimp only at H)
 have H' := a_ H
 clear H
 go_enter Tryz.func76, Tryz.ntmps76
 go_wp2_with (first | ((with_reducible refine av (f := 80) rfl ?_); refine bI (some 14) rfl rfl Tryz.func80 (by kernel_rfl) rfl #[.int .i64 a0] rfl dL ?_; (with_reducible refine (bq.calls a0 C0 A8 _ A4.out).mono ?_); rintro e w' ⟨rfl, ⟨nd, rfl⟩⟩; refine ⟨_, rfl, ?_⟩) | ((with_reducible refine av (f := 80) rfl ?_); refine bI (some 19) rfl rfl Tryz.func80 (by kernel_rfl) rfl #[.int .i64 a1] rfl dL ?_; (with_reducible refine (bq.calls a1 C1 A6 _ A5.out).mono ?_); rintro e w' ⟨rfl, ⟨nd, rfl⟩⟩; refine ⟨_, rfl, ?_⟩))
 go_loopg [7, 9, 11] k (fun kq v7 v9 v11 w' => ∃ (A2 : Int) (A3 : Int) (A1 : Int), v7 = .int .i64 A2 ∧ v9 = .int .i64 A3 ∧ v11 = .int .i64 A1 ∧ ah (aZ.l0 kq a2 A2 A8 A3 A6 A1 = some r) ∧ ah (kq ≤ k) ∧ eY w w')
 case atStart => exact ⟨(C0), (C1), (0), bZ, bZ, bZ, H', ⟨Nat.le_refl _⟩, eQ⟩
 case round =>
  clear H'
  obtain ⟨A2, A3, A1, rfl, rfl, rfl, HA, HK1, ⟨m1, rfl⟩⟩ := hrel
  cases gk with
  | zero => exact absurd HA.out (by simp [aZ.l0])
  | succ k1 =>
   have H := HA.out
   clear HA
   simp only [aZ.l0] at H
   by_cases c6 : A1 < (a2.size : Int)
   ·rw [if_pos c6] at H
    have C2 := decide_eq_true c6
    clear c6
    replace H := ig_ H; obtain ⟨c7, H⟩ := H
    have D0 := decide_eq_true c7
    clear c7
    have D1 := a_ H
    clear H
    have p8 : 0 ≤ (A1 : Int) := of_decide_eq_true aG
    have q8 : A1 < (a2.size : Int) := of_decide_eq_true aG
    have hx8 := jI a2 A1
    replace p8 := eq_true p8
    replace q8 := eq_true q8
    go_upto_if 31 with (fail)
    go_cut [31] (fun v31 wc => ∃ (kq : Nat) (A9 : Bool), v31 = .bool A9 ∧ ah (aZ.j1 kq a2 A2 A8 A3 A6 A1 (bt a2 A1) A9 = some r) ∧ ah (kq ≤ k1) ∧ eY w wc)
    case first =>
     have H := D1.out
     clear D1
     by_cases c10 : (bt a2 A1) = 76
     ·rw [if_pos c10] at H
      have A7 : ((bt a2 A1) == 76) = true := beq_iff_eq.mpr c10
      have C3 : ((bt a2 A1) != 76) = false := bne_eq_false_iff_eq.mpr c10
      clear c10
      (first | rw [A7] | (simp only [eU, gX]; rw [A7]) | skip)
      have H' := a_ H
      clear H
      go_wp2
      go_meet
      case rel => exact ⟨_, (((bt a2 A1) == 76)), bZ, H', ⟨nO⟩, eQ⟩
     rw [if_neg c10] at H
     have A7 : ((bt a2 A1) == 76) = false := beq_eq_false_iff_ne.mpr c10
     have C3 : ((bt a2 A1) != 76) = true := bne_iff_ne.mpr c10
     (first | rw [A7] | (simp only [eU, gX]; rw [A7]) | skip)
     have H' := a_ H
     clear H
     go_wp2
     go_meet
     case rel => exact ⟨_, (((bt a2 A1) == 82)), bZ, H', ⟨nO⟩, eQ⟩
    case rest =>
     clear D1; try clear C2; try clear D0; try clear p8; try clear q8; try clear hx8
     obtain ⟨kq, A9, rfl, HA, B4, ⟨mc8, rfl⟩⟩ := hcut
     cases kq with
     | zero => exact absurd HA.out (by simp [aZ.j1])
     | succ B7 =>
      have H := HA.out
      clear HA
      simp only [aZ.j1] at H
      by_cases c11 : A9 = true
      ·subst c11
       have H1 : (aZ.l0 B7 a2 (wrap64 (A2 - 1)) A8 A3 A6 (wrap64 (A1 + 1))) = some r := by rw [if_pos rfl] at H; exact H
       clear H
       have H := H1
       clear H1
       have H' := a_ H
       clear H
       go_wp2
       go_roundg B7
       case measure => have := HK1.out; have := B4.out; omega
       case rel => exact ⟨(wrap64 (A2 - 1)), (A3), (wrap64 (A1 + 1)), bZ, bZ, bZ, H', ⟨by have := HK1.out; have := B4.out; omega⟩, eQ⟩
      ·replace c11 := Bool.eq_false_iff.mpr c11
       subst c11
       have H1 : (if (bt a2 A1) = 84 then (aZ.l0 B7 a2 A2 A8 (wrap64 (A3 - 1)) A6 (wrap64 (A1 + 1))) else (if (bt a2 A1) = 66 then (aZ.l0 B7 a2 A2 A8 (wrap64 (A3 - 1)) A6 (wrap64 (A1 + 1))) else (some false))) = some r := by rw [if_neg (show ¬ (false = true) by decide)] at H; exact H
       clear H
       have H := H1
       clear H1
       by_cases c12 : (bt a2 A1) = 84
       ·rw [if_pos c12] at H
        have C4 : ((bt a2 A1) == 84) = true := beq_iff_eq.mpr c12
        have C5 : ((bt a2 A1) != 84) = false := bne_eq_false_iff_eq.mpr c12
        clear c12
        have H' := a_ H
        clear H
        go_wp2
        go_roundg B7
        case measure => have := HK1.out; have := B4.out; omega
        case rel => exact ⟨(A2), (wrap64 (A3 - 1)), (wrap64 (A1 + 1)), bZ, bZ, bZ, H', ⟨by have := HK1.out; have := B4.out; omega⟩, eQ⟩
       rw [if_neg c12] at H
       have C4 : ((bt a2 A1) == 84) = false := beq_eq_false_iff_ne.mpr c12
       have C5 : ((bt a2 A1) != 84) = true := bne_iff_ne.mpr c12
       by_cases c13 : (bt a2 A1) = 66
       ·rw [if_pos c13] at H
        have C6 : ((bt a2 A1) == 66) = true := beq_iff_eq.mpr c13
        have C7 : ((bt a2 A1) != 66) = false := bne_eq_false_iff_eq.mpr c13
        clear c13
        have H' := a_ H
        clear H
        go_wp2
        go_roundg B7
        case measure => have := HK1.out; have := B4.out; omega
        case rel => exact ⟨(A2), (wrap64 (A3 - 1)), (wrap64 (A1 + 1)), bZ, bZ, bZ, H', ⟨by have := HK1.out; have := B4.out; omega⟩, eQ⟩
       rw [if_neg c13] at H
       have C6 : ((bt a2 A1) == 66) = false := beq_eq_false_iff_ne.mpr c13
       have C7 : ((bt a2 A1) != 66) = true := bne_iff_ne.mpr c13
       obtain rfl := Option.some.inj H
       go_wp2
       go_ret
       exact ⟨fT, eQ⟩
   rw [if_neg c6] at H
   have C2 := decide_eq_false c6
   clear c6
   by_cases c14 : A8 = true
   ·subst c14
    have H1 : (if A6 = true then (if A2 = 0 then (some (A3 == 0)) else (some false)) else (some false)) = some r := by rw [if_pos rfl] at H; exact H
    clear H
    have H := H1
    clear H1
    by_cases c15 : A6 = true
    ·subst c15
     have H1 : (if A2 = 0 then (some (A3 == 0)) else (some false)) = some r := by rw [if_pos rfl] at H; exact H
     clear H
     have H := H1
     clear H1
     by_cases c16 : A2 = 0
     ·rw [if_pos c16] at H
      have C8 : (A2 == 0) = true := beq_iff_eq.mpr c16
      have C9 : (A2 != 0) = false := bne_eq_false_iff_eq.mpr c16
      clear c16
      obtain rfl := Option.some.inj H
      go_wp2
      go_ret
      exact ⟨fT, eQ⟩
     rw [if_neg c16] at H
     have C8 : (A2 == 0) = false := beq_eq_false_iff_ne.mpr c16
     have C9 : (A2 != 0) = true := bne_iff_ne.mpr c16
     obtain rfl := Option.some.inj H
     go_wp2
     go_ret
     exact ⟨fT, eQ⟩
    ·replace c15 := Bool.eq_false_iff.mpr c15
     subst c15
     have H1 : (some false) = some r := by rw [if_neg (show ¬ (false = true) by decide)] at H; exact H
     clear H
     have H := H1
     clear H1
     obtain rfl := Option.some.inj H
     go_wp2
     go_ret
     exact ⟨fT, eQ⟩
   ·replace c14 := Bool.eq_false_iff.mpr c14
    subst c14
    have H1 : (some false) = some r := by rw [if_neg (show ¬ (false = true) by decide)] at H; exact H
    clear H
    have H := H1
    clear H1
    obtain rfl := Option.some.inj H
    go_wp2
    go_ret
    exact ⟨fT, eQ⟩
def eO.f (k : Nat) (a0_0 : Int) (a0_1 : Int) (l0_2 : List Int) (l0_3 : List Int) (l0_4 : List Int) (a1 : ByteArray) : Option (Int) := (aM.f k a0_0 a0_1 l0_2 l0_3 l0_4).bind fun t141 => (if t141 = true then ((aZ.f k a0_0 a0_1 a1).bind fun t142 => (if t142 = true then (some 0) else (some 2))) else (some 1))
theorem eO.mono : ∀ a0 a1 a2 a3 a4 a5 k, LeO (eO.f k a0 a1 a2 a3 a4 a5) (eO.f (k + 1) a0 a1 a2 a3 a4 a5) := by
 intro a0 a1 a2 a3 a4 a5 k
 unfold eO.f
 repeat' first | (with_reducible first | exact aM.mono .. | exact aZ.mono .. | exact LeO.refl .. | exact LeO.none .. | refine LeO.ite ?_ ?_ | refine LeO.bind ?_ (fun _ => ?_))
theorem eO.calls (k : Nat) (a0_0 : Int) (a0_1 : Int) (A4 : Option Addr) (A6 : Nat) (l0_2 : List Int) (A7 : Option Addr) (A8 : Nat) (l0_3 : List Int) (A9 : Option Addr) (B0 : Nat) (l0_4 : List Int) (a1 : ByteArray) (r : Int) (w : World) (hr0_2 : Kd.C (Kd.int .i64) w A4 l0_2.length l0_2) (hc0_2 : l0_2.length ≤ A6) (hr0_3 : Kd.C (Kd.int .i64) w A7 l0_3.length l0_3) (hc0_3 : l0_3.length ≤ A8) (hr0_4 : Kd.C (Kd.int .i64) w A9 l0_4.length l0_4) (hc0_4 : l0_4.length ≤ B0) (h : eO.f k a0_0 a0_1 l0_2 l0_3 l0_4 a1 = some r) :
  Calls Tryz.prog 36 #[.agg #[.int .i64 a0_0, .int .i64 a0_1, .slice A4 l0_2.length A6, .slice A7 l0_3.length A8, .slice A9 l0_4.length B0], .string a1] w fun e w' => e = .returned (.int .i64 r) ∧ Below w.heap.size w w' := by
 have hu28 := Tryz.underlying28
 have B3 := a_ hr0_2
 have B4 := a_ hc0_2
 clear hr0_2 hc0_2
 have B7 := a_ hr0_3
 have C0 := a_ hc0_3
 clear hr0_3 hc0_3
 have HR0_4 := a_ hr0_4
 have C1 := a_ hc0_4
 clear hr0_4 hc0_4
 have HB := a_ (Below.refl w.heap.size w)
 have H : ((aM.f k a0_0 a0_1 l0_2 l0_3 l0_4).bind fun C4 => (if C4 = true then ((aZ.f k a0_0 a0_1 a1).bind fun C2 => (if C2 = true then (some 0) else (some 2))) else (some 1))) = some r := h
 clear h
 replace H := bo_ H; obtain ⟨C4, A3, H⟩ := H; (try dsimp only at H)
 by_cases c4 : C4 = true
 ·subst c4
  have H1 : ((aZ.f k a0_0 a0_1 a1).bind fun C2 => (if C2 = true then (some 0) else (some 2))) = some r := by rw [if_pos rfl] at H; exact H
  clear H
  have H := H1
  clear H1
  replace H := bo_ H; obtain ⟨C2, A5, H⟩ := H; (try dsimp only at H)
  by_cases c6 : C2 = true
  ·subst c6
   have H1 : (some 0) = some r := by rw [if_pos rfl] at H; exact H
   clear H
   have H := H1
   clear H1
   obtain rfl := Option.some.inj H
   go_enter Tryz.func36, Tryz.ntmps36
   go_wp2_with (first | ((with_reducible refine bf (N := 2) rfl ?_); refine cz ?hg (N := 2) ?hd (cs := #[.int .i64 a0_0, .int .i64 a0_1, .slice A4 l0_2.length A6, .slice A7 l0_3.length A8, .slice A9 l0_4.length B0]) (t := 28) ?hr ?_; (case hd => rfl); (case hg => rfl); (case hr => first | (go_simp; done) | (go_simp; rfl)); intro A2 hg w7 hbox hb; have A1 := a_ (hbox); have C3 := a_ ((fG : w.heap.size ≤ A2)); have GE140 := a_ ((fG : w.heap.size ≤ A2)); replace HB := df bO hb; clear hb hbox hg; obtain ⟨G5, G6, G7, G8, G9, H0, H2, H3, H4, H5⟩ := eH (w := w7) A1.out) | ((with_reducible refine av (f := 21) rfl ?_); refine bI (some 7) rfl rfl Tryz.func21 (by kernel_rfl) rfl #[.agg #[.int .i64 a0_0, .int .i64 a0_1, .slice A4 l0_2.length A6, .slice A7 l0_3.length A8, .slice A9 l0_4.length B0]] rfl dL ?_; (with_reducible refine (aM.calls k a0_0 a0_1 _ _ l0_2 _ _ l0_3 _ _ l0_4 true _ ?side1 ?side2 ?side3 ?side4 ?side5 ?side6 A3.out).mono ?_); (case side1 => exact kc_ (Kd.bE B3.out HB.out)); (case side2 => exact B4.out); (case side3 => exact kc_ (Kd.bE B7.out HB.out)); (case side4 => exact C0.out); (case side5 => exact kc_ (Kd.bE HR0_4.out HB.out)); (case side6 => exact C1.out); rintro e w9 ⟨rfl, hb⟩; refine ⟨_, rfl, ?_⟩; replace A1 := bb_ A2 A1 hb; replace HB := df xU hb; (try clear hb); obtain ⟨C5, C6, C7, C8, C9, D0, D1, D2, D3, D4⟩ := eH (w := w9) A1.out) | ((with_reducible refine av (f := 76) rfl ?_); refine bI (some 15) rfl rfl Tryz.func76 (by kernel_rfl) rfl #[.int .i64 a0_0, .int .i64 a0_1, .string a1] rfl dL ?_; (with_reducible refine (aZ.calls k a0_0 a0_1 a1 true _ A5.out).mono ?_); rintro e w' ⟨rfl, ⟨nd, rfl⟩⟩; refine ⟨_, rfl, ?_⟩))
   go_ret
   exact ⟨fO, xU⟩
  ·replace c6 := Bool.eq_false_iff.mpr c6
   subst c6
   have H1 : (some 2) = some r := by rw [if_neg (show ¬ (false = true) by decide)] at H; exact H
   clear H
   have H := H1
   clear H1
   obtain rfl := Option.some.inj H
   go_enter Tryz.func36, Tryz.ntmps36
   go_wp2_with (first | ((with_reducible refine bf (N := 2) rfl ?_); refine cz ?hg (N := 2) ?hd (cs := #[.int .i64 a0_0, .int .i64 a0_1, .slice A4 l0_2.length A6, .slice A7 l0_3.length A8, .slice A9 l0_4.length B0]) (t := 28) ?hr ?_; (case hd => rfl); (case hg => rfl); (case hr => first | (go_simp; done) | (go_simp; rfl)); intro A2 hg H6 hbox hb; have A1 := a_ (hbox); have C3 := a_ ((fG : w.heap.size ≤ A2)); have GE140 := a_ ((fG : w.heap.size ≤ A2)); replace HB := df bO hb; clear hb hbox hg; obtain ⟨D5, D6, D7, D8, D9, E0, E1, E2, E3, E4⟩ := eH (w := H6) A1.out) | ((with_reducible refine av (f := 21) rfl ?_); refine bI (some 7) rfl rfl Tryz.func21 (by kernel_rfl) rfl #[.agg #[.int .i64 a0_0, .int .i64 a0_1, .slice A4 l0_2.length A6, .slice A7 l0_3.length A8, .slice A9 l0_4.length B0]] rfl dL ?_; (with_reducible refine (aM.calls k a0_0 a0_1 _ _ l0_2 _ _ l0_3 _ _ l0_4 true _ ?side1 ?side2 ?side3 ?side4 ?side5 ?side6 A3.out).mono ?_); (case side1 => exact kc_ (Kd.bE B3.out HB.out)); (case side2 => exact B4.out); (case side3 => exact kc_ (Kd.bE B7.out HB.out)); (case side4 => exact C0.out); (case side5 => exact kc_ (Kd.bE HR0_4.out HB.out)); (case side6 => exact C1.out); rintro e H7 ⟨rfl, hb⟩; refine ⟨_, rfl, ?_⟩; replace A1 := bb_ A2 A1 hb; replace HB := df xU hb; (try clear hb); obtain ⟨E5, E6, E7, E8, E9, F0, F1, F2, F3, F4⟩ := eH (w := H7) A1.out) | ((with_reducible refine av (f := 76) rfl ?_); refine bI (some 15) rfl rfl Tryz.func76 (by kernel_rfl) rfl #[.int .i64 a0_0, .int .i64 a0_1, .string a1] rfl dL ?_; (with_reducible refine (aZ.calls k a0_0 a0_1 a1 false _ A5.out).mono ?_); rintro e w' ⟨rfl, ⟨nd, rfl⟩⟩; refine ⟨_, rfl, ?_⟩))
   go_ret
   exact ⟨fO, xU⟩
 ·replace c4 := Bool.eq_false_iff.mpr c4
  subst c4
  have H1 : (some 1) = some r := by rw [if_neg (show ¬ (false = true) by decide)] at H; exact H
  clear H
  have H := H1
  clear H1
  obtain rfl := Option.some.inj H
  go_enter Tryz.func36, Tryz.ntmps36
  go_wp2_with (first | ((with_reducible refine bf (N := 2) rfl ?_); refine cz ?hg (N := 2) ?hd (cs := #[.int .i64 a0_0, .int .i64 a0_1, .slice A4 l0_2.length A6, .slice A7 l0_3.length A8, .slice A9 l0_4.length B0]) (t := 28) ?hr ?_; (case hd => rfl); (case hg => rfl); (case hr => first | (go_simp; done) | (go_simp; rfl)); intro A2 hg H8 hbox hb; have A1 := a_ (hbox); have C3 := a_ ((fG : w.heap.size ≤ A2)); have GE140 := a_ ((fG : w.heap.size ≤ A2)); replace HB := df bO hb; clear hb hbox hg; obtain ⟨F5, F6, F7, F8, F9, G0, G1, G2, G3, G4⟩ := eH (w := H8) A1.out) | ((with_reducible refine av (f := 21) rfl ?_); refine bI (some 7) rfl rfl Tryz.func21 (by kernel_rfl) rfl #[.agg #[.int .i64 a0_0, .int .i64 a0_1, .slice A4 l0_2.length A6, .slice A7 l0_3.length A8, .slice A9 l0_4.length B0]] rfl dL ?_; (with_reducible refine (aM.calls k a0_0 a0_1 _ _ l0_2 _ _ l0_3 _ _ l0_4 false _ ?side1 ?side2 ?side3 ?side4 ?side5 ?side6 A3.out).mono ?_); (case side1 => exact kc_ (Kd.bE B3.out HB.out)); (case side2 => exact B4.out); (case side3 => exact kc_ (Kd.bE B7.out HB.out)); (case side4 => exact C0.out); (case side5 => exact kc_ (Kd.bE HR0_4.out HB.out)); (case side6 => exact C1.out); rintro e H9 ⟨rfl, hb⟩; refine ⟨_, rfl, ?_⟩; replace A1 := bb_ A2 A1 hb; replace HB := df xU hb; (try clear hb)))
  go_ret
  exact ⟨fO, xU⟩
mutual
def bD.l0 : Nat → Int → Int → List (List (List (S64))) → Int → Option ((List (List (List (S64)))))
 | 0, _, _, _, _ => none
 | k + 1, x0, x1, x5, x6 => if x6 < x1 then (bD.l1 k x0 x1 x5 x6 (([] : List (List (S64)))) 0) else (some x5)
def bD.l1 : Nat → Int → Int → List (List (List (S64))) → Int → List (List (S64)) → Int → Option ((List (List (List (S64)))))
 | 0, _, _, _, _, _, _ => none
 | k + 1, x0, x1, x5, x6, x7, x8 => if x8 < x0 then (if x7.length < 5864062014805 then (bD.l1 k x0 x1 x5 x6 (x7 ++ [(([(⟨x8, x6, false, false⟩ : S64)] : List (S64)))]) (wrap64 (x8 + 1))) else (none)) else (if x5.length < 5864062014805 then (bD.l0 k x0 x1 (x5 ++ [x7]) (wrap64 (x6 + 1))) else (none))
end
def bD.f (k : Nat) (a0 : Int) (a1 : Int) : Option ((List (List (List (S64))))) := bD.l0 k a0 a1 (([] : List (List (List (S64))))) 0
theorem bD.di : ∀ k, (∀ y0 y1 y2 y3, LeO (bD.l0 k y0 y1 y2 y3) (bD.l0 (k + 1) y0 y1 y2 y3)) ∧ (∀ y0 y1 y2 y3 y4 y5, LeO (bD.l1 k y0 y1 y2 y3 y4 y5) (bD.l1 (k + 1) y0 y1 y2 y3 y4 y5))
 | 0 => ⟨fun _ _ _ _ r h => by simp [bD.l0] at h, fun _ _ _ _ _ _ r h => by simp [bD.l1] at h⟩
 | k + 1 => by
  obtain ⟨ih0, ih1⟩ := bD.di k
  refine ⟨?_, ?_⟩ <;> intros <;> (first | unfold bD.l0 | unfold bD.l1) <;> (repeat' first | (with_reducible first | exact ih0 .. | exact ih1 .. | exact LeO.refl .. | exact LeO.none .. | refine LeO.ite ?_ ?_ | refine LeO.bind ?_ (fun _ => ?_)))
theorem bD.mono : ∀ a0 a1 k, LeO (bD.f k a0 a1) (bD.f (k + 1) a0 a1) := by
 intro a0 a1 k
 obtain ⟨ih0, ih1⟩ := bD.di k
 unfold bD.f
 repeat' first | (with_reducible first | exact ih0 .. | exact ih1 .. | exact LeO.refl .. | exact LeO.none .. | refine LeO.ite ?_ ?_ | refine LeO.bind ?_ (fun _ => ?_))
theorem bD.calls (k : Nat) (a0 : Int) (a1 : Int) (r : List (List (List (S64)))) (w : World) (h : bD.f k a0 a1 = some r) :
  Calls Tryz.prog 97 #[.int .i64 a0, .int .i64 a1] w fun e w' => ∃ v0_ : Value, e = .returned (v0_) ∧ Kd.R (Kd.slice 61 (Kd.slice 64 k64)) 96 w' w.heap.size (fun _ => True) v0_ r ∧ Below w.heap.size w w' := by
 have hu64 := Tryz.underlying64
 have HB := a_ (Below.refl w.heap.size w)
 have H : (bD.l0 k a0 a1 (([] : List (List (List (S64))))) 0) = some r := h
 clear h
 obtain ⟨C3, A7⟩ : ∃ y_ : List (List (List (S64))), y_ = (([] : List (List (List (S64))))) := ⟨_, rfl⟩
 replace H : (bD.l0 k a0 a1 C3 0) = some r := rh_ A7 H
 have B4 := a_ A7
 clear A7
 have H' := a_ H
 clear H
 go_enter Tryz.func97, Tryz.ntmps97
 go_wp2_with (first | ((with_reducible refine bf (N := 9) rfl ?_); refine Kd.fU (Kd.slice 61 (Kd.slice 64 k64)) _ 96 ?hg (N := 9) ?hd (xs := ([] : List (List (List (S64))))) (inner := []) (ok := fun _ => True) (okp := fun _ => True) ?hr ?hp (fun _ hk => hk) trivial (Below.refl _ _) (Nat.le_refl _) (by simp) ?_; (case hd => rfl); (case hg => rfl); (case hr => first | (go_simp; done) | (go_simp; rfl)); (case hp => exact (dm.none _ _)); intro D9 w3 ho4 hb hg_ hnew_; clear hg_ hnew_; (first | rw [← B4.out] at ho4 | (simp only [Int.reduceToNat] at ho4; rw [← B4.out] at ho4)); have C4 := a_ (Kd.bu ho4 (af bO)); replace HB := df bO hb; clear hb ho4))
 go_loopg [5, 6] k (fun kq v5 v6 w' => ∃ (A3 : List (List (List (S64)))) (A1 : Int), v6 = .int .i64 A1 ∧ ah (bD.l0 kq a0 a1 A3 A1 = some r) ∧ ah (kq ≤ k) ∧ ah (Kd.R (Kd.slice 61 (Kd.slice 64 k64)) 96 w' w.heap.size (fun _ => True) v5 A3) ∧ ah (Below w.heap.size w w'))
 case atStart => exact ⟨(C3), (0), bZ, H', ⟨Nat.le_refl _⟩, ⟨by (with_reducible repeat (first | apply Kd.aC | apply Kd.aD | apply Kd.az)); exact C4.out⟩, ⟨bO⟩⟩
 case round =>
  clear H'
  obtain ⟨A3, A1, rfl, HA, HK1, HO_5, HB⟩ := hrel
  cases gk with
  | zero => exact absurd HA.out (by simp [bD.l0])
  | succ k1 =>
   have H := HA.out
   clear HA
   simp only [bD.l0] at H
   by_cases c5 : A1 < a1
   ·rw [if_pos c5] at H
    have C5 := decide_eq_true c5
    clear c5
    obtain ⟨C6, A8⟩ : ∃ y_ : List (List (S64)), y_ = (([] : List (List (S64)))) := ⟨_, rfl⟩
    replace H : (bD.l1 k1 a0 a1 A3 A1 C6 0) = some r := rh_ A8 H
    have B7 := a_ A8
    clear A8
    have H' := a_ H
    clear H
    go_wp2_with (first | ((with_reducible refine bf (N := 15) rfl ?_); refine Kd.sI (Kd.slice 64 k64) _ 61 ?hg (N := 15) ?hd (xs := ([] : List (List (S64)))) (inner := []) (ok := fun _ => True) (okp := fun _ => True) ?hr ?hp (fun _ hk => hk) trivial (Below.refl _ _) (Nat.le_refl _) (by simp) ?_; (case hd => rfl); (case hg => rfl); (case hr => first | (go_simp; done) | (go_simp; rfl)); (case hp => exact (dm.none _ _)); intro E0 w6 ho7 hb hg_ hnew_; clear hg_ hnew_; (first | rw [← B7.out] at ho7 | (simp only [Int.reduceToNat] at ho7; rw [← B7.out] at ho7)); replace HO_5 := a_ (Kd.bB (ra_ HO_5.out) (Kd.oV ho7) hb); have C7 := a_ (Kd.mP ho7 (af bO)); replace HB := df bO hb; clear hb ho7))
    go_loopg [7, 8] k1 (fun kq v7 v8 w' => ∃ (A4 : List (List (S64))) (A2 : Int), v8 = .int .i64 A2 ∧ ah (bD.l1 kq a0 a1 A3 A1 A4 A2 = some r) ∧ ah (kq ≤ k1) ∧ ah (Kd.R (Kd.slice 61 (Kd.slice 64 k64)) 96 w' w.heap.size (fun k_ => some k_ ≠ (v7 : Value).ownBlock) u5 A3) ∧ ah (Kd.S (Kd.slice 64 k64) 61 w' w.heap.size (fun _ => True) v7 A4) ∧ ah (Below w.heap.size w w'))
    case atStart => exact ⟨(C6), (0), bZ, H', ⟨Nat.le_refl _⟩, ⟨wO⟩, ⟨by (with_reducible repeat (first | apply Kd.gI | apply Kd.gM | apply Kd.gL)); exact C7.out⟩, ⟨bO⟩⟩
    case round =>
     clear H'
     try clear C5
     obtain ⟨A4, A2, rfl, HA, HK2, HO_5, HO_7, HB⟩ := hrel
     cases gk with
     | zero => exact absurd HA.out (by simp [bD.l1])
     | succ k2 =>
      have H := HA.out
      clear HA
      simp only [bD.l1] at H
      by_cases c8 : A2 < a0
      ·rw [if_pos c8] at H
       have D4 := decide_eq_true c8
       clear c8
       obtain ⟨A6, A9⟩ : ∃ y_ : List (S64), y_ = (([(⟨A2, A1, false, false⟩ : S64)] : List (S64))) := ⟨_, rfl⟩
       replace H : (if A4.length < 5864062014805 then (bD.l1 k2 a0 a1 A3 A1 (A4 ++ [A6]) (wrap64 (A2 + 1))) else (none)) = some r := rh_ A9 H
       have C0 := a_ A9
       clear A9
       replace H := ig_ H; obtain ⟨c9, H⟩ := H
       have LMc9 := a_ c9
       clear c9
       obtain ⟨C8, B0⟩ : ∃ y_ : List (List (S64)), y_ = (A4 ++ [A6]) := ⟨_, rfl⟩
       replace H : (bD.l1 k2 a0 a1 A3 A1 C8 (wrap64 (A2 + 1))) = some r := rh_ B0 H
       have C9 := a_ B0
       clear B0
       have H' := a_ H
       clear H
       go_wp2_with (first | ((with_reducible refine bf (N := 25) rfl ?_); refine Kd.fU k64 _ 64 ?hg (N := 25) ?hd (xs := ([(⟨A2, A1, false, false⟩ : S64)] : List (S64))) (inner := [.int .i64 A2, .int .i64 A1, .bool false, .bool false]) (ok := fun _ => True) (okp := fun _ => True) ?hr ?hp (fun _ hk => hk) trivial (Below.refl _ _) (Nat.le_refl _) (by simp) ?_; (case hd => rfl); (case hg => rfl); (case hr => first | (go_simp; done) | (go_simp; rfl)); (case hp => exact (dm.c4 (show Kd.M k64 _ _ _ (⟨A2, A1, false, false⟩ : S64) [.int .i64 A2, .int .i64 A1, .bool false, .bool false] from (nk _ _ _ (⟨A2, A1, false, false⟩ : S64) )) (dm.none _ _))); intro E1 E4 ho11 hb hg_ hnew_; clear hg_ hnew_; (first | rw [← C0.out] at ho11 | (simp only [Int.reduceToNat] at ho11; rw [← C0.out] at ho11)); replace HO_5 := a_ (Kd.bB (ra_ HO_5.out) (Kd.bN ho11) hb); replace HO_7 := a_ (Kd.kC (by (with_reducible repeat (first | apply Kd.gI | apply Kd.gM | apply Kd.gL)); exact HO_7.out) (Kd.bN ho11) hb); have A5 := a_ (Kd.bu ho11 (af bO)); replace HB := df bO hb; clear hb ho11; obtain ⟨C1, C2, D5⟩ := Kd.bg A5.out; subst D5) | ((with_reducible refine bF (b := .append) (xs := #[.tmp 21, .tmp 26]) rfl ?_); at_builtin; refine Kd.oq (Kd.slice 64 k64) (w0 := w) w.heap.size rfl (.tmp 21) (.tmp 26) 96 61 (.slice none 0 0) 24 rfl Tryz.underlying96 nW rfl (by decide) (by omega) u7 A4 A6 [.slice C1 A6.length C2] (fun _ => True) (fun k_ => some k_ = (.slice C1 A6.length C2 : Value).ownBlock) rfl rfl ?aP (fun k_ hk_ => ((Kd.ae (ok' := fun k_ => ((fun _ => True)) k_ ∧ some k_ ≠ (u7 : Value).ownBlock) (Kd.gm (A5.out) (Kd.ji HO_7.out) (by decide)) (fun k_ hk => ⟨trivial, hk.2⟩))).1 k_ hk_.symm) ?aF ?aO ?aB ?aS ?aL ?_; (case aP => exact Kd.lm (Kd.ae (Kd.kS rfl (Kd.ae (ok' := fun k_ => ((fun _ => True)) k_ ∧ some k_ ≠ (u7 : Value).ownBlock) (Kd.gm (A5.out) (Kd.ji HO_7.out) (by decide)) (fun k_ hk => ⟨trivial, hk.2⟩))) (fun _ h_ => h_))); (case aB => exact bO); (case aF => exact (fun _ _ => trivial)); (case aO => exact (by (with_reducible repeat (first | apply Kd.gI | apply Kd.gM | apply Kd.gL)); exact Kd.mi HO_7.out (fun k_ hk => ⟨trivial, fun e_ => hk.2 e_⟩))); (case aS => exact (af bO)); (case aL => have := LMc9.out; omega); intro E2 E5 ho hb hg hat; rw [← C9.out] at ho; replace HO_5 := a_ (Kd.dn (ok := (fun k_ => nb_ k_ C1 A6.length C2)) (rc_ (h := by exact Kd.ae HO_5.out (fun _ hk => ⟨hk.2, hk.1⟩))) hg hat); replace HB := a_ (hb); have D0 := a_ (ho); clear A5; clear HO_7; clear ho hb hg hat))
       go_roundg k2
       case measure => have := HK1.out; have := HK2.out; omega
       case rel => exact ⟨(C8), (wrap64 (A2 + 1)), bZ, H', ⟨ko⟩, ⟨wO⟩, ⟨by (with_reducible repeat (first | apply Kd.gI | apply Kd.gM | apply Kd.gL)); exact D0.out⟩, ⟨bO⟩⟩
      rw [if_neg c8] at H
      have D4 := decide_eq_false c8
      clear c8
      replace H := ig_ H; obtain ⟨c14, H⟩ := H
      have LMc14 := a_ c14
      clear c14
      obtain ⟨D1, B3⟩ : ∃ y_ : List (List (List (S64))), y_ = (A3 ++ [A4]) := ⟨_, rfl⟩
      replace H : (bD.l0 k2 a0 a1 D1 (wrap64 (A1 + 1))) = some r := rh_ B3 H
      have D2 := a_ B3
      clear B3
      have H' := a_ H
      clear H
      obtain ⟨D6, D7, D8⟩ := Kd.lK HO_7.out
      subst D8
      go_wp2_with (first | ((with_reducible refine bF (b := .append) (xs := #[.tmp 28, .tmp 30]) rfl ?_); at_builtin; refine Kd.fH (Kd.slice 61 (Kd.slice 64 k64)) (w0 := w) w.heap.size rfl (.tmp 28) (.tmp 30) 95 96 (.slice none 0 0) 24 rfl Tryz.underlying95 pz rfl (by decide) (by omega) u5 A3 A4 [.slice D6 A4.length D7] (fun _ => True) (fun k_ => ((fun _ => True)) k_ ∧ some k_ ≠ (u5 : Value).ownBlock) rfl rfl ?aP (fun _ hk => hk) ?aF ?aO ?aB ?aS ?aL ?_; (case aP => exact Kd.lm (Kd.ae (Kd.gm ((Kd.S_R HO_7.out)) (Kd.fV HO_5.out) (by decide)) (fun k_ hk => ⟨trivial, hk.2⟩))); (case aB => exact bO); (case aF => exact (fun _ _ => trivial)); (case aO => exact (rc_ (h := by exact Kd.ae HO_5.out (fun _ hk => trivial)))); (case aS => exact (af bO)); (case aL => have := LMc14.out; omega); intro E3 E6 ho hb hg hat; rw [← D2.out] at ho; replace HB := a_ (hb); have D3 := a_ (ho); clear HO_5; clear HO_7; clear ho hb hg hat))
      go_roundg k2
      case measure => have := HK1.out; have := HK2.out; omega
      case rel => exact ⟨(D1), (wrap64 (A1 + 1)), bZ, H', ⟨ko⟩, ⟨by (with_reducible repeat (first | apply Kd.aC | apply Kd.aD | apply Kd.az)); exact D3.out⟩, ⟨bO⟩⟩
   rw [if_neg c5] at H
   have C5 := decide_eq_false c5
   clear c5
   obtain rfl := Option.some.inj H
   go_wp2
   go_ret
   exact ⟨_, fO, lG, bO⟩
def bS.jB (a : Bool) (x : S64) : S64 := if a = true then ⟨x.f0, x.f1, !x.f2, x.f3⟩ else ⟨x.f0, x.f1, x.f2, !x.f3⟩
def bS.f (l0 : List S64) (a1 : Bool) : Option (List S64) := if l0.length ≤ 1000000 then some (l0.reverse.map (bS.jB a1)) else none
theorem bS.pM (l : List S64) (a : Bool) (j m : Nat) (h : m + 1 + j = l.length) : (l.reverse.take (j + 1)).map (bS.jB a) = (l.reverse.take j).map (bS.jB a) ++ [bS.jB a (l.getD m z64)] := by
 have hj : j < l.reverse.length := by rw [List.length_reverse]; omega
 rw [List.take_succ_eq_append_getElem hj, List.map_append, List.map_cons, List.map_nil, List.getElem_reverse]
 congr 2
 rw [List.getD_eq_getElem?_getD, List.getElem?_eq_getElem (by omega), Option.getD_some]
 congr 2
 omega
theorem bS.om (a : Bool) (w : World) (base : Nat) (ok : Nat → Prop) (x : S64) : k64.M w base ok (bS.jB a x) [.int .i64 x.f0, .int .i64 x.f1, .bool (if a = true then !x.f2 else x.f2), .bool (if a = true then x.f3 else !x.f3)] := by
 cases a
 ·exact nk w base ok ⟨x.f0, x.f1, x.f2, !x.f3⟩
 ·exact nk w base ok ⟨x.f0, x.f1, !x.f2, x.f3⟩
theorem bS.calls (A0 : Option Addr) (c0 : Nat) (l0 : List (S64)) (a1 : Bool) (r : List (S64)) (w : World) (hr0 : Kd.C k64 w A0 l0.length l0) (hc0 : l0.length ≤ c0) (h : bS.f l0 a1 = some r) :
  Calls Tryz.prog 115 #[.slice A0 l0.length c0, .bool a1] w fun e w' => ∃ v0_ : Value, e = .returned (v0_) ∧ Kd.R k64 64 w' w.heap.size (fun _ => True) v0_ r ∧ Below w.heap.size w w' := by
 unfold bS.f at h
 by_cases hl : l0.length ≤ 1000000
 ·rw [if_pos hl] at h
  injection h with h
  obtain ⟨n, hn⟩ : ∃ n : Nat, l0.length = n := ⟨_, rfl⟩
  rw [hn] at hl
  have HR := a_ hr0
  have HE := a_ h
  have HN := a_ hn
  have HL := a_ hl
  have e1 : wrap64 ((n : Int) - 1) = (n : Int) - 1 := by unfold wrap64; omega
  have f1 : IntKind.i64.wrap ((n : Int) - 1) = (n : Int) - 1 := (eU _).trans e1
  obtain ⟨i0, hi0⟩ : ∃ i0 : Int, (n : Int) - 1 = i0 := ⟨_, rfl⟩
  have HI0 := a_ hi0
  rw [hn]
  have HE1 := a_ (e1.trans hi0)
  clear e1 f1
  clear hr0 h hn hl hc0 hi0
  have HB := a_ (Below.refl w.heap.size w)
  go_enter Tryz.func115, Tryz.ntmps115
  go_wp2_with (first | ((with_reducible refine bf (N := 8) rfl ?_); refine Kd.fU k64 _ 64 ?hg (N := 8) ?hd (xs := ([] : List (S64))) (inner := []) (ok := fun _ => True) (okp := fun _ => True) ?hr ?hp (fun _ hk => hk) trivial (Below.refl _ _) (Nat.le_refl _) (by simp) ?_; (case hd => rfl); (case hg => rfl); (case hr => first | (go_simp; done) | (go_simp; rfl)); (case hp => exact (dm.none _ _)); intro A7 w3 ho4 hb hg_ hnew_; clear hg_ hnew_; have HO := a_ ho4; have HB1 := a_ hb; clear ho4 hb))
  go_loopg [5, 6] (n + 1) (fun kq v5 v6 w' => ∃ (i : Int) (j : Nat), v6 = .int .i64 i ∧ ah (i = (n : Int) - 1 - (j : Int) ∧ j ≤ n ∧ j + kq = n + 1) ∧ ah (Kd.R k64 64 w' w.heap.size (fun _ => True) v5 ((l0.reverse.take j).map (bS.jB a1))) ∧ ah (Below w.heap.size w w'))
  case atStart => exact ⟨wrap64 ((n : Int) - 1), 0, rfl, ⟨by have := HE1.out; have := HI0.out; omega, by omega, by omega⟩, ⟨by simpa using HO.out⟩, HB1⟩
  case round =>
   clear HO HB1 HI0 HE1
   obtain ⟨i, j, rfl, HJ, HO, HB⟩ := hrel
   cases gk with
   | zero => exact absurd HJ.out (fun h => by omega)
   | succ k1 =>
    by_cases hj : j = n
    ·have hi : i < 0 := by have := HJ.out; omega
     have d1 : decide (i ≥ 0) = false := decide_eq_false (by omega)
     have d2 : decide (0 ≤ i) = false := decide_eq_false (by omega)
     clear hi
     have HJN := a_ hj
     clear hj
     go_wp2
     go_ret
     refine ⟨_, rfl, ?_, HB.out⟩
     have h := HO.out
     rw [← HE.out]
     have e : l0.reverse.take j = l0.reverse := List.take_of_length_le (by rw [List.length_reverse, HN.out, HJN.out]; exact Nat.le_refl _)
     rw [e] at h
     exact h
    ·obtain ⟨m, rfl⟩ : ∃ m : Nat, i = (m : Int) := ⟨i.toNat, by have := HJ.out; omega⟩
     have HM := a_ (show m + 1 + j = n by have := HJ.out; omega)
     have hml : m < l0.length := by have := HM.out; have := HN.out; omega
     obtain ⟨ad, eA, hx0, hx1, hx2, hx3⟩ := qP HR.out (m : Int) (by omega) (by omega)
     cases eA
     have hx : aa l0 (m : Int) = l0.getD m z64 := rfl
     rw [hx] at hx0 hx1 hx2 hx3
     clear hx
     have HT := a_ (bS.pM l0 a1 j m (by have := HM.out; have := HN.out; omega))
     have HC := a_ (bS.om a1)
     generalize l0.getD m z64 = x at hx0 hx1 hx2 hx3 HT
     replace hx0 := (HB.out.cell (World.block_lt_of_cell? _ _ hx0)).trans hx0
     replace hx1 := (HB.out.cell (World.block_lt_of_cell? _ _ hx1)).trans hx1
     replace hx2 := (HB.out.cell (World.block_lt_of_cell? _ _ hx2)).trans hx2
     replace hx3 := (HB.out.cell (World.block_lt_of_cell? _ _ hx3)).trans hx3
     rw [show ((m : Int)).toNat = m from Int.toNat_natCast m] at hx0 hx1 hx2 hx3
     have hmn : m < n := by have := HM.out; omega
     have d1 : decide ((m : Int) ≥ 0) = true := decide_eq_true (by omega)
     have d2 : decide (0 ≤ (m : Int)) = true := decide_eq_true (by omega)
     have g1 := eq_true hmn
     have g2 := eq_true (show (m : Int) < (n : Int) by omega)
     have e1 : wrap64 ((m : Int) - 1) = (m : Int) - 1 := by have := HL.out; unfold wrap64; omega
     obtain ⟨i1, hi1⟩ : ∃ i1 : Int, (m : Int) - 1 = i1 := ⟨_, rfl⟩
     have HI1 := a_ hi1
     have HL2 := a_ (show ((l0.reverse.take j).map (bS.jB a1)).length = j by rw [List.length_map, List.length_take, List.length_reverse]; have := HM.out; have := HN.out; omega)
     replace e1 := e1.trans hi1
     have f1 : IntKind.i64.wrap ((m : Int) - 1) = i1 := (eU _).trans e1
     have A5 := a_ (show j + (k1 + 1) = n + 1 from HJ.out.2.2)
     clear hi1 hmn hj hml HJ
     obtain ⟨gb, hgb⟩ : ∃ gb : Nat, wr.heap.size = gb := ⟨_, rfl⟩
     cases a1
     all_goals
      go_upto_if 20 with ((with_reducible refine bf (N := 7) rfl ?_); refine cz ?hg (N := 7) ?hd (cs := #[.int .i64 0, .int .i64 0, .bool false, .bool false]) (t := 64) ?hr ?_; (case hd => rfl); (case hg => rfl); (case hr => first | (go_simp; done) | (go_simp; rfl)); intro A1 hg A4 hbox hb; have BK := a_ hbox; have HBX := a_ hb; have HG := a_ hg; have hcz0 : A4.cell? ⟨A1, 0, none⟩ = some (.int .i64 0) := (ai hbox 0).trans rfl; have hcz1 : A4.cell? ⟨A1, 1, none⟩ = some (.int .i64 0) := (ai hbox 1).trans rfl; have hcz2 : A4.cell? ⟨A1, 2, none⟩ = some (.bool false) := (ai hbox 2).trans rfl; have hcz3 : A4.cell? ⟨A1, 3, none⟩ = some (.bool false) := (ai hbox 3).trans rfl; have hfz0 := bG hbox 0; have hfz1 := bG hbox 1; have hfz2 := bG hbox 2; have hfz3 := bG hbox 3; clear hb hbox hg)
     all_goals
      have hw0 := af HB.out
      have hgE := HG.out
      have HGE := a_ (show w.heap.size ≤ A1 by omega)
      clear hw0 hgE
      have hB1 := a_ (bi (j := 3) (v := .bool x.f3) (bi (j := 2) (v := .bool x.f2) (bi (j := 1) (v := .int .i64 x.f1) (bi (j := 0) (v := .int .i64 x.f0) (jo HB.out HBX.out) HGE.out) HGE.out) HGE.out) HGE.out)
      have hO1 := a_ (Kd.bV (p := ⟨A1, 3, none⟩) (Kd.bV (p := ⟨A1, 2, none⟩) (Kd.bV (p := ⟨A1, 1, none⟩) (Kd.bV (p := ⟨A1, 0, none⟩) (Kd.dN (Kd.jL HO.out A1 (Nat.le_of_eq HG.out.symm)) HBX.out) (fun _ hk => hk.2) (.int .i64 x.f0)) (fun _ hk => hk.2) (.int .i64 x.f1)) (fun _ hk => hk.2) (.bool x.f2)) (fun _ hk => hk.2) (.bool x.f3))
      have hK1 := a_ (fP (fP (fP (fP BK.out 0 (.int .i64 x.f0) rfl) 1 (.int .i64 x.f1) rfl) 2 (.bool x.f2) rfl) 3 (.bool x.f3) rfl)
      clear HO HB HBX HG BK hcz0 hcz1 hcz2 hcz3 hfz0 hfz1 hfz2 hfz3 hx0 hx1 hx2 hx3
      generalize (((A4.setCell ⟨A1, 0, none⟩ (.int .i64 x.f0)).setCell ⟨A1, 1, none⟩ (.int .i64 x.f1)).setCell ⟨A1, 2, none⟩ (.bool x.f2)).setCell ⟨A1, 3, none⟩ (.bool x.f3) = A3 at hB1 hO1 hK1 ⊢
      have hcz0 : A3.cell? ⟨A1, 0, none⟩ = some (.int .i64 x.f0) := (ai hK1.out 0).trans rfl
      have hcz1 : A3.cell? ⟨A1, 1, none⟩ = some (.int .i64 x.f1) := (ai hK1.out 1).trans rfl
      have hcz2 : A3.cell? ⟨A1, 2, none⟩ = some (.bool x.f2) := (ai hK1.out 2).trans rfl
      have hcz3 : A3.cell? ⟨A1, 3, none⟩ = some (.bool x.f3) := (ai hK1.out 3).trans rfl
      have hfz0 := bG hK1.out 0
      have hfz1 := bG hK1.out 1
      have hfz2 := bG hK1.out 2
      have hfz3 := bG hK1.out 3
     ·go_upto_region 9 with (fail)
      have hB2 := a_ (bi (j := 3) (v := .bool !x.f3) hB1.out HGE.out)
      have hO2 := a_ (Kd.bV (p := ⟨A1, 3, none⟩) (Kd.ae (ok' := fun k_ => k_ ≠ A1) hO1.out (fun _ hk => hk.2)) (fun _ hk => hk) (.bool !x.f3))
      have hK2 := a_ (fP hK1.out 3 (.bool !x.f3) rfl)
      clear hB1 hO1 hK1 hcz0 hcz1 hcz2 hcz3 hfz0 hfz1 hfz2 hfz3
      generalize A3.setCell ⟨A1, 3, none⟩ (.bool !x.f3) = A2 at hB2 hO2 hK2 ⊢
      have hM := a_ (fun w base ok => HC.out w base ok x)
      clear HC
      simp only [if_true, if_false, Bool.false_eq_true] at hM
      obtain ⟨y, hy⟩ : ∃ y : S64, bS.jB false x = y := ⟨_, rfl⟩
      obtain ⟨b, hb⟩ : ∃ b : Bool, (!x.f3) = b := ⟨_, rfl⟩
      rw [hy] at hM HT
      rw [hb] at hM hK2
      clear hy hb
      have hcz0 : A2.cell? ⟨A1, 0, none⟩ = some (.int .i64 x.f0) := (ai hK2.out 0).trans rfl
      have hcz1 : A2.cell? ⟨A1, 1, none⟩ = some (.int .i64 x.f1) := (ai hK2.out 1).trans rfl
      have hcz2 : A2.cell? ⟨A1, 2, none⟩ = some (.bool x.f2) := (ai hK2.out 2).trans rfl
      have hcz3 : A2.cell? ⟨A1, 3, none⟩ = some (.bool b) := (ai hK2.out 3).trans rfl
      go_wp2_with ((with_reducible refine bF (b := .append) (xs := #[.tmp 29, .tmp 31]) rfl ?_); at_builtin; refine Kd.fH k64 (w0 := w) w.heap.size rfl (.tmp 29) (.tmp 31) 61 64 (.agg #[(.int .i64 0), (.int .i64 0), (.bool false), (.bool false)]) 24 rfl Tryz.underlying61 lN rfl (by decide) (by omega) u5 ((l0.reverse.take j).map (bS.jB false)) y [.int .i64 x.f0, .int .i64 x.f1, .bool x.f2, .bool b] (fun k_ => k_ ≠ A1) (fun _ => False) rfl (by first | (go_simp; done) | (go_simp; rfl)) ?aP (fun _ hk => hk.elim) ?aF ?aO ?aB ?aS ?aL ?_; (case aP => exact hM.out _ _ _); (case aB => first | exact hB2.out | exact aW hB2.out _); (case aF => first | exact (fun k_ hk => Kd.lg hK2.out k_ hk) | exact (fun k_ hk => Kd.lg hK2.out k_ (Nat.le_trans (by simp) hk))); (case aO => first | exact hO2.out | exact Kd.aC hO2.out _); (case aS => first | exact af hB2.out | exact af (aW hB2.out _)); (case aL => have := HL2.out; have := HL.out; have := HM.out; omega); intro v13 A8 ho hb hg hat; have A6 := a_ ho; have HB3 := a_ hb; clear ho hb hg hat)
      go_roundg k1
      case measure => omega
      case rel => exact ⟨_, j + 1, rfl, ⟨by have := HI1.out; have := HM.out; have := A5.out; omega, by have := HM.out; omega, by have := A5.out; omega⟩, ⟨by rw [HT.out]; exact Kd.ae A6.out (fun _ _ => trivial)⟩, HB3⟩
     ·go_upto_region 9 with (fail)
      have hB2 := a_ (bi (j := 2) (v := .bool !x.f2) hB1.out HGE.out)
      have hO2 := a_ (Kd.bV (p := ⟨A1, 2, none⟩) (Kd.ae (ok' := fun k_ => k_ ≠ A1) hO1.out (fun _ hk => hk.2)) (fun _ hk => hk) (.bool !x.f2))
      have hK2 := a_ (fP hK1.out 2 (.bool !x.f2) rfl)
      clear hB1 hO1 hK1 hcz0 hcz1 hcz2 hcz3 hfz0 hfz1 hfz2 hfz3
      generalize A3.setCell ⟨A1, 2, none⟩ (.bool !x.f2) = A2 at hB2 hO2 hK2 ⊢
      have hM := a_ (fun w base ok => HC.out w base ok x)
      clear HC
      simp only [if_true, if_false, Bool.false_eq_true] at hM
      obtain ⟨y, hy⟩ : ∃ y : S64, bS.jB true x = y := ⟨_, rfl⟩
      obtain ⟨b, hb⟩ : ∃ b : Bool, (!x.f2) = b := ⟨_, rfl⟩
      rw [hy] at hM HT
      rw [hb] at hM hK2
      clear hy hb
      have hcz0 : A2.cell? ⟨A1, 0, none⟩ = some (.int .i64 x.f0) := (ai hK2.out 0).trans rfl
      have hcz1 : A2.cell? ⟨A1, 1, none⟩ = some (.int .i64 x.f1) := (ai hK2.out 1).trans rfl
      have hcz2 : A2.cell? ⟨A1, 2, none⟩ = some (.bool b) := (ai hK2.out 2).trans rfl
      have hcz3 : A2.cell? ⟨A1, 3, none⟩ = some (.bool x.f3) := (ai hK2.out 3).trans rfl
      go_wp2_with ((with_reducible refine bF (b := .append) (xs := #[.tmp 29, .tmp 31]) rfl ?_); at_builtin; refine Kd.fH k64 (w0 := w) w.heap.size rfl (.tmp 29) (.tmp 31) 61 64 (.agg #[(.int .i64 0), (.int .i64 0), (.bool false), (.bool false)]) 24 rfl Tryz.underlying61 lN rfl (by decide) (by omega) u5 ((l0.reverse.take j).map (bS.jB true)) y [.int .i64 x.f0, .int .i64 x.f1, .bool b, .bool x.f3] (fun k_ => k_ ≠ A1) (fun _ => False) rfl (by first | (go_simp; done) | (go_simp; rfl)) ?aP (fun _ hk => hk.elim) ?aF ?aO ?aB ?aS ?aL ?_; (case aP => exact hM.out _ _ _); (case aB => first | exact hB2.out | exact aW hB2.out _); (case aF => first | exact (fun k_ hk => Kd.lg hK2.out k_ hk) | exact (fun k_ hk => Kd.lg hK2.out k_ (Nat.le_trans (by simp) hk))); (case aO => first | exact hO2.out | exact Kd.aC hO2.out _); (case aS => first | exact af hB2.out | exact af (aW hB2.out _)); (case aL => have := HL2.out; have := HL.out; have := HM.out; omega); intro v13 A8 ho hb hg hat; have A6 := a_ ho; have HB3 := a_ hb; clear ho hb hg hat)
      go_roundg k1
      case measure => omega
      case rel => exact ⟨_, j + 1, rfl, ⟨by have := HI1.out; have := HM.out; have := A5.out; omega, by have := HM.out; omega, by have := A5.out; omega⟩, ⟨by rw [HT.out]; exact Kd.ae A6.out (fun _ _ => trivial)⟩, HB3⟩
 ·rw [if_neg hl] at h; cases h
end Go.Proofs.YtkpidjmhdagkfaaGreatDoor.QFnReadForms
