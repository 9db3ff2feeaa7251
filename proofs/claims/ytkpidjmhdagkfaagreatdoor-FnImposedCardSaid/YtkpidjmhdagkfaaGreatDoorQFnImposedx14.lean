-- Written by own_print.py of this session's repo over the kit's print (its output, turned at some places).
import Derived.Test.YtkpidjmhdagkfaaGreatDoorQFnImposedx0
import Derived.Test.YtkpidjmhdagkfaaGreatDoorQFnImposedx1
import Derived.Test.YtkpidjmhdagkfaaGreatDoorQFnImposedx4
import Derived.Test.YtkpidjmhdagkfaaGreatDoorQFnImposedx5
import Derived.Test.YtkpidjmhdagkfaaGreatDoorQFnImposedx6
import Derived.Test.YtkpidjmhdagkfaaGreatDoorQFnImposedx9
import Derived.Test.YtkpidjmhdagkfaaGreatDoorQFnImposedx11
import Derived.Test.YtkpidjmhdagkfaaGreatDoorQFnImposedx12
import Derived.Test.YtkpidjmhdagkfaaGreatDoorQFnImposedx13
namespace Go.Proofs.YtkpidjmhdagkfaaGreatDoor.QFnImposed
open Go.RowKit Go.Proofs.YtkpidjmhdagkfaaGreatDoorW.PrintWords Go.Proofs.YtkpidjmhdagkfaaGreatDoorW.PrintLast Go.Proofs.YtkpidjmhdagkfaaGreatDoorW.PrintMore
attribute [local go_sem] fU fT gP gQ fw fA fQ fV
set_option maxHeartbeats 8000000
set_option maxRecDepth 100000
set_option linter.unusedVariables false
set_option linter.unusedSimpArgs false
mutual
def aQ.j0 : Nat → Int → Int → ByteArray → Int → Bool → Int → Int → List Int → List Int → List Int → Option (Bool)
 | 0, _, _, _, _, _, _, _, _, _, _ => none
 | k + 1, x3, x4, x5, x7, x90, x647000, x647001, x647002, x647003, x647004 => if x90 = true then (none) else (if x7 = 0 then ((dY.f k x647000 x647001 x647002 x647003 x647004 x5).bind fun bt703 => ((fP.f k x647000 x647001 x647002 x647003 x647004 x5).bind fun bt705 => ((dm.f k x647000 x647001 x647002 x647003 x647004 16).bind fun bt709 => ((dY.f k bt709.1 bt709.2.1 bt709.2.2.1 bt709.2.2.2.1 bt709.2.2.2.2.1 x5).bind fun bt722 => (if bt703.2 = 0 then (if bt703.1 = true then (if bt705.2 = 0 then (if bt709.2.2.2.2.2 = 0 then (if bt722.2 = 0 then (aQ.j1 k x3 x4 bt705.1 (!bt722.1) x647000 x647001 x647002 x647003 x647004) else (none)) else (none)) else (none)) else (none)) else (none)))))) else (some true))
def aQ.j1 : Nat → Int → Int → List Int → Bool → Int → Int → List Int → List Int → List Int → Option (Bool)
 | 0, _, _, _, _, _, _, _, _, _ => none
 | k + 1, x3, x4, x18, x137, x647000, x647001, x647002, x647003, x647004 => if x137 = true then (none) else (aQ.l0 k x3 x4 x18 0 x647000 x647001 x647002 x647003 x647004)
def aQ.l0 : Nat → Int → Int → List Int → Int → Int → Int → List Int → List Int → List Int → Option (Bool)
 | 0, _, _, _, _, _, _, _, _, _ => none
 | k + 1, x3, x4, x18, x24, x647000, x647001, x647002, x647003, x647004 => if x24 < (x18.length : Int) then (if 0 ≤ x24 then (if (rd x18 x24) = (wrap64 (x24 + 1)) then (aQ.l0 k x3 x4 x18 (wrap64 (x24 + 1)) x647000 x647001 x647002 x647003 x647004) else (none)) else (none)) else (if (x18.length : Int) = (wrap64 ((wrap64 (2 * x3)) * x4)) then ((aW.f k x647000 x647001 x647002 x647003 x647004).bind fun t725 => (some t725)) else (none))
end
def aQ.f (k : Nat) (l0 : List Int) : Option (Bool) := (kI.f l0).bind fun t630 => (if t630 = true then (some true) else ((dO.f k l0).bind fun bt631 => ((ah.f k bt631.1 bt631.2.1 bt631.2.2).bind fun bt634 => ((dB.f k bt631.1 bt631.2.1 bt631.2.2).bind fun bt647 => ((dX.f k l0).bind fun bt660 => ((dm.f k bt660.1 bt660.2.1 bt660.2.2.1 bt660.2.2.2.1 bt660.2.2.2.2.1 bt660.2.2.2.2.2).bind fun bt673 => ((dA.f k bt660.1 bt660.2.1 bt660.2.2.1 bt660.2.2.2.1 bt660.2.2.2.2.1 bt660.2.2.2.2.2).bind fun bt686 => (if bt634.2.2.2.2.2 = bt647.2.2.2.2.2 then ((dP.f k bt634.1 bt634.2.1 bt634.2.2.1 bt634.2.2.2.1 bt634.2.2.2.2.1 bt647.1 bt647.2.1 bt647.2.2.1 bt647.2.2.2.1 bt647.2.2.2.2.1).bind fun t699 => (if t699 = true then (if bt673.2.2.2.2.2 = bt686.2.2.2.2.2 then ((dP.f k bt673.1 bt673.2.1 bt673.2.2.1 bt673.2.2.2.1 bt673.2.2.2.2.1 bt686.1 bt686.2.1 bt686.2.2.1 bt686.2.2.2.1 bt686.2.2.2.2.1).bind fun t700 => (if t700 = true then ((aW.f k bt660.1 bt660.2.1 bt660.2.2.1 bt660.2.2.2.1 bt660.2.2.2.2.1).bind fun t701 => ((aK.f k bt660.1 bt660.2.1 bt660.2.2.1 bt660.2.2.2.1 bt660.2.2.2.2.1).bind fun t702 => (aQ.j0 k bt631.1 bt631.2.1 bt631.2.2 bt634.2.2.2.2.2 (t701 != t702) bt634.1 bt634.2.1 bt634.2.2.1 bt634.2.2.2.1 bt634.2.2.2.2.1))) else (none))) else (none)) else (none))) else (none)))))))))
theorem aQ.dC : ∀ k, (∀ y0 y1 y2 y3 y4 y5 y6 y7 y8 y9, LeO (aQ.j0 k y0 y1 y2 y3 y4 y5 y6 y7 y8 y9) (aQ.j0 (k + 1) y0 y1 y2 y3 y4 y5 y6 y7 y8 y9)) ∧ (∀ y0 y1 y2 y3 y4 y5 y6 y7 y8, LeO (aQ.j1 k y0 y1 y2 y3 y4 y5 y6 y7 y8) (aQ.j1 (k + 1) y0 y1 y2 y3 y4 y5 y6 y7 y8)) ∧ (∀ y0 y1 y2 y3 y4 y5 y6 y7 y8, LeO (aQ.l0 k y0 y1 y2 y3 y4 y5 y6 y7 y8) (aQ.l0 (k + 1) y0 y1 y2 y3 y4 y5 y6 y7 y8))
 | 0 => ⟨fun _ _ _ _ _ _ _ _ _ _ r h => by simp [aQ.j0] at h, fun _ _ _ _ _ _ _ _ _ r h => by simp [aQ.j1] at h, fun _ _ _ _ _ _ _ _ _ r h => by simp [aQ.l0] at h⟩
 | k + 1 => by
  obtain ⟨ih0, ih1, ih2⟩ := aQ.dC k
  refine ⟨?_, ?_, ?_⟩ <;> intros <;> (first | unfold aQ.j0 | unfold aQ.j1 | unfold aQ.l0) <;> (repeat' first | (with_reducible first | exact ih0 .. | exact ih1 .. | exact ih2 .. | exact ah.mono .. | exact aW.mono .. | exact dY.mono .. | exact fP.mono .. | exact dm.mono .. | exact dP.mono .. | exact dO.mono .. | exact dX.mono .. | exact dB.mono .. | exact aK.mono .. | exact dA.mono .. | exact LeO.refl .. | exact LeO.none .. | refine LeO.ite ?_ ?_ | refine LeO.bind ?_ (fun _ => ?_)))
theorem aQ.mono : ∀ a0 k, LeO (aQ.f k a0) (aQ.f (k + 1) a0) := by
 intro a0 k
 obtain ⟨ih0, ih1, ih2⟩ := aQ.dC k
 unfold aQ.f
 repeat' first | (with_reducible first | exact ih0 .. | exact ih1 .. | exact ih2 .. | exact ah.mono .. | exact aW.mono .. | exact dY.mono .. | exact fP.mono .. | exact dm.mono .. | exact dP.mono .. | exact dO.mono .. | exact dX.mono .. | exact dB.mono .. | exact aK.mono .. | exact dA.mono .. | exact LeO.refl .. | exact LeO.none .. | refine LeO.ite ?_ ?_ | refine LeO.bind ?_ (fun _ => ?_))
def aQ.T9 : Bool × List (List Nat × List Nat) := (true, [([], []), ([], []), ([0, 1], [0, 1]), ([2], [2]), ([3], [3]), ([3], [3]), ([4, 5, 3, 3], [3, 4, 5]), ([6, 3], [3, 6]), ([3, 7], [3, 7]), ([8, 6], [8]), ([9], [9]), ([9], [9]), ([10, 11, 9], [9, 10, 11]), ([9, 12], [9, 12]), ([13, 9], [13]), ([14], [14]), ([14], [14]), ([15, 16, 14, 14], [14, 15, 16]), ([17, 14], [14, 17]), ([14, 18], [14, 18]), ([19, 17], [19]), ([20], [20]), ([21, 20, 20], [20, 21]), ([20], [20]), ([23, 22, 20], [20, 23]), ([22, 24, 20], [20, 22, 24]), ([20, 25], [20, 25])])
def aQ.B9 : List Nat := [0, 0, 3, 7, 15, 15, 63, 127, 255, 511, 1023, 1023, 4095, 8191, 16383, 32767, 32767, 131071, 262143, 524287, 1048575, 2097151, 4194303, 2097151, 16777215, 33554431, 67108863]
theorem aQ.yU : ig .any (opsOf Tryz.f4 9) = aQ.T9 := by kernel_rfl
theorem aQ.vw : gm aQ.T9.2 aQ.B9 = true := by kernel_rfl
theorem aQ.calls (k : Nat) (A0 : Option Addr) (c0 : Nat) (l0 : List Int) (r : Bool) (w : World) (hr0 : Kd.C (Kd.int .u8) w A0 l0.length l0) (hc0 : l0.length ≤ c0) (h : aQ.f k l0 = some r) :
  Calls Tryz.prog 4 #[.slice A0 l0.length c0] w fun e w' => e = .returned (.bool r) ∧ Below w.heap.size w w' := by
 have hu28 := Tryz.underlying28
 have HR0 := a_ hr0
 have X8 := a_ hc0
 clear hr0 hc0
 have HB := a_ (Below.refl w.heap.size w)
 have H : ((kI.f l0).bind fun V5 => (if V5 = true then (some true) else ((dO.f k l0).bind fun G4 => ((ah.f k G4.1 G4.2.1 G4.2.2).bind fun F5 => ((dB.f k G4.1 G4.2.1 G4.2.2).bind fun J0 => ((dX.f k l0).bind fun C5 => ((dm.f k C5.1 C5.2.1 C5.2.2.1 C5.2.2.2.1 C5.2.2.2.2.1 C5.2.2.2.2.2).bind fun J1 => ((dA.f k C5.1 C5.2.1 C5.2.2.1 C5.2.2.2.1 C5.2.2.2.2.1 C5.2.2.2.2.2).bind fun J2 => (if F5.2.2.2.2.2 = J0.2.2.2.2.2 then ((dP.f k F5.1 F5.2.1 F5.2.2.1 F5.2.2.2.1 F5.2.2.2.2.1 J0.1 J0.2.1 J0.2.2.1 J0.2.2.2.1 J0.2.2.2.2.1).bind fun O5 => (if O5 = true then (if J1.2.2.2.2.2 = J2.2.2.2.2.2 then ((dP.f k J1.1 J1.2.1 J1.2.2.1 J1.2.2.2.1 J1.2.2.2.2.1 J2.1 J2.2.1 J2.2.2.1 J2.2.2.2.1 J2.2.2.2.2.1).bind fun M7 => (if M7 = true then ((aW.f k C5.1 C5.2.1 C5.2.2.1 C5.2.2.2.1 C5.2.2.2.2.1).bind fun L0 => ((aK.f k C5.1 C5.2.1 C5.2.2.1 C5.2.2.2.1 C5.2.2.2.2.1).bind fun L1 => (aQ.j0 k G4.1 G4.2.1 G4.2.2 F5.2.2.2.2.2 (L0 != L1) F5.1 F5.2.1 F5.2.2.1 F5.2.2.2.1 F5.2.2.2.2.1))) else (none))) else (none)) else (none))) else (none)))))))))) = some r := h
 clear h
 replace H := bo_ H; obtain ⟨V5, A2, H⟩ := H; (try dsimp only at H)
 by_cases c3 : V5 = true
 ·subst c3
  have H1 : (some true) = some r := by rw [if_pos rfl] at H; exact H
  clear H
  have H := H1
  clear H1
  obtain rfl := Option.some.inj H
  go_enter Tryz.func4, Tryz.ntmps4
  go_wp2_with (first | ((with_reducible refine av (f := 12) rfl ?_); refine bJ (some 26) rfl rfl Tryz.func12 (by kernel_rfl) rfl #[.slice A0 l0.length c0] rfl dN ?_; (with_reducible refine (kI.calls _ _ l0 true _ ?side1 ?side2 A2.out).mono ?_); (case side1 => exact Bw); (case side2 => exact X8.out); rintro e w' ⟨rfl, ⟨nd, rfl⟩⟩; refine ⟨_, rfl, ?_⟩))
  go_ret
  exact ⟨gy, bX⟩
 ·replace c3 := Bool.eq_false_iff.mpr c3
  subst c3
  have H1 : ((dO.f k l0).bind fun G4 => ((ah.f k G4.1 G4.2.1 G4.2.2).bind fun F5 => ((dB.f k G4.1 G4.2.1 G4.2.2).bind fun J0 => ((dX.f k l0).bind fun C5 => ((dm.f k C5.1 C5.2.1 C5.2.2.1 C5.2.2.2.1 C5.2.2.2.2.1 C5.2.2.2.2.2).bind fun J1 => ((dA.f k C5.1 C5.2.1 C5.2.2.1 C5.2.2.2.1 C5.2.2.2.2.1 C5.2.2.2.2.2).bind fun J2 => (if F5.2.2.2.2.2 = J0.2.2.2.2.2 then ((dP.f k F5.1 F5.2.1 F5.2.2.1 F5.2.2.2.1 F5.2.2.2.2.1 J0.1 J0.2.1 J0.2.2.1 J0.2.2.2.1 J0.2.2.2.2.1).bind fun O5 => (if O5 = true then (if J1.2.2.2.2.2 = J2.2.2.2.2.2 then ((dP.f k J1.1 J1.2.1 J1.2.2.1 J1.2.2.2.1 J1.2.2.2.2.1 J2.1 J2.2.1 J2.2.2.1 J2.2.2.2.1 J2.2.2.2.2.1).bind fun M7 => (if M7 = true then ((aW.f k C5.1 C5.2.1 C5.2.2.1 C5.2.2.2.1 C5.2.2.2.2.1).bind fun L0 => ((aK.f k C5.1 C5.2.1 C5.2.2.1 C5.2.2.2.1 C5.2.2.2.2.1).bind fun L1 => (aQ.j0 k G4.1 G4.2.1 G4.2.2 F5.2.2.2.2.2 (L0 != L1) F5.1 F5.2.1 F5.2.2.1 F5.2.2.2.1 F5.2.2.2.2.1))) else (none))) else (none)) else (none))) else (none)))))))) = some r := by rw [if_neg (show ¬ (false = true) by decide)] at H; exact H
  clear H
  have H := H1
  clear H1
  replace H := bo_ H; obtain ⟨⟨J9, K0, J5⟩, A4, H⟩ := H; (try dsimp only at H)
  replace H := bo_ H; obtain ⟨⟨F7, F8, C2, C3, C4, K3⟩, A5, H⟩ := H; (try dsimp only at H)
  replace H := bo_ H; obtain ⟨⟨M4, M5, F9, G0, G1, V6⟩, A6, H⟩ := H; (try dsimp only at H)
  replace H := bo_ H; obtain ⟨⟨J6, J7, E3, E4, F4, O6⟩, A7, H⟩ := H; (try dsimp only at H)
  replace H := bo_ H; obtain ⟨⟨M8, M9, I1, I2, I3, P1⟩, A8, H⟩ := H; (try dsimp only at H)
  replace H := bo_ H; obtain ⟨⟨G9, H0, D9, E0, E1, P2⟩, A9, H⟩ := H; (try dsimp only at H)
  have V7 := a_ H
  clear H
  go_enter Tryz.func4, Tryz.ntmps4
  go_upto_region 9 with (first | ((with_reducible refine av (f := 12) rfl ?_); refine bJ (some 26) rfl rfl Tryz.func12 (by kernel_rfl) rfl #[.slice A0 l0.length c0] rfl dN ?_; (with_reducible refine (kI.calls _ _ l0 false _ ?side1 ?side2 A2.out).mono ?_); (case side1 => exact Bw); (case side2 => exact X8.out); rintro e w' ⟨rfl, ⟨nd, rfl⟩⟩; refine ⟨_, rfl, ?_⟩) | ((with_reducible refine av (f := 13) rfl ?_); refine bJ (some 29) rfl rfl Tryz.func13 (by kernel_rfl) rfl #[.slice A0 l0.length c0] rfl dN ?_; (with_reducible refine (dO.calls k _ _ l0 J9 K0 J5 _ ?side1 ?side2 A4.out).mono ?_); (case side1 => exact Bw); (case side2 => exact X8.out); rintro e q6 ⟨rfl, hb⟩; refine ⟨_, rfl, ?_⟩; replace HB := cK bX hb; (try clear hb)) | ((with_reducible refine av (f := 14) rfl ?_); refine bJ (some 37) rfl rfl Tryz.func14 (by kernel_rfl) rfl #[.int .i64 J9, .int .i64 K0, .string J5] rfl dN ?_; (with_reducible refine (ah.calls k J9 K0 J5 F7 F8 C2 C3 C4 K3 _ A5.out).mono ?_); rintro e q7 ⟨l8, l9, m0, rfl, ho0, ho1, ho2, hb⟩; refine ⟨_, rfl, ?_⟩; have B7 := a_ (Kd.bE ho0 (ai bX)); have C0 := a_ (Kd.bE ho1 (ai bX)); have C1 := a_ (Kd.bE ho2 (ai bX)); replace HB := cK bX hb; (try clear hb); (try clear ho0); (try clear ho1); (try clear ho2)) | ((with_reducible refine bn (N := 6) rfl ?_); refine bG ?hg (N := 6) ?hd (cs := #[.int .i64 0, .int .i64 0, .slice none 0 0, .slice none 0 0, .slice none 0 0]) (t := 28) ?hr ?_; (case hd => rfl); (case hg => rfl); (case hr => first | (go_simp; done) | (go_simp; rfl)); intro gb646 hg m1 hbox hb; replace B7 := rl_ B7 hb; replace C0 := rl_ C0 hb; replace C1 := rl_ C1 hb; have BK646 := a_ (hbox); have i8 := a_ ((fO : w.heap.size ≤ gb646)); have GE646 := a_ ((fO : w.heap.size ≤ gb646)); replace HB := cK bX hb; clear hb hbox hg; obtain ⟨X9, Y0, Y1, Y2, Y3, Y4, Y5, Y6, Y7, Y8⟩ := eU (w := m1) BK646.out; obtain ⟨D2, D3, g2⟩ := Kd.bg B7.out; subst g2; obtain ⟨D4, D5, g3⟩ := Kd.bg C0.out; subst g3; obtain ⟨D6, D7, g4⟩ := Kd.bg C1.out; subst g4) | ((with_reducible refine av (f := 15) rfl ?_); refine bJ (some 44) rfl rfl Tryz.func15 (by kernel_rfl) rfl #[.int .i64 J9, .int .i64 K0, .string J5] rfl dN ?_; (with_reducible refine (dB.calls k J9 K0 J5 M4 M5 F9 G0 G1 V6 _ A6.out).mono ?_); rintro e q8 ⟨m2, m3, m4, rfl, ho0, ho1, ho2, hb⟩; refine ⟨_, rfl, ?_⟩; have C6 := a_ (Kd.bE (Kd.bq (Kd.bq (Kd.bq ho0 (Kd.df (rc_ (h := by exact Kd.ae (bU B7.out BK646.out) (fun _ h_ => h_.1))))) (Kd.df (rc_ (h := by exact Kd.ae (bU C0.out BK646.out) (fun _ h_ => h_.1))))) (Kd.df (rc_ (h := by exact Kd.ae (bU C1.out BK646.out) (fun _ h_ => h_.1))))) (ai lZ)); have C7 := a_ (Kd.bE (Kd.bq (Kd.bq (Kd.bq ho1 (Kd.df (rc_ (h := by exact Kd.ae (bU B7.out BK646.out) (fun _ h_ => h_.1))))) (Kd.df (rc_ (h := by exact Kd.ae (bU C0.out BK646.out) (fun _ h_ => h_.1))))) (Kd.df (rc_ (h := by exact Kd.ae (bU C1.out BK646.out) (fun _ h_ => h_.1))))) (ai lZ)); have C8 := a_ (Kd.bE (Kd.bq (Kd.bq (Kd.bq ho2 (Kd.df (rc_ (h := by exact Kd.ae (bU B7.out BK646.out) (fun _ h_ => h_.1))))) (Kd.df (rc_ (h := by exact Kd.ae (bU C0.out BK646.out) (fun _ h_ => h_.1))))) (Kd.df (rc_ (h := by exact Kd.ae (bU C1.out BK646.out) (fun _ h_ => h_.1))))) (ai lZ)); replace B7 := a_ (Kd.ae (Kd.bV (Kd.bV (Kd.bV (Kd.iy (rc_ (h := by exact Kd.ae (bU B7.out BK646.out) (fun _ h_ => h_.1))) hb) (Kd.aH ho0)) (Kd.aH ho1)) (Kd.aH ho2)) (fun _ h_ => h_.1)); replace C0 := a_ (Kd.ae (Kd.bV (Kd.bV (Kd.bV (Kd.iy (rc_ (h := by exact Kd.ae (bU C0.out BK646.out) (fun _ h_ => h_.1))) hb) (Kd.aH ho0)) (Kd.aH ho1)) (Kd.aH ho2)) (fun _ h_ => h_.1)); replace C1 := a_ (Kd.ae (Kd.bV (Kd.bV (Kd.bV (Kd.iy (rc_ (h := by exact Kd.ae (bU C1.out BK646.out) (fun _ h_ => h_.1))) hb) (Kd.aH ho0)) (Kd.aH ho1)) (Kd.aH ho2)) (fun _ h_ => h_.1)); replace BK646 := a_ (dL (g := gb646) (o := .cells #[.int .i64 F7, .int .i64 F8, .slice D2 C2.length D3, .slice D4 C3.length D5, .slice D6 C4.length D7] 28 (0, 0)) (gB (h := by exact gK BK646.out)) hb); replace HB := cK lZ hb; (try clear hb); (try clear ho0); (try clear ho1); (try clear ho2)) | ((with_reducible refine bn (N := 8) rfl ?_); refine bG ?hg (N := 8) ?hd (cs := #[.int .i64 0, .int .i64 0, .slice none 0 0, .slice none 0 0, .slice none 0 0]) (t := 28) ?hr ?_; (case hd => rfl); (case hg => rfl); (case hr => first | (go_simp; done) | (go_simp; rfl)); intro D8 hg m5 hbox hb; replace B7 := rl_ B7 hb; replace C0 := rl_ C0 hb; replace C1 := rl_ C1 hb; replace C6 := rl_ C6 hb; replace C7 := rl_ C7 hb; replace C8 := rl_ C8 hb; have B3 := a_ (hbox); have i9 := a_ ((zO : w.heap.size ≤ D8)); have GE659 := a_ ((zO : w.heap.size ≤ D8)); replace HB := cK lZ hb; have L2 := a_ ((vG : gb646 ≠ D8)); have N4 := a_ ((vB : D8 ≠ gb646)); replace BK646 := bb_ gb646 BK646 hb; clear hb hbox hg; have hnb20 := N4.out; have hnc20 := L2.out; obtain ⟨Y9, Z0, Z1, Z2, Z3, Z4, Z5, Z6, Z7, Z8⟩ := eU (w := m5) B3.out; obtain ⟨H4, H5, g5⟩ := Kd.bg C6.out; subst g5; obtain ⟨H6, H7, g6⟩ := Kd.bg C7.out; subst g6; obtain ⟨H8, H9, g7⟩ := Kd.bg C8.out; subst g7) | ((with_reducible refine av (f := 16) rfl ?_); refine bJ (some 49) rfl rfl Tryz.func16 (by kernel_rfl) rfl #[.slice A0 l0.length c0] rfl dN ?_; (with_reducible refine (dX.calls k _ _ l0 J6 J7 E3 E4 F4 O6 _ ?side1 ?side2 A7.out).mono ?_); (case side1 => exact Kd.bT HR0.out uY); (case side2 => exact X8.out); rintro e q9 ⟨m6, m7, m8, rfl, ho0, ho1, ho2, hb⟩; refine ⟨_, rfl, ?_⟩; have D0 := a_ (Kd.bE (Kd.bq (Kd.bq (Kd.bq (Kd.bq (Kd.bq (Kd.bq ho0 (Kd.df (rc_ (h := by exact Kd.ae (bU B7.out B3.out) (fun _ h_ => h_.1))))) (Kd.df (rc_ (h := by exact Kd.ae (bU C0.out B3.out) (fun _ h_ => h_.1))))) (Kd.df (rc_ (h := by exact Kd.ae (bU C1.out B3.out) (fun _ h_ => h_.1))))) (Kd.df (rc_ (h := by exact Kd.ae (bU C6.out B3.out) (fun _ h_ => h_.1))))) (Kd.df (rc_ (h := by exact Kd.ae (bU C7.out B3.out) (fun _ h_ => h_.1))))) (Kd.df (rc_ (h := by exact Kd.ae (bU C8.out B3.out) (fun _ h_ => h_.1))))) (ai uY)); have D1 := a_ (Kd.bE (Kd.bq (Kd.bq (Kd.bq (Kd.bq (Kd.bq (Kd.bq ho1 (Kd.df (rc_ (h := by exact Kd.ae (bU B7.out B3.out) (fun _ h_ => h_.1))))) (Kd.df (rc_ (h := by exact Kd.ae (bU C0.out B3.out) (fun _ h_ => h_.1))))) (Kd.df (rc_ (h := by exact Kd.ae (bU C1.out B3.out) (fun _ h_ => h_.1))))) (Kd.df (rc_ (h := by exact Kd.ae (bU C6.out B3.out) (fun _ h_ => h_.1))))) (Kd.df (rc_ (h := by exact Kd.ae (bU C7.out B3.out) (fun _ h_ => h_.1))))) (Kd.df (rc_ (h := by exact Kd.ae (bU C8.out B3.out) (fun _ h_ => h_.1))))) (ai uY)); have C9 := a_ (Kd.bE (Kd.bq (Kd.bq (Kd.bq (Kd.bq (Kd.bq (Kd.bq ho2 (Kd.df (rc_ (h := by exact Kd.ae (bU B7.out B3.out) (fun _ h_ => h_.1))))) (Kd.df (rc_ (h := by exact Kd.ae (bU C0.out B3.out) (fun _ h_ => h_.1))))) (Kd.df (rc_ (h := by exact Kd.ae (bU C1.out B3.out) (fun _ h_ => h_.1))))) (Kd.df (rc_ (h := by exact Kd.ae (bU C6.out B3.out) (fun _ h_ => h_.1))))) (Kd.df (rc_ (h := by exact Kd.ae (bU C7.out B3.out) (fun _ h_ => h_.1))))) (Kd.df (rc_ (h := by exact Kd.ae (bU C8.out B3.out) (fun _ h_ => h_.1))))) (ai uY)); replace B7 := a_ (Kd.ae (Kd.bV (Kd.bV (Kd.bV (Kd.iy (rc_ (h := by exact Kd.ae (bU B7.out B3.out) (fun _ h_ => h_.1))) hb) (Kd.aH ho0)) (Kd.aH ho1)) (Kd.aH ho2)) (fun _ h_ => h_.1)); replace C0 := a_ (Kd.ae (Kd.bV (Kd.bV (Kd.bV (Kd.iy (rc_ (h := by exact Kd.ae (bU C0.out B3.out) (fun _ h_ => h_.1))) hb) (Kd.aH ho0)) (Kd.aH ho1)) (Kd.aH ho2)) (fun _ h_ => h_.1)); replace C1 := a_ (Kd.ae (Kd.bV (Kd.bV (Kd.bV (Kd.iy (rc_ (h := by exact Kd.ae (bU C1.out B3.out) (fun _ h_ => h_.1))) hb) (Kd.aH ho0)) (Kd.aH ho1)) (Kd.aH ho2)) (fun _ h_ => h_.1)); replace C6 := a_ (Kd.ae (Kd.bV (Kd.bV (Kd.bV (Kd.iy (rc_ (h := by exact Kd.ae (bU C6.out B3.out) (fun _ h_ => h_.1))) hb) (Kd.aH ho0)) (Kd.aH ho1)) (Kd.aH ho2)) (fun _ h_ => h_.1)); replace C7 := a_ (Kd.ae (Kd.bV (Kd.bV (Kd.bV (Kd.iy (rc_ (h := by exact Kd.ae (bU C7.out B3.out) (fun _ h_ => h_.1))) hb) (Kd.aH ho0)) (Kd.aH ho1)) (Kd.aH ho2)) (fun _ h_ => h_.1)); replace C8 := a_ (Kd.ae (Kd.bV (Kd.bV (Kd.bV (Kd.iy (rc_ (h := by exact Kd.ae (bU C8.out B3.out) (fun _ h_ => h_.1))) hb) (Kd.aH ho0)) (Kd.aH ho1)) (Kd.aH ho2)) (fun _ h_ => h_.1)); replace BK646 := a_ (dL (g := gb646) (o := .cells #[.int .i64 F7, .int .i64 F8, .slice D2 C2.length D3, .slice D4 C3.length D5, .slice D6 C4.length D7] 28 (0, 0)) (gB (h := by exact lw L2.out BK646.out)) hb); replace B3 := a_ (dL (g := D8) (o := .cells #[.int .i64 M4, .int .i64 M5, .slice H4 F9.length H5, .slice H6 G0.length H7, .slice H8 G1.length H9] 28 (0, 0)) (gB (h := by exact gK B3.out)) hb); replace HB := cK uY hb; (try clear hb); (try clear ho0); (try clear ho1); (try clear ho2)) | ((with_reducible refine bn (N := 10) rfl ?_); refine bG ?hg (N := 10) ?hd (cs := #[.int .i64 0, .int .i64 0, .slice none 0 0, .slice none 0 0, .slice none 0 0]) (t := 28) ?hr ?_; (case hd => rfl); (case hg => rfl); (case hr => first | (go_simp; done) | (go_simp; rfl)); intro E2 hg m9 hbox hb; replace B7 := rl_ B7 hb; replace C0 := rl_ C0 hb; replace C1 := rl_ C1 hb; replace C6 := rl_ C6 hb; replace C7 := rl_ C7 hb; replace C8 := rl_ C8 hb; replace D0 := rl_ D0 hb; replace D1 := rl_ D1 hb; replace C9 := rl_ C9 hb; have B0 := a_ (hbox); have j3 := a_ ((by rw [hg]; exact (ai uY) : w.heap.size ≤ E2)); have GE672 := a_ ((by rw [hg]; exact (ai uY) : w.heap.size ≤ E2)); replace HB := cK uY hb; have L3 := a_ ((vG : gb646 ≠ E2)); have N5 := a_ ((vB : E2 ≠ gb646)); replace BK646 := bb_ gb646 BK646 hb; have L4 := a_ ((by rw [hg]; exact Nat.ne_of_lt (dI (g := D8) (rb_ B3.out)) : D8 ≠ E2)); have N6 := a_ ((by rw [hg]; exact Nat.ne_of_gt (dI (g := D8) (rb_ B3.out)) : E2 ≠ D8)); replace B3 := bb_ D8 B3 hb; clear hb hbox hg; have hnb27 := N5.out; have hnc27 := L3.out; have hnb28 := N6.out; have hnc28 := L4.out; obtain ⟨Z9, a5, a6, a7, a8, a9, b0, b1, b2, b3⟩ := eU (w := m9) B0.out; obtain ⟨H2, G2, g8⟩ := Kd.bg D0.out; subst g8; obtain ⟨H3, G3, g9⟩ := Kd.bg D1.out; subst g9; obtain ⟨I0, G5, h2⟩ := Kd.bg C9.out; subst h2) | ((with_reducible refine av (f := 17) rfl ?_); refine bJ (some 55) rfl rfl Tryz.func17 (by kernel_rfl) rfl #[.agg #[.int .i64 J6, .int .i64 J7, .slice H2 E3.length G2, .slice H3 E4.length G3, .slice I0 F4.length G5], .int .i64 O6] rfl dN ?_; (with_reducible refine (dm.calls k J6 J7 _ _ E3 _ _ E4 _ _ F4 O6 M8 M9 I1 I2 I3 P1 _ ?side1 ?side2 ?side3 ?side4 ?side5 ?side6 A8.out).mono ?_); (case side1 => refine (Kd.aI (e := 2) (base := w.heap.size) (ok := fun k_ => (((((((nb_ k_ H3 E4.length G3 ∧ nb_ k_ I0 F4.length G5) ∧ nb_ k_ D2 C2.length D3) ∧ nb_ k_ D4 C3.length D5) ∧ nb_ k_ D6 C4.length D7) ∧ nb_ k_ H4 F9.length H5) ∧ nb_ k_ H6 G0.length H7) ∧ nb_ k_ H8 G1.length H9)) (n := E3.length) (c := G2) ?_).2.2; exact (rc_ (h := by exact Kd.ae (bU D0.out B0.out) (fun _ h_ => h_.1)))); (case side2 => exact (Kd.aI D0.out).2.1); (case side3 => refine (Kd.aI (e := 2) (base := w.heap.size) (ok := fun k_ => (((((((nb_ k_ H2 E3.length G2 ∧ nb_ k_ I0 F4.length G5) ∧ nb_ k_ D2 C2.length D3) ∧ nb_ k_ D4 C3.length D5) ∧ nb_ k_ D6 C4.length D7) ∧ nb_ k_ H4 F9.length H5) ∧ nb_ k_ H6 G0.length H7) ∧ nb_ k_ H8 G1.length H9)) (n := E4.length) (c := G3) ?_).2.2; exact (rc_ (h := by exact Kd.ae (bU D1.out B0.out) (fun _ h_ => h_.1)))); (case side4 => exact (Kd.aI D1.out).2.1); (case side5 => refine (Kd.aI (e := 2) (base := w.heap.size) (ok := fun k_ => (((((((nb_ k_ H2 E3.length G2 ∧ nb_ k_ H3 E4.length G3) ∧ nb_ k_ D2 C2.length D3) ∧ nb_ k_ D4 C3.length D5) ∧ nb_ k_ D6 C4.length D7) ∧ nb_ k_ H4 F9.length H5) ∧ nb_ k_ H6 G0.length H7) ∧ nb_ k_ H8 G1.length H9)) (n := F4.length) (c := G5) ?_).2.2; exact (rc_ (h := by exact Kd.ae (bU C9.out B0.out) (fun _ h_ => h_.1)))); (case side6 => exact (Kd.aI C9.out).2.1); rintro e r0 ⟨n0, n1, n2, rfl, ho0, ho1, ho2, hb⟩; refine ⟨_, rfl, ?_⟩; have F1 := a_ (Kd.bE (Kd.bq (Kd.bq (Kd.bq (Kd.bq (Kd.bq (Kd.bq (Kd.bq (Kd.bq (Kd.bq ho0 (Kd.df (rc_ (h := by exact Kd.ae (bU B7.out B0.out) (fun _ h_ => h_.1))))) (Kd.df (rc_ (h := by exact Kd.ae (bU C0.out B0.out) (fun _ h_ => h_.1))))) (Kd.df (rc_ (h := by exact Kd.ae (bU C1.out B0.out) (fun _ h_ => h_.1))))) (Kd.df (rc_ (h := by exact Kd.ae (bU C6.out B0.out) (fun _ h_ => h_.1))))) (Kd.df (rc_ (h := by exact Kd.ae (bU C7.out B0.out) (fun _ h_ => h_.1))))) (Kd.df (rc_ (h := by exact Kd.ae (bU C8.out B0.out) (fun _ h_ => h_.1))))) (Kd.df (rc_ (h := by exact Kd.ae (bU D0.out B0.out) (fun _ h_ => h_.1))))) (Kd.df (rc_ (h := by exact Kd.ae (bU D1.out B0.out) (fun _ h_ => h_.1))))) (Kd.df (rc_ (h := by exact Kd.ae (bU C9.out B0.out) (fun _ h_ => h_.1))))) (ai vO)); have F2 := a_ (Kd.bE (Kd.bq (Kd.bq (Kd.bq (Kd.bq (Kd.bq (Kd.bq (Kd.bq (Kd.bq (Kd.bq ho1 (Kd.df (rc_ (h := by exact Kd.ae (bU B7.out B0.out) (fun _ h_ => h_.1))))) (Kd.df (rc_ (h := by exact Kd.ae (bU C0.out B0.out) (fun _ h_ => h_.1))))) (Kd.df (rc_ (h := by exact Kd.ae (bU C1.out B0.out) (fun _ h_ => h_.1))))) (Kd.df (rc_ (h := by exact Kd.ae (bU C6.out B0.out) (fun _ h_ => h_.1))))) (Kd.df (rc_ (h := by exact Kd.ae (bU C7.out B0.out) (fun _ h_ => h_.1))))) (Kd.df (rc_ (h := by exact Kd.ae (bU C8.out B0.out) (fun _ h_ => h_.1))))) (Kd.df (rc_ (h := by exact Kd.ae (bU D0.out B0.out) (fun _ h_ => h_.1))))) (Kd.df (rc_ (h := by exact Kd.ae (bU D1.out B0.out) (fun _ h_ => h_.1))))) (Kd.df (rc_ (h := by exact Kd.ae (bU C9.out B0.out) (fun _ h_ => h_.1))))) (ai vO)); have F3 := a_ (Kd.bE (Kd.bq (Kd.bq (Kd.bq (Kd.bq (Kd.bq (Kd.bq (Kd.bq (Kd.bq (Kd.bq ho2 (Kd.df (rc_ (h := by exact Kd.ae (bU B7.out B0.out) (fun _ h_ => h_.1))))) (Kd.df (rc_ (h := by exact Kd.ae (bU C0.out B0.out) (fun _ h_ => h_.1))))) (Kd.df (rc_ (h := by exact Kd.ae (bU C1.out B0.out) (fun _ h_ => h_.1))))) (Kd.df (rc_ (h := by exact Kd.ae (bU C6.out B0.out) (fun _ h_ => h_.1))))) (Kd.df (rc_ (h := by exact Kd.ae (bU C7.out B0.out) (fun _ h_ => h_.1))))) (Kd.df (rc_ (h := by exact Kd.ae (bU C8.out B0.out) (fun _ h_ => h_.1))))) (Kd.df (rc_ (h := by exact Kd.ae (bU D0.out B0.out) (fun _ h_ => h_.1))))) (Kd.df (rc_ (h := by exact Kd.ae (bU D1.out B0.out) (fun _ h_ => h_.1))))) (Kd.df (rc_ (h := by exact Kd.ae (bU C9.out B0.out) (fun _ h_ => h_.1))))) (ai vO)); replace B7 := a_ (Kd.ae (Kd.bV (Kd.bV (Kd.bV (Kd.iy (rc_ (h := by exact Kd.ae (bU B7.out B0.out) (fun _ h_ => h_.1))) hb) (Kd.aH ho0)) (Kd.aH ho1)) (Kd.aH ho2)) (fun _ h_ => h_.1)); replace C0 := a_ (Kd.ae (Kd.bV (Kd.bV (Kd.bV (Kd.iy (rc_ (h := by exact Kd.ae (bU C0.out B0.out) (fun _ h_ => h_.1))) hb) (Kd.aH ho0)) (Kd.aH ho1)) (Kd.aH ho2)) (fun _ h_ => h_.1)); replace C1 := a_ (Kd.ae (Kd.bV (Kd.bV (Kd.bV (Kd.iy (rc_ (h := by exact Kd.ae (bU C1.out B0.out) (fun _ h_ => h_.1))) hb) (Kd.aH ho0)) (Kd.aH ho1)) (Kd.aH ho2)) (fun _ h_ => h_.1)); replace C6 := a_ (Kd.ae (Kd.bV (Kd.bV (Kd.bV (Kd.iy (rc_ (h := by exact Kd.ae (bU C6.out B0.out) (fun _ h_ => h_.1))) hb) (Kd.aH ho0)) (Kd.aH ho1)) (Kd.aH ho2)) (fun _ h_ => h_.1)); replace C7 := a_ (Kd.ae (Kd.bV (Kd.bV (Kd.bV (Kd.iy (rc_ (h := by exact Kd.ae (bU C7.out B0.out) (fun _ h_ => h_.1))) hb) (Kd.aH ho0)) (Kd.aH ho1)) (Kd.aH ho2)) (fun _ h_ => h_.1)); replace C8 := a_ (Kd.ae (Kd.bV (Kd.bV (Kd.bV (Kd.iy (rc_ (h := by exact Kd.ae (bU C8.out B0.out) (fun _ h_ => h_.1))) hb) (Kd.aH ho0)) (Kd.aH ho1)) (Kd.aH ho2)) (fun _ h_ => h_.1)); replace D0 := a_ (Kd.ae (Kd.bV (Kd.bV (Kd.bV (Kd.iy (rc_ (h := by exact Kd.ae (bU D0.out B0.out) (fun _ h_ => h_.1))) hb) (Kd.aH ho0)) (Kd.aH ho1)) (Kd.aH ho2)) (fun _ h_ => h_.1)); replace D1 := a_ (Kd.ae (Kd.bV (Kd.bV (Kd.bV (Kd.iy (rc_ (h := by exact Kd.ae (bU D1.out B0.out) (fun _ h_ => h_.1))) hb) (Kd.aH ho0)) (Kd.aH ho1)) (Kd.aH ho2)) (fun _ h_ => h_.1)); replace C9 := a_ (Kd.ae (Kd.bV (Kd.bV (Kd.bV (Kd.iy (rc_ (h := by exact Kd.ae (bU C9.out B0.out) (fun _ h_ => h_.1))) hb) (Kd.aH ho0)) (Kd.aH ho1)) (Kd.aH ho2)) (fun _ h_ => h_.1)); replace BK646 := a_ (dL (g := gb646) (o := .cells #[.int .i64 F7, .int .i64 F8, .slice D2 C2.length D3, .slice D4 C3.length D5, .slice D6 C4.length D7] 28 (0, 0)) (gB (h := by exact lw L3.out BK646.out)) hb); replace B3 := a_ (dL (g := D8) (o := .cells #[.int .i64 M4, .int .i64 M5, .slice H4 F9.length H5, .slice H6 G0.length H7, .slice H8 G1.length H9] 28 (0, 0)) (gB (h := by exact lw L4.out B3.out)) hb); replace B0 := a_ (dL (g := E2) (o := .cells #[.int .i64 J6, .int .i64 J7, .slice H2 E3.length G2, .slice H3 E4.length G3, .slice I0 F4.length G5] 28 (0, 0)) (gB (h := by exact gK B0.out)) hb); replace HB := cK vO hb; (try clear hb); (try clear ho0); (try clear ho1); (try clear ho2)) | ((with_reducible refine bn (N := 12) rfl ?_); refine bG ?hg (N := 12) ?hd (cs := #[.int .i64 0, .int .i64 0, .slice none 0 0, .slice none 0 0, .slice none 0 0]) (t := 28) ?hr ?_; (case hd => rfl); (case hg => rfl); (case hr => first | (go_simp; done) | (go_simp; rfl)); intro F6 hg j4 hbox hb; replace B7 := rl_ B7 hb; replace C0 := rl_ C0 hb; replace C1 := rl_ C1 hb; replace C6 := rl_ C6 hb; replace C7 := rl_ C7 hb; replace C8 := rl_ C8 hb; replace D0 := rl_ D0 hb; replace D1 := rl_ D1 hb; replace C9 := rl_ C9 hb; replace F1 := rl_ F1 hb; replace F2 := rl_ F2 hb; replace F3 := rl_ F3 hb; have A3 := a_ (hbox); have j5 := a_ ((by rw [hg]; exact (ai vO) : w.heap.size ≤ F6)); have GE685 := a_ ((by rw [hg]; exact (ai vO) : w.heap.size ≤ F6)); replace HB := cK vO hb; have L5 := a_ ((vG : gb646 ≠ F6)); have N7 := a_ ((vB : F6 ≠ gb646)); replace BK646 := bb_ gb646 BK646 hb; have L6 := a_ ((by rw [hg]; exact Nat.ne_of_lt (dI (g := D8) (rb_ B3.out)) : D8 ≠ F6)); have N8 := a_ ((by rw [hg]; exact Nat.ne_of_gt (dI (g := D8) (rb_ B3.out)) : F6 ≠ D8)); replace B3 := bb_ D8 B3 hb; have L7 := a_ ((by rw [hg]; exact Nat.ne_of_lt (dI (g := E2) (rb_ B0.out)) : E2 ≠ F6)); have N9 := a_ ((by rw [hg]; exact Nat.ne_of_gt (dI (g := E2) (rb_ B0.out)) : F6 ≠ E2)); replace B0 := bb_ E2 B0 hb; clear hb hbox hg; have hnb35 := N7.out; have hnc35 := L5.out; have hnb36 := N8.out; have hnc36 := L6.out; have hnb37 := N9.out; have hnc37 := L7.out; obtain ⟨b4, b5, b6, b7, b8, b9, c1, d0, d1, d2⟩ := eU (w := j4) A3.out; obtain ⟨I4, I5, h3⟩ := Kd.bg F1.out; subst h3; obtain ⟨I6, I7, h4⟩ := Kd.bg F2.out; subst h4; obtain ⟨I8, I9, h5⟩ := Kd.bg F3.out; subst h5; obtain ⟨d3, d4, d5, d6, d7, d8, d9, e0, e1, e2⟩ := eU (w := j4) B0.out) | ((with_reducible refine av (f := 18) rfl ?_); refine bJ (some 61) rfl rfl Tryz.func18 (by kernel_rfl) rfl #[.agg #[.int .i64 J6, .int .i64 J7, .slice H2 E3.length G2, .slice H3 E4.length G3, .slice I0 F4.length G5], .int .i64 O6] rfl dN ?_; (with_reducible refine (dA.calls k J6 J7 _ _ E3 _ _ E4 _ _ F4 O6 G9 H0 D9 E0 E1 P2 _ ?side1 ?side2 ?side3 ?side4 ?side5 ?side6 A9.out).mono ?_); (case side1 => refine (Kd.aI (e := 2) (base := w.heap.size) (ok := fun k_ => ((((((((((nb_ k_ H3 E4.length G3 ∧ nb_ k_ I0 F4.length G5) ∧ nb_ k_ D2 C2.length D3) ∧ nb_ k_ D4 C3.length D5) ∧ nb_ k_ D6 C4.length D7) ∧ nb_ k_ H4 F9.length H5) ∧ nb_ k_ H6 G0.length H7) ∧ nb_ k_ H8 G1.length H9) ∧ nb_ k_ I4 I1.length I5) ∧ nb_ k_ I6 I2.length I7) ∧ nb_ k_ I8 I3.length I9)) (n := E3.length) (c := G2) ?_).2.2; exact (rc_ (h := by exact Kd.ae (bU D0.out A3.out) (fun _ h_ => h_.1)))); (case side2 => exact (Kd.aI D0.out).2.1); (case side3 => refine (Kd.aI (e := 2) (base := w.heap.size) (ok := fun k_ => ((((((((((nb_ k_ H2 E3.length G2 ∧ nb_ k_ I0 F4.length G5) ∧ nb_ k_ D2 C2.length D3) ∧ nb_ k_ D4 C3.length D5) ∧ nb_ k_ D6 C4.length D7) ∧ nb_ k_ H4 F9.length H5) ∧ nb_ k_ H6 G0.length H7) ∧ nb_ k_ H8 G1.length H9) ∧ nb_ k_ I4 I1.length I5) ∧ nb_ k_ I6 I2.length I7) ∧ nb_ k_ I8 I3.length I9)) (n := E4.length) (c := G3) ?_).2.2; exact (rc_ (h := by exact Kd.ae (bU D1.out A3.out) (fun _ h_ => h_.1)))); (case side4 => exact (Kd.aI D1.out).2.1); (case side5 => refine (Kd.aI (e := 2) (base := w.heap.size) (ok := fun k_ => ((((((((((nb_ k_ H2 E3.length G2 ∧ nb_ k_ H3 E4.length G3) ∧ nb_ k_ D2 C2.length D3) ∧ nb_ k_ D4 C3.length D5) ∧ nb_ k_ D6 C4.length D7) ∧ nb_ k_ H4 F9.length H5) ∧ nb_ k_ H6 G0.length H7) ∧ nb_ k_ H8 G1.length H9) ∧ nb_ k_ I4 I1.length I5) ∧ nb_ k_ I6 I2.length I7) ∧ nb_ k_ I8 I3.length I9)) (n := F4.length) (c := G5) ?_).2.2; exact (rc_ (h := by exact Kd.ae (bU C9.out A3.out) (fun _ h_ => h_.1)))); (case side6 => exact (Kd.aI C9.out).2.1); rintro e r1 ⟨n3, n7, n9, rfl, ho0, ho1, ho2, hb⟩; refine ⟨_, rfl, ?_⟩; have G6 := a_ (Kd.bE (Kd.bq (Kd.bq (Kd.bq (Kd.bq (Kd.bq (Kd.bq (Kd.bq (Kd.bq (Kd.bq (Kd.bq (Kd.bq (Kd.bq ho0 (Kd.df (rc_ (h := by exact Kd.ae (bU B7.out A3.out) (fun _ h_ => h_.1))))) (Kd.df (rc_ (h := by exact Kd.ae (bU C0.out A3.out) (fun _ h_ => h_.1))))) (Kd.df (rc_ (h := by exact Kd.ae (bU C1.out A3.out) (fun _ h_ => h_.1))))) (Kd.df (rc_ (h := by exact Kd.ae (bU C6.out A3.out) (fun _ h_ => h_.1))))) (Kd.df (rc_ (h := by exact Kd.ae (bU C7.out A3.out) (fun _ h_ => h_.1))))) (Kd.df (rc_ (h := by exact Kd.ae (bU C8.out A3.out) (fun _ h_ => h_.1))))) (Kd.df (rc_ (h := by exact Kd.ae (bU D0.out A3.out) (fun _ h_ => h_.1))))) (Kd.df (rc_ (h := by exact Kd.ae (bU D1.out A3.out) (fun _ h_ => h_.1))))) (Kd.df (rc_ (h := by exact Kd.ae (bU C9.out A3.out) (fun _ h_ => h_.1))))) (Kd.df (rc_ (h := by exact Kd.ae (bU F1.out A3.out) (fun _ h_ => h_.1))))) (Kd.df (rc_ (h := by exact Kd.ae (bU F2.out A3.out) (fun _ h_ => h_.1))))) (Kd.df (rc_ (h := by exact Kd.ae (bU F3.out A3.out) (fun _ h_ => h_.1))))) (ai z2_)); have G7 := a_ (Kd.bE (Kd.bq (Kd.bq (Kd.bq (Kd.bq (Kd.bq (Kd.bq (Kd.bq (Kd.bq (Kd.bq (Kd.bq (Kd.bq (Kd.bq ho1 (Kd.df (rc_ (h := by exact Kd.ae (bU B7.out A3.out) (fun _ h_ => h_.1))))) (Kd.df (rc_ (h := by exact Kd.ae (bU C0.out A3.out) (fun _ h_ => h_.1))))) (Kd.df (rc_ (h := by exact Kd.ae (bU C1.out A3.out) (fun _ h_ => h_.1))))) (Kd.df (rc_ (h := by exact Kd.ae (bU C6.out A3.out) (fun _ h_ => h_.1))))) (Kd.df (rc_ (h := by exact Kd.ae (bU C7.out A3.out) (fun _ h_ => h_.1))))) (Kd.df (rc_ (h := by exact Kd.ae (bU C8.out A3.out) (fun _ h_ => h_.1))))) (Kd.df (rc_ (h := by exact Kd.ae (bU D0.out A3.out) (fun _ h_ => h_.1))))) (Kd.df (rc_ (h := by exact Kd.ae (bU D1.out A3.out) (fun _ h_ => h_.1))))) (Kd.df (rc_ (h := by exact Kd.ae (bU C9.out A3.out) (fun _ h_ => h_.1))))) (Kd.df (rc_ (h := by exact Kd.ae (bU F1.out A3.out) (fun _ h_ => h_.1))))) (Kd.df (rc_ (h := by exact Kd.ae (bU F2.out A3.out) (fun _ h_ => h_.1))))) (Kd.df (rc_ (h := by exact Kd.ae (bU F3.out A3.out) (fun _ h_ => h_.1))))) (ai z2_)); have G8 := a_ (Kd.bE (Kd.bq (Kd.bq (Kd.bq (Kd.bq (Kd.bq (Kd.bq (Kd.bq (Kd.bq (Kd.bq (Kd.bq (Kd.bq (Kd.bq ho2 (Kd.df (rc_ (h := by exact Kd.ae (bU B7.out A3.out) (fun _ h_ => h_.1))))) (Kd.df (rc_ (h := by exact Kd.ae (bU C0.out A3.out) (fun _ h_ => h_.1))))) (Kd.df (rc_ (h := by exact Kd.ae (bU C1.out A3.out) (fun _ h_ => h_.1))))) (Kd.df (rc_ (h := by exact Kd.ae (bU C6.out A3.out) (fun _ h_ => h_.1))))) (Kd.df (rc_ (h := by exact Kd.ae (bU C7.out A3.out) (fun _ h_ => h_.1))))) (Kd.df (rc_ (h := by exact Kd.ae (bU C8.out A3.out) (fun _ h_ => h_.1))))) (Kd.df (rc_ (h := by exact Kd.ae (bU D0.out A3.out) (fun _ h_ => h_.1))))) (Kd.df (rc_ (h := by exact Kd.ae (bU D1.out A3.out) (fun _ h_ => h_.1))))) (Kd.df (rc_ (h := by exact Kd.ae (bU C9.out A3.out) (fun _ h_ => h_.1))))) (Kd.df (rc_ (h := by exact Kd.ae (bU F1.out A3.out) (fun _ h_ => h_.1))))) (Kd.df (rc_ (h := by exact Kd.ae (bU F2.out A3.out) (fun _ h_ => h_.1))))) (Kd.df (rc_ (h := by exact Kd.ae (bU F3.out A3.out) (fun _ h_ => h_.1))))) (ai z2_)); replace B7 := a_ (Kd.ae (Kd.bV (Kd.bV (Kd.bV (Kd.iy (rc_ (h := by exact Kd.ae (bU B7.out A3.out) (fun _ h_ => h_.1))) hb) (Kd.aH ho0)) (Kd.aH ho1)) (Kd.aH ho2)) (fun _ h_ => h_.1)); replace C0 := a_ (Kd.ae (Kd.bV (Kd.bV (Kd.bV (Kd.iy (rc_ (h := by exact Kd.ae (bU C0.out A3.out) (fun _ h_ => h_.1))) hb) (Kd.aH ho0)) (Kd.aH ho1)) (Kd.aH ho2)) (fun _ h_ => h_.1)); replace C1 := a_ (Kd.ae (Kd.bV (Kd.bV (Kd.bV (Kd.iy (rc_ (h := by exact Kd.ae (bU C1.out A3.out) (fun _ h_ => h_.1))) hb) (Kd.aH ho0)) (Kd.aH ho1)) (Kd.aH ho2)) (fun _ h_ => h_.1)); replace C6 := a_ (Kd.ae (Kd.bV (Kd.bV (Kd.bV (Kd.iy (rc_ (h := by exact Kd.ae (bU C6.out A3.out) (fun _ h_ => h_.1))) hb) (Kd.aH ho0)) (Kd.aH ho1)) (Kd.aH ho2)) (fun _ h_ => h_.1)); replace C7 := a_ (Kd.ae (Kd.bV (Kd.bV (Kd.bV (Kd.iy (rc_ (h := by exact Kd.ae (bU C7.out A3.out) (fun _ h_ => h_.1))) hb) (Kd.aH ho0)) (Kd.aH ho1)) (Kd.aH ho2)) (fun _ h_ => h_.1)); replace C8 := a_ (Kd.ae (Kd.bV (Kd.bV (Kd.bV (Kd.iy (rc_ (h := by exact Kd.ae (bU C8.out A3.out) (fun _ h_ => h_.1))) hb) (Kd.aH ho0)) (Kd.aH ho1)) (Kd.aH ho2)) (fun _ h_ => h_.1)); replace D0 := a_ (Kd.ae (Kd.bV (Kd.bV (Kd.bV (Kd.iy (rc_ (h := by exact Kd.ae (bU D0.out A3.out) (fun _ h_ => h_.1))) hb) (Kd.aH ho0)) (Kd.aH ho1)) (Kd.aH ho2)) (fun _ h_ => h_.1)); replace D1 := a_ (Kd.ae (Kd.bV (Kd.bV (Kd.bV (Kd.iy (rc_ (h := by exact Kd.ae (bU D1.out A3.out) (fun _ h_ => h_.1))) hb) (Kd.aH ho0)) (Kd.aH ho1)) (Kd.aH ho2)) (fun _ h_ => h_.1)); replace C9 := a_ (Kd.ae (Kd.bV (Kd.bV (Kd.bV (Kd.iy (rc_ (h := by exact Kd.ae (bU C9.out A3.out) (fun _ h_ => h_.1))) hb) (Kd.aH ho0)) (Kd.aH ho1)) (Kd.aH ho2)) (fun _ h_ => h_.1)); replace F1 := a_ (Kd.ae (Kd.bV (Kd.bV (Kd.bV (Kd.iy (rc_ (h := by exact Kd.ae (bU F1.out A3.out) (fun _ h_ => h_.1))) hb) (Kd.aH ho0)) (Kd.aH ho1)) (Kd.aH ho2)) (fun _ h_ => h_.1)); replace F2 := a_ (Kd.ae (Kd.bV (Kd.bV (Kd.bV (Kd.iy (rc_ (h := by exact Kd.ae (bU F2.out A3.out) (fun _ h_ => h_.1))) hb) (Kd.aH ho0)) (Kd.aH ho1)) (Kd.aH ho2)) (fun _ h_ => h_.1)); replace F3 := a_ (Kd.ae (Kd.bV (Kd.bV (Kd.bV (Kd.iy (rc_ (h := by exact Kd.ae (bU F3.out A3.out) (fun _ h_ => h_.1))) hb) (Kd.aH ho0)) (Kd.aH ho1)) (Kd.aH ho2)) (fun _ h_ => h_.1)); replace BK646 := a_ (dL (g := gb646) (o := .cells #[.int .i64 F7, .int .i64 F8, .slice D2 C2.length D3, .slice D4 C3.length D5, .slice D6 C4.length D7] 28 (0, 0)) (gB (h := by exact lw L5.out BK646.out)) hb); replace B3 := a_ (dL (g := D8) (o := .cells #[.int .i64 M4, .int .i64 M5, .slice H4 F9.length H5, .slice H6 G0.length H7, .slice H8 G1.length H9] 28 (0, 0)) (gB (h := by exact lw L6.out B3.out)) hb); replace B0 := a_ (dL (g := E2) (o := .cells #[.int .i64 J6, .int .i64 J7, .slice H2 E3.length G2, .slice H3 E4.length G3, .slice I0 F4.length G5] 28 (0, 0)) (gB (h := by exact lw L7.out B0.out)) hb); replace A3 := a_ (dL (g := F6) (o := .cells #[.int .i64 M8, .int .i64 M9, .slice I4 I1.length I5, .slice I6 I2.length I7, .slice I8 I3.length I9] 28 (0, 0)) (gB (h := by exact gK A3.out)) hb); replace HB := cK z2_ hb; (try clear hb); (try clear ho0); (try clear ho1); (try clear ho2)) | ((with_reducible refine bn (N := 14) rfl ?_); refine bG ?hg (N := 14) ?hd (cs := #[.int .i64 0, .int .i64 0, .slice none 0 0, .slice none 0 0, .slice none 0 0]) (t := 28) ?hr ?_; (case hd => rfl); (case hg => rfl); (case hr => first | (go_simp; done) | (go_simp; rfl)); intro A1 hg K5 hbox hb; replace B7 := rl_ B7 hb; replace C0 := rl_ C0 hb; replace C1 := rl_ C1 hb; replace C6 := rl_ C6 hb; replace C7 := rl_ C7 hb; replace C8 := rl_ C8 hb; replace D0 := rl_ D0 hb; replace D1 := rl_ D1 hb; replace C9 := rl_ C9 hb; replace F1 := rl_ F1 hb; replace F2 := rl_ F2 hb; replace F3 := rl_ F3 hb; replace G6 := rl_ G6 hb; replace G7 := rl_ G7 hb; replace G8 := rl_ G8 hb; have B4 := a_ (hbox); have j6 := a_ ((by rw [hg]; exact (ai z2_) : w.heap.size ≤ A1)); have GE698 := a_ ((by rw [hg]; exact (ai z2_) : w.heap.size ≤ A1)); replace HB := cK z2_ hb; have L8 := a_ ((vG : gb646 ≠ A1)); have O0 := a_ ((vB : A1 ≠ gb646)); replace BK646 := bb_ gb646 BK646 hb; have L9 := a_ ((by rw [hg]; exact Nat.ne_of_lt (dI (g := D8) (rb_ B3.out)) : D8 ≠ A1)); have O1 := a_ ((by rw [hg]; exact Nat.ne_of_gt (dI (g := D8) (rb_ B3.out)) : A1 ≠ D8)); replace B3 := bb_ D8 B3 hb; have M0 := a_ ((by rw [hg]; exact Nat.ne_of_lt (dI (g := E2) (rb_ B0.out)) : E2 ≠ A1)); have O2 := a_ ((by rw [hg]; exact Nat.ne_of_gt (dI (g := E2) (rb_ B0.out)) : A1 ≠ E2)); replace B0 := bb_ E2 B0 hb; have M1 := a_ ((by rw [hg]; exact Nat.ne_of_lt (dI (g := F6) (rb_ A3.out)) : F6 ≠ A1)); have O3 := a_ ((by rw [hg]; exact Nat.ne_of_gt (dI (g := F6) (rb_ A3.out)) : A1 ≠ F6)); replace A3 := bb_ F6 A3 hb; clear hb hbox hg; have hnb45 := O0.out; have hnc45 := L8.out; have hnb46 := O1.out; have hnc46 := L9.out; have hnb47 := O2.out; have hnc47 := M0.out; have hnb48 := O3.out; have hnc48 := M1.out; obtain ⟨e3, e4, e5, e6, e7, e8, e9, f5, f7, f9⟩ := eU (w := K5) B4.out; obtain ⟨E5, E6, h6⟩ := Kd.bg G6.out; subst h6; obtain ⟨E7, E8, h7⟩ := Kd.bg G7.out; subst h7; obtain ⟨E9, F0, h8⟩ := Kd.bg G8.out; subst h8))
  (try simp only [Act.put, List.setIfInBounds_toArray, List.set_cons_zero, List.set_cons_succ])
  go_cut [90] (fun v90 wc => ∃ (kq : Nat) (N3 : Bool), v90 = .bool N3 ∧ af (aQ.j0 kq J9 K0 J5 K3 N3 F7 F8 C2 C3 C4 = some r) ∧ af (kq ≤ k) ∧ af (Kd.R (Kd.int .i64) 2 wc w.heap.size (fun k_ => nb_ k_ D4 C3.length D5 ∧ nb_ k_ D6 C4.length D7) (.slice D2 C2.length D3) C2) ∧ af (Kd.R (Kd.int .i64) 2 wc w.heap.size (fun k_ => nb_ k_ D2 C2.length D3 ∧ nb_ k_ D6 C4.length D7) (.slice D4 C3.length D5) C3) ∧ af (Kd.R (Kd.int .i64) 2 wc w.heap.size (fun k_ => nb_ k_ D2 C2.length D3 ∧ nb_ k_ D4 C3.length D5) (.slice D6 C4.length D7) C4) ∧ af (wc.heap[gb646]? = some (.cells #[.int .i64 F7, .int .i64 F8, (.slice D2 C2.length D3), (.slice D4 C3.length D5), (.slice D6 C4.length D7)] 28 (0, 0))) ∧ af (Below w.heap.size w wc))
  case first =>
   have H := V7.out
   clear V7
   replace H := ig_ H; obtain ⟨c53, H⟩ := H
   have U7 : (K3 == V6) = true := beq_iff_eq.mpr c53
   have j7 : (K3 != V6) = false := bne_eq_false_iff_eq.mpr c53
   clear c53
   (first | rw [U7] | (simp only [eX, iI]; rw [U7]) | skip)
   replace H := bo_ H; obtain ⟨O5, o5, H⟩ := H; (try dsimp only at H)
   by_cases c55 : O5 = true
   ·subst c55
    have H1 : (if P1 = P2 then ((dP.f k M8 M9 I1 I2 I3 G9 H0 D9 E0 E1).bind fun M7 => (if M7 = true then ((aW.f k J6 J7 E3 E4 F4).bind fun L0 => ((aK.f k J6 J7 E3 E4 F4).bind fun L1 => (aQ.j0 k J9 K0 J5 K3 (L0 != L1) F7 F8 C2 C3 C4))) else (none))) else (none)) = some r := by rw [if_pos rfl] at H; exact H
    clear H
    have H := H1
    clear H1
    replace H := ig_ H; obtain ⟨c56, H⟩ := H
    have j8 : (P1 == P2) = true := beq_iff_eq.mpr c56
    have j9 : (P1 != P2) = false := bne_eq_false_iff_eq.mpr c56
    clear c56
    replace H := bo_ H; obtain ⟨M7, o6, H⟩ := H; (try dsimp only at H)
    by_cases c58 : M7 = true
    ·subst c58
     have H1 : ((aW.f k J6 J7 E3 E4 F4).bind fun L0 => ((aK.f k J6 J7 E3 E4 F4).bind fun L1 => (aQ.j0 k J9 K0 J5 K3 (L0 != L1) F7 F8 C2 C3 C4))) = some r := by rw [if_pos rfl] at H; exact H
     clear H
     have H := H1
     clear H1
     replace H := bo_ H; obtain ⟨L0, o7, H⟩ := H; (try dsimp only at H)
     replace H := bo_ H; obtain ⟨L1, o8, H⟩ := H; (try dsimp only at H)
     have H' := a_ H
     clear H
     try go_wp2
     have n0_ : af (Kd.R (Kd.int .i64) 2 (((((K5.setCell ⟨A1, 0, none⟩ (.int .i64 G9)).setCell ⟨A1, 1, none⟩ (.int .i64 H0)).setCell ⟨A1, 2, none⟩ (.slice E5 D9.length E6)).setCell ⟨A1, 3, none⟩ (.slice E7 E0.length E8)).setCell ⟨A1, 4, none⟩ (.slice E9 E1.length F0)) w.heap.size (fun k_ => nb_ k_ D4 C3.length D5 ∧ nb_ k_ D6 C4.length D7 ∧ nb_ k_ H4 F9.length H5 ∧ nb_ k_ H6 G0.length H7 ∧ nb_ k_ H8 G1.length H9 ∧ nb_ k_ H2 E3.length G2 ∧ nb_ k_ H3 E4.length G3 ∧ nb_ k_ I0 F4.length G5 ∧ nb_ k_ I4 I1.length I5 ∧ nb_ k_ I6 I2.length I7 ∧ nb_ k_ I8 I3.length I9 ∧ nb_ k_ E5 D9.length E6 ∧ nb_ k_ E7 E0.length E8 ∧ nb_ k_ E9 E1.length F0) (.slice D2 C2.length D3) C2) := ⟨by (with_reducible repeat (first | apply Kd.aC | apply Kd.aA | apply Kd.ay)); exact Kd.ae (bU B7.out B4.out) (fun _ hk => ⟨hk.1.1.1.1.1.1.1.1.1.1.1.1.1.1, ⟨hk.1.1.1.1.1.1.1.1.1.1.1.1.1.2, ⟨hk.1.1.1.1.1.1.1.1.1.1.1.1.2, ⟨hk.1.1.1.1.1.1.1.1.1.1.1.2, ⟨hk.1.1.1.1.1.1.1.1.1.1.2, ⟨hk.1.1.1.1.1.1.1.1.1.2, ⟨hk.1.1.1.1.1.1.1.1.2, ⟨hk.1.1.1.1.1.1.1.2, ⟨hk.1.1.1.1.1.1.2, ⟨hk.1.1.1.1.1.2, ⟨hk.1.1.1.1.2, ⟨hk.1.1.1.2, ⟨hk.1.1.2, hk.1.2⟩⟩⟩⟩⟩⟩⟩⟩⟩⟩⟩⟩⟩)⟩
     have n1_ : af (Kd.R (Kd.int .i64) 2 (((((K5.setCell ⟨A1, 0, none⟩ (.int .i64 G9)).setCell ⟨A1, 1, none⟩ (.int .i64 H0)).setCell ⟨A1, 2, none⟩ (.slice E5 D9.length E6)).setCell ⟨A1, 3, none⟩ (.slice E7 E0.length E8)).setCell ⟨A1, 4, none⟩ (.slice E9 E1.length F0)) w.heap.size (fun k_ => nb_ k_ D2 C2.length D3 ∧ nb_ k_ D6 C4.length D7 ∧ nb_ k_ H4 F9.length H5 ∧ nb_ k_ H6 G0.length H7 ∧ nb_ k_ H8 G1.length H9 ∧ nb_ k_ H2 E3.length G2 ∧ nb_ k_ H3 E4.length G3 ∧ nb_ k_ I0 F4.length G5 ∧ nb_ k_ I4 I1.length I5 ∧ nb_ k_ I6 I2.length I7 ∧ nb_ k_ I8 I3.length I9 ∧ nb_ k_ E5 D9.length E6 ∧ nb_ k_ E7 E0.length E8 ∧ nb_ k_ E9 E1.length F0) (.slice D4 C3.length D5) C3) := ⟨by (with_reducible repeat (first | apply Kd.aC | apply Kd.aA | apply Kd.ay)); exact Kd.ae (bU C0.out B4.out) (fun _ hk => ⟨hk.1.1.1.1.1.1.1.1.1.1.1.1.1.1, ⟨hk.1.1.1.1.1.1.1.1.1.1.1.1.1.2, ⟨hk.1.1.1.1.1.1.1.1.1.1.1.1.2, ⟨hk.1.1.1.1.1.1.1.1.1.1.1.2, ⟨hk.1.1.1.1.1.1.1.1.1.1.2, ⟨hk.1.1.1.1.1.1.1.1.1.2, ⟨hk.1.1.1.1.1.1.1.1.2, ⟨hk.1.1.1.1.1.1.1.2, ⟨hk.1.1.1.1.1.1.2, ⟨hk.1.1.1.1.1.2, ⟨hk.1.1.1.1.2, ⟨hk.1.1.1.2, ⟨hk.1.1.2, hk.1.2⟩⟩⟩⟩⟩⟩⟩⟩⟩⟩⟩⟩⟩)⟩
     have n2_ : af (Kd.R (Kd.int .i64) 2 (((((K5.setCell ⟨A1, 0, none⟩ (.int .i64 G9)).setCell ⟨A1, 1, none⟩ (.int .i64 H0)).setCell ⟨A1, 2, none⟩ (.slice E5 D9.length E6)).setCell ⟨A1, 3, none⟩ (.slice E7 E0.length E8)).setCell ⟨A1, 4, none⟩ (.slice E9 E1.length F0)) w.heap.size (fun k_ => nb_ k_ D2 C2.length D3 ∧ nb_ k_ D4 C3.length D5 ∧ nb_ k_ H4 F9.length H5 ∧ nb_ k_ H6 G0.length H7 ∧ nb_ k_ H8 G1.length H9 ∧ nb_ k_ H2 E3.length G2 ∧ nb_ k_ H3 E4.length G3 ∧ nb_ k_ I0 F4.length G5 ∧ nb_ k_ I4 I1.length I5 ∧ nb_ k_ I6 I2.length I7 ∧ nb_ k_ I8 I3.length I9 ∧ nb_ k_ E5 D9.length E6 ∧ nb_ k_ E7 E0.length E8 ∧ nb_ k_ E9 E1.length F0) (.slice D6 C4.length D7) C4) := ⟨by (with_reducible repeat (first | apply Kd.aC | apply Kd.aA | apply Kd.ay)); exact Kd.ae (bU C1.out B4.out) (fun _ hk => ⟨hk.1.1.1.1.1.1.1.1.1.1.1.1.1.1, ⟨hk.1.1.1.1.1.1.1.1.1.1.1.1.1.2, ⟨hk.1.1.1.1.1.1.1.1.1.1.1.1.2, ⟨hk.1.1.1.1.1.1.1.1.1.1.1.2, ⟨hk.1.1.1.1.1.1.1.1.1.1.2, ⟨hk.1.1.1.1.1.1.1.1.1.2, ⟨hk.1.1.1.1.1.1.1.1.2, ⟨hk.1.1.1.1.1.1.1.2, ⟨hk.1.1.1.1.1.1.2, ⟨hk.1.1.1.1.1.2, ⟨hk.1.1.1.1.2, ⟨hk.1.1.1.2, ⟨hk.1.1.2, hk.1.2⟩⟩⟩⟩⟩⟩⟩⟩⟩⟩⟩⟩⟩)⟩
     have n3_ : af (Kd.R (Kd.int .i64) 2 (((((K5.setCell ⟨A1, 0, none⟩ (.int .i64 G9)).setCell ⟨A1, 1, none⟩ (.int .i64 H0)).setCell ⟨A1, 2, none⟩ (.slice E5 D9.length E6)).setCell ⟨A1, 3, none⟩ (.slice E7 E0.length E8)).setCell ⟨A1, 4, none⟩ (.slice E9 E1.length F0)) w.heap.size (fun k_ => nb_ k_ D2 C2.length D3 ∧ nb_ k_ D4 C3.length D5 ∧ nb_ k_ D6 C4.length D7 ∧ nb_ k_ H6 G0.length H7 ∧ nb_ k_ H8 G1.length H9 ∧ nb_ k_ H2 E3.length G2 ∧ nb_ k_ H3 E4.length G3 ∧ nb_ k_ I0 F4.length G5 ∧ nb_ k_ I4 I1.length I5 ∧ nb_ k_ I6 I2.length I7 ∧ nb_ k_ I8 I3.length I9 ∧ nb_ k_ E5 D9.length E6 ∧ nb_ k_ E7 E0.length E8 ∧ nb_ k_ E9 E1.length F0) (.slice H4 F9.length H5) F9) := ⟨by (with_reducible repeat (first | apply Kd.aC | apply Kd.aA | apply Kd.ay)); exact Kd.ae (bU C6.out B4.out) (fun _ hk => ⟨hk.1.1.1.1.1.1.1.1.1.1.1.1.2, ⟨hk.1.1.1.1.1.1.1.1.1.1.1.2, ⟨hk.1.1.1.1.1.1.1.1.1.1.2, ⟨hk.1.1.1.1.1.1.1.1.1.1.1.1.1.1, ⟨hk.1.1.1.1.1.1.1.1.1.1.1.1.1.2, ⟨hk.1.1.1.1.1.1.1.1.1.2, ⟨hk.1.1.1.1.1.1.1.1.2, ⟨hk.1.1.1.1.1.1.1.2, ⟨hk.1.1.1.1.1.1.2, ⟨hk.1.1.1.1.1.2, ⟨hk.1.1.1.1.2, ⟨hk.1.1.1.2, ⟨hk.1.1.2, hk.1.2⟩⟩⟩⟩⟩⟩⟩⟩⟩⟩⟩⟩⟩)⟩
     have n4_ : af (Kd.R (Kd.int .i64) 2 (((((K5.setCell ⟨A1, 0, none⟩ (.int .i64 G9)).setCell ⟨A1, 1, none⟩ (.int .i64 H0)).setCell ⟨A1, 2, none⟩ (.slice E5 D9.length E6)).setCell ⟨A1, 3, none⟩ (.slice E7 E0.length E8)).setCell ⟨A1, 4, none⟩ (.slice E9 E1.length F0)) w.heap.size (fun k_ => nb_ k_ D2 C2.length D3 ∧ nb_ k_ D4 C3.length D5 ∧ nb_ k_ D6 C4.length D7 ∧ nb_ k_ H4 F9.length H5 ∧ nb_ k_ H8 G1.length H9 ∧ nb_ k_ H2 E3.length G2 ∧ nb_ k_ H3 E4.length G3 ∧ nb_ k_ I0 F4.length G5 ∧ nb_ k_ I4 I1.length I5 ∧ nb_ k_ I6 I2.length I7 ∧ nb_ k_ I8 I3.length I9 ∧ nb_ k_ E5 D9.length E6 ∧ nb_ k_ E7 E0.length E8 ∧ nb_ k_ E9 E1.length F0) (.slice H6 G0.length H7) G0) := ⟨by (with_reducible repeat (first | apply Kd.aC | apply Kd.aA | apply Kd.ay)); exact Kd.ae (bU C7.out B4.out) (fun _ hk => ⟨hk.1.1.1.1.1.1.1.1.1.1.1.1.2, ⟨hk.1.1.1.1.1.1.1.1.1.1.1.2, ⟨hk.1.1.1.1.1.1.1.1.1.1.2, ⟨hk.1.1.1.1.1.1.1.1.1.1.1.1.1.1, ⟨hk.1.1.1.1.1.1.1.1.1.1.1.1.1.2, ⟨hk.1.1.1.1.1.1.1.1.1.2, ⟨hk.1.1.1.1.1.1.1.1.2, ⟨hk.1.1.1.1.1.1.1.2, ⟨hk.1.1.1.1.1.1.2, ⟨hk.1.1.1.1.1.2, ⟨hk.1.1.1.1.2, ⟨hk.1.1.1.2, ⟨hk.1.1.2, hk.1.2⟩⟩⟩⟩⟩⟩⟩⟩⟩⟩⟩⟩⟩)⟩
     have n5_ : af (Kd.R (Kd.int .i64) 2 (((((K5.setCell ⟨A1, 0, none⟩ (.int .i64 G9)).setCell ⟨A1, 1, none⟩ (.int .i64 H0)).setCell ⟨A1, 2, none⟩ (.slice E5 D9.length E6)).setCell ⟨A1, 3, none⟩ (.slice E7 E0.length E8)).setCell ⟨A1, 4, none⟩ (.slice E9 E1.length F0)) w.heap.size (fun k_ => nb_ k_ D2 C2.length D3 ∧ nb_ k_ D4 C3.length D5 ∧ nb_ k_ D6 C4.length D7 ∧ nb_ k_ H4 F9.length H5 ∧ nb_ k_ H6 G0.length H7 ∧ nb_ k_ H2 E3.length G2 ∧ nb_ k_ H3 E4.length G3 ∧ nb_ k_ I0 F4.length G5 ∧ nb_ k_ I4 I1.length I5 ∧ nb_ k_ I6 I2.length I7 ∧ nb_ k_ I8 I3.length I9 ∧ nb_ k_ E5 D9.length E6 ∧ nb_ k_ E7 E0.length E8 ∧ nb_ k_ E9 E1.length F0) (.slice H8 G1.length H9) G1) := ⟨by (with_reducible repeat (first | apply Kd.aC | apply Kd.aA | apply Kd.ay)); exact Kd.ae (bU C8.out B4.out) (fun _ hk => ⟨hk.1.1.1.1.1.1.1.1.1.1.1.1.2, ⟨hk.1.1.1.1.1.1.1.1.1.1.1.2, ⟨hk.1.1.1.1.1.1.1.1.1.1.2, ⟨hk.1.1.1.1.1.1.1.1.1.1.1.1.1.1, ⟨hk.1.1.1.1.1.1.1.1.1.1.1.1.1.2, ⟨hk.1.1.1.1.1.1.1.1.1.2, ⟨hk.1.1.1.1.1.1.1.1.2, ⟨hk.1.1.1.1.1.1.1.2, ⟨hk.1.1.1.1.1.1.2, ⟨hk.1.1.1.1.1.2, ⟨hk.1.1.1.1.2, ⟨hk.1.1.1.2, ⟨hk.1.1.2, hk.1.2⟩⟩⟩⟩⟩⟩⟩⟩⟩⟩⟩⟩⟩)⟩
     have n6_ : af (Kd.R (Kd.int .i64) 2 (((((K5.setCell ⟨A1, 0, none⟩ (.int .i64 G9)).setCell ⟨A1, 1, none⟩ (.int .i64 H0)).setCell ⟨A1, 2, none⟩ (.slice E5 D9.length E6)).setCell ⟨A1, 3, none⟩ (.slice E7 E0.length E8)).setCell ⟨A1, 4, none⟩ (.slice E9 E1.length F0)) w.heap.size (fun k_ => nb_ k_ D2 C2.length D3 ∧ nb_ k_ D4 C3.length D5 ∧ nb_ k_ D6 C4.length D7 ∧ nb_ k_ H4 F9.length H5 ∧ nb_ k_ H6 G0.length H7 ∧ nb_ k_ H8 G1.length H9 ∧ nb_ k_ H3 E4.length G3 ∧ nb_ k_ I0 F4.length G5 ∧ nb_ k_ I4 I1.length I5 ∧ nb_ k_ I6 I2.length I7 ∧ nb_ k_ I8 I3.length I9 ∧ nb_ k_ E5 D9.length E6 ∧ nb_ k_ E7 E0.length E8 ∧ nb_ k_ E9 E1.length F0) (.slice H2 E3.length G2) E3) := ⟨by (with_reducible repeat (first | apply Kd.aC | apply Kd.aA | apply Kd.ay)); exact Kd.ae (bU D0.out B4.out) (fun _ hk => ⟨hk.1.1.1.1.1.1.1.1.1.1.1.1.2, ⟨hk.1.1.1.1.1.1.1.1.1.1.1.2, ⟨hk.1.1.1.1.1.1.1.1.1.1.2, ⟨hk.1.1.1.1.1.1.1.1.1.2, ⟨hk.1.1.1.1.1.1.1.1.2, ⟨hk.1.1.1.1.1.1.1.2, ⟨hk.1.1.1.1.1.1.1.1.1.1.1.1.1.1, ⟨hk.1.1.1.1.1.1.1.1.1.1.1.1.1.2, ⟨hk.1.1.1.1.1.1.2, ⟨hk.1.1.1.1.1.2, ⟨hk.1.1.1.1.2, ⟨hk.1.1.1.2, ⟨hk.1.1.2, hk.1.2⟩⟩⟩⟩⟩⟩⟩⟩⟩⟩⟩⟩⟩)⟩
     have n7_ : af (Kd.R (Kd.int .i64) 2 (((((K5.setCell ⟨A1, 0, none⟩ (.int .i64 G9)).setCell ⟨A1, 1, none⟩ (.int .i64 H0)).setCell ⟨A1, 2, none⟩ (.slice E5 D9.length E6)).setCell ⟨A1, 3, none⟩ (.slice E7 E0.length E8)).setCell ⟨A1, 4, none⟩ (.slice E9 E1.length F0)) w.heap.size (fun k_ => nb_ k_ D2 C2.length D3 ∧ nb_ k_ D4 C3.length D5 ∧ nb_ k_ D6 C4.length D7 ∧ nb_ k_ H4 F9.length H5 ∧ nb_ k_ H6 G0.length H7 ∧ nb_ k_ H8 G1.length H9 ∧ nb_ k_ H2 E3.length G2 ∧ nb_ k_ I0 F4.length G5 ∧ nb_ k_ I4 I1.length I5 ∧ nb_ k_ I6 I2.length I7 ∧ nb_ k_ I8 I3.length I9 ∧ nb_ k_ E5 D9.length E6 ∧ nb_ k_ E7 E0.length E8 ∧ nb_ k_ E9 E1.length F0) (.slice H3 E4.length G3) E4) := ⟨by (with_reducible repeat (first | apply Kd.aC | apply Kd.aA | apply Kd.ay)); exact Kd.ae (bU D1.out B4.out) (fun _ hk => ⟨hk.1.1.1.1.1.1.1.1.1.1.1.1.2, ⟨hk.1.1.1.1.1.1.1.1.1.1.1.2, ⟨hk.1.1.1.1.1.1.1.1.1.1.2, ⟨hk.1.1.1.1.1.1.1.1.1.2, ⟨hk.1.1.1.1.1.1.1.1.2, ⟨hk.1.1.1.1.1.1.1.2, ⟨hk.1.1.1.1.1.1.1.1.1.1.1.1.1.1, ⟨hk.1.1.1.1.1.1.1.1.1.1.1.1.1.2, ⟨hk.1.1.1.1.1.1.2, ⟨hk.1.1.1.1.1.2, ⟨hk.1.1.1.1.2, ⟨hk.1.1.1.2, ⟨hk.1.1.2, hk.1.2⟩⟩⟩⟩⟩⟩⟩⟩⟩⟩⟩⟩⟩)⟩
     have n8_ : af (Kd.R (Kd.int .i64) 2 (((((K5.setCell ⟨A1, 0, none⟩ (.int .i64 G9)).setCell ⟨A1, 1, none⟩ (.int .i64 H0)).setCell ⟨A1, 2, none⟩ (.slice E5 D9.length E6)).setCell ⟨A1, 3, none⟩ (.slice E7 E0.length E8)).setCell ⟨A1, 4, none⟩ (.slice E9 E1.length F0)) w.heap.size (fun k_ => nb_ k_ D2 C2.length D3 ∧ nb_ k_ D4 C3.length D5 ∧ nb_ k_ D6 C4.length D7 ∧ nb_ k_ H4 F9.length H5 ∧ nb_ k_ H6 G0.length H7 ∧ nb_ k_ H8 G1.length H9 ∧ nb_ k_ H2 E3.length G2 ∧ nb_ k_ H3 E4.length G3 ∧ nb_ k_ I4 I1.length I5 ∧ nb_ k_ I6 I2.length I7 ∧ nb_ k_ I8 I3.length I9 ∧ nb_ k_ E5 D9.length E6 ∧ nb_ k_ E7 E0.length E8 ∧ nb_ k_ E9 E1.length F0) (.slice I0 F4.length G5) F4) := ⟨by (with_reducible repeat (first | apply Kd.aC | apply Kd.aA | apply Kd.ay)); exact Kd.ae (bU C9.out B4.out) (fun _ hk => ⟨hk.1.1.1.1.1.1.1.1.1.1.1.1.2, ⟨hk.1.1.1.1.1.1.1.1.1.1.1.2, ⟨hk.1.1.1.1.1.1.1.1.1.1.2, ⟨hk.1.1.1.1.1.1.1.1.1.2, ⟨hk.1.1.1.1.1.1.1.1.2, ⟨hk.1.1.1.1.1.1.1.2, ⟨hk.1.1.1.1.1.1.1.1.1.1.1.1.1.1, ⟨hk.1.1.1.1.1.1.1.1.1.1.1.1.1.2, ⟨hk.1.1.1.1.1.1.2, ⟨hk.1.1.1.1.1.2, ⟨hk.1.1.1.1.2, ⟨hk.1.1.1.2, ⟨hk.1.1.2, hk.1.2⟩⟩⟩⟩⟩⟩⟩⟩⟩⟩⟩⟩⟩)⟩
     have n9_ : af (Kd.R (Kd.int .i64) 2 (((((K5.setCell ⟨A1, 0, none⟩ (.int .i64 G9)).setCell ⟨A1, 1, none⟩ (.int .i64 H0)).setCell ⟨A1, 2, none⟩ (.slice E5 D9.length E6)).setCell ⟨A1, 3, none⟩ (.slice E7 E0.length E8)).setCell ⟨A1, 4, none⟩ (.slice E9 E1.length F0)) w.heap.size (fun k_ => nb_ k_ D2 C2.length D3 ∧ nb_ k_ D4 C3.length D5 ∧ nb_ k_ D6 C4.length D7 ∧ nb_ k_ H4 F9.length H5 ∧ nb_ k_ H6 G0.length H7 ∧ nb_ k_ H8 G1.length H9 ∧ nb_ k_ H2 E3.length G2 ∧ nb_ k_ H3 E4.length G3 ∧ nb_ k_ I0 F4.length G5 ∧ nb_ k_ I6 I2.length I7 ∧ nb_ k_ I8 I3.length I9 ∧ nb_ k_ E5 D9.length E6 ∧ nb_ k_ E7 E0.length E8 ∧ nb_ k_ E9 E1.length F0) (.slice I4 I1.length I5) I1) := ⟨by (with_reducible repeat (first | apply Kd.aC | apply Kd.aA | apply Kd.ay)); exact Kd.ae (bU F1.out B4.out) (fun _ hk => ⟨hk.1.1.1.1.1.1.1.1.1.1.1.1.2, ⟨hk.1.1.1.1.1.1.1.1.1.1.1.2, ⟨hk.1.1.1.1.1.1.1.1.1.1.2, ⟨hk.1.1.1.1.1.1.1.1.1.2, ⟨hk.1.1.1.1.1.1.1.1.2, ⟨hk.1.1.1.1.1.1.1.2, ⟨hk.1.1.1.1.1.1.2, ⟨hk.1.1.1.1.1.2, ⟨hk.1.1.1.1.2, ⟨hk.1.1.1.1.1.1.1.1.1.1.1.1.1.1, ⟨hk.1.1.1.1.1.1.1.1.1.1.1.1.1.2, ⟨hk.1.1.1.2, ⟨hk.1.1.2, hk.1.2⟩⟩⟩⟩⟩⟩⟩⟩⟩⟩⟩⟩⟩)⟩
     have n10_ : af (Kd.R (Kd.int .i64) 2 (((((K5.setCell ⟨A1, 0, none⟩ (.int .i64 G9)).setCell ⟨A1, 1, none⟩ (.int .i64 H0)).setCell ⟨A1, 2, none⟩ (.slice E5 D9.length E6)).setCell ⟨A1, 3, none⟩ (.slice E7 E0.length E8)).setCell ⟨A1, 4, none⟩ (.slice E9 E1.length F0)) w.heap.size (fun k_ => nb_ k_ D2 C2.length D3 ∧ nb_ k_ D4 C3.length D5 ∧ nb_ k_ D6 C4.length D7 ∧ nb_ k_ H4 F9.length H5 ∧ nb_ k_ H6 G0.length H7 ∧ nb_ k_ H8 G1.length H9 ∧ nb_ k_ H2 E3.length G2 ∧ nb_ k_ H3 E4.length G3 ∧ nb_ k_ I0 F4.length G5 ∧ nb_ k_ I4 I1.length I5 ∧ nb_ k_ I8 I3.length I9 ∧ nb_ k_ E5 D9.length E6 ∧ nb_ k_ E7 E0.length E8 ∧ nb_ k_ E9 E1.length F0) (.slice I6 I2.length I7) I2) := ⟨by (with_reducible repeat (first | apply Kd.aC | apply Kd.aA | apply Kd.ay)); exact Kd.ae (bU F2.out B4.out) (fun _ hk => ⟨hk.1.1.1.1.1.1.1.1.1.1.1.1.2, ⟨hk.1.1.1.1.1.1.1.1.1.1.1.2, ⟨hk.1.1.1.1.1.1.1.1.1.1.2, ⟨hk.1.1.1.1.1.1.1.1.1.2, ⟨hk.1.1.1.1.1.1.1.1.2, ⟨hk.1.1.1.1.1.1.1.2, ⟨hk.1.1.1.1.1.1.2, ⟨hk.1.1.1.1.1.2, ⟨hk.1.1.1.1.2, ⟨hk.1.1.1.1.1.1.1.1.1.1.1.1.1.1, ⟨hk.1.1.1.1.1.1.1.1.1.1.1.1.1.2, ⟨hk.1.1.1.2, ⟨hk.1.1.2, hk.1.2⟩⟩⟩⟩⟩⟩⟩⟩⟩⟩⟩⟩⟩)⟩
     have n11_ : af (Kd.R (Kd.int .i64) 2 (((((K5.setCell ⟨A1, 0, none⟩ (.int .i64 G9)).setCell ⟨A1, 1, none⟩ (.int .i64 H0)).setCell ⟨A1, 2, none⟩ (.slice E5 D9.length E6)).setCell ⟨A1, 3, none⟩ (.slice E7 E0.length E8)).setCell ⟨A1, 4, none⟩ (.slice E9 E1.length F0)) w.heap.size (fun k_ => nb_ k_ D2 C2.length D3 ∧ nb_ k_ D4 C3.length D5 ∧ nb_ k_ D6 C4.length D7 ∧ nb_ k_ H4 F9.length H5 ∧ nb_ k_ H6 G0.length H7 ∧ nb_ k_ H8 G1.length H9 ∧ nb_ k_ H2 E3.length G2 ∧ nb_ k_ H3 E4.length G3 ∧ nb_ k_ I0 F4.length G5 ∧ nb_ k_ I4 I1.length I5 ∧ nb_ k_ I6 I2.length I7 ∧ nb_ k_ E5 D9.length E6 ∧ nb_ k_ E7 E0.length E8 ∧ nb_ k_ E9 E1.length F0) (.slice I8 I3.length I9) I3) := ⟨by (with_reducible repeat (first | apply Kd.aC | apply Kd.aA | apply Kd.ay)); exact Kd.ae (bU F3.out B4.out) (fun _ hk => ⟨hk.1.1.1.1.1.1.1.1.1.1.1.1.2, ⟨hk.1.1.1.1.1.1.1.1.1.1.1.2, ⟨hk.1.1.1.1.1.1.1.1.1.1.2, ⟨hk.1.1.1.1.1.1.1.1.1.2, ⟨hk.1.1.1.1.1.1.1.1.2, ⟨hk.1.1.1.1.1.1.1.2, ⟨hk.1.1.1.1.1.1.2, ⟨hk.1.1.1.1.1.2, ⟨hk.1.1.1.1.2, ⟨hk.1.1.1.1.1.1.1.1.1.1.1.1.1.1, ⟨hk.1.1.1.1.1.1.1.1.1.1.1.1.1.2, ⟨hk.1.1.1.2, ⟨hk.1.1.2, hk.1.2⟩⟩⟩⟩⟩⟩⟩⟩⟩⟩⟩⟩⟩)⟩
     have n12_ : af (Kd.R (Kd.int .i64) 2 (((((K5.setCell ⟨A1, 0, none⟩ (.int .i64 G9)).setCell ⟨A1, 1, none⟩ (.int .i64 H0)).setCell ⟨A1, 2, none⟩ (.slice E5 D9.length E6)).setCell ⟨A1, 3, none⟩ (.slice E7 E0.length E8)).setCell ⟨A1, 4, none⟩ (.slice E9 E1.length F0)) w.heap.size (fun k_ => nb_ k_ D2 C2.length D3 ∧ nb_ k_ D4 C3.length D5 ∧ nb_ k_ D6 C4.length D7 ∧ nb_ k_ H4 F9.length H5 ∧ nb_ k_ H6 G0.length H7 ∧ nb_ k_ H8 G1.length H9 ∧ nb_ k_ H2 E3.length G2 ∧ nb_ k_ H3 E4.length G3 ∧ nb_ k_ I0 F4.length G5 ∧ nb_ k_ I4 I1.length I5 ∧ nb_ k_ I6 I2.length I7 ∧ nb_ k_ I8 I3.length I9 ∧ nb_ k_ E7 E0.length E8 ∧ nb_ k_ E9 E1.length F0) (.slice E5 D9.length E6) D9) := ⟨by (with_reducible repeat (first | apply Kd.aC | apply Kd.aA | apply Kd.ay)); exact Kd.ae (bU G6.out B4.out) (fun _ hk => ⟨hk.1.1.1.1.1.1.1.1.1.1.1.1.2, ⟨hk.1.1.1.1.1.1.1.1.1.1.1.2, ⟨hk.1.1.1.1.1.1.1.1.1.1.2, ⟨hk.1.1.1.1.1.1.1.1.1.2, ⟨hk.1.1.1.1.1.1.1.1.2, ⟨hk.1.1.1.1.1.1.1.2, ⟨hk.1.1.1.1.1.1.2, ⟨hk.1.1.1.1.1.2, ⟨hk.1.1.1.1.2, ⟨hk.1.1.1.2, ⟨hk.1.1.2, ⟨hk.1.2, ⟨hk.1.1.1.1.1.1.1.1.1.1.1.1.1.1, hk.1.1.1.1.1.1.1.1.1.1.1.1.1.2⟩⟩⟩⟩⟩⟩⟩⟩⟩⟩⟩⟩⟩)⟩
     have n13_ : af (Kd.R (Kd.int .i64) 2 (((((K5.setCell ⟨A1, 0, none⟩ (.int .i64 G9)).setCell ⟨A1, 1, none⟩ (.int .i64 H0)).setCell ⟨A1, 2, none⟩ (.slice E5 D9.length E6)).setCell ⟨A1, 3, none⟩ (.slice E7 E0.length E8)).setCell ⟨A1, 4, none⟩ (.slice E9 E1.length F0)) w.heap.size (fun k_ => nb_ k_ D2 C2.length D3 ∧ nb_ k_ D4 C3.length D5 ∧ nb_ k_ D6 C4.length D7 ∧ nb_ k_ H4 F9.length H5 ∧ nb_ k_ H6 G0.length H7 ∧ nb_ k_ H8 G1.length H9 ∧ nb_ k_ H2 E3.length G2 ∧ nb_ k_ H3 E4.length G3 ∧ nb_ k_ I0 F4.length G5 ∧ nb_ k_ I4 I1.length I5 ∧ nb_ k_ I6 I2.length I7 ∧ nb_ k_ I8 I3.length I9 ∧ nb_ k_ E5 D9.length E6 ∧ nb_ k_ E9 E1.length F0) (.slice E7 E0.length E8) E0) := ⟨by (with_reducible repeat (first | apply Kd.aC | apply Kd.aA | apply Kd.ay)); exact Kd.ae (bU G7.out B4.out) (fun _ hk => ⟨hk.1.1.1.1.1.1.1.1.1.1.1.1.2, ⟨hk.1.1.1.1.1.1.1.1.1.1.1.2, ⟨hk.1.1.1.1.1.1.1.1.1.1.2, ⟨hk.1.1.1.1.1.1.1.1.1.2, ⟨hk.1.1.1.1.1.1.1.1.2, ⟨hk.1.1.1.1.1.1.1.2, ⟨hk.1.1.1.1.1.1.2, ⟨hk.1.1.1.1.1.2, ⟨hk.1.1.1.1.2, ⟨hk.1.1.1.2, ⟨hk.1.1.2, ⟨hk.1.2, ⟨hk.1.1.1.1.1.1.1.1.1.1.1.1.1.1, hk.1.1.1.1.1.1.1.1.1.1.1.1.1.2⟩⟩⟩⟩⟩⟩⟩⟩⟩⟩⟩⟩⟩)⟩
     have n14_ : af (Kd.R (Kd.int .i64) 2 (((((K5.setCell ⟨A1, 0, none⟩ (.int .i64 G9)).setCell ⟨A1, 1, none⟩ (.int .i64 H0)).setCell ⟨A1, 2, none⟩ (.slice E5 D9.length E6)).setCell ⟨A1, 3, none⟩ (.slice E7 E0.length E8)).setCell ⟨A1, 4, none⟩ (.slice E9 E1.length F0)) w.heap.size (fun k_ => nb_ k_ D2 C2.length D3 ∧ nb_ k_ D4 C3.length D5 ∧ nb_ k_ D6 C4.length D7 ∧ nb_ k_ H4 F9.length H5 ∧ nb_ k_ H6 G0.length H7 ∧ nb_ k_ H8 G1.length H9 ∧ nb_ k_ H2 E3.length G2 ∧ nb_ k_ H3 E4.length G3 ∧ nb_ k_ I0 F4.length G5 ∧ nb_ k_ I4 I1.length I5 ∧ nb_ k_ I6 I2.length I7 ∧ nb_ k_ I8 I3.length I9 ∧ nb_ k_ E5 D9.length E6 ∧ nb_ k_ E7 E0.length E8) (.slice E9 E1.length F0) E1) := ⟨by (with_reducible repeat (first | apply Kd.aC | apply Kd.aA | apply Kd.ay)); exact Kd.ae (bU G8.out B4.out) (fun _ hk => ⟨hk.1.1.1.1.1.1.1.1.1.1.1.1.2, ⟨hk.1.1.1.1.1.1.1.1.1.1.1.2, ⟨hk.1.1.1.1.1.1.1.1.1.1.2, ⟨hk.1.1.1.1.1.1.1.1.1.2, ⟨hk.1.1.1.1.1.1.1.1.2, ⟨hk.1.1.1.1.1.1.1.2, ⟨hk.1.1.1.1.1.1.2, ⟨hk.1.1.1.1.1.2, ⟨hk.1.1.1.1.2, ⟨hk.1.1.1.2, ⟨hk.1.1.2, ⟨hk.1.2, ⟨hk.1.1.1.1.1.1.1.1.1.1.1.1.1.1, hk.1.1.1.1.1.1.1.1.1.1.1.1.1.2⟩⟩⟩⟩⟩⟩⟩⟩⟩⟩⟩⟩⟩)⟩
     have n15_ : af ((((((K5.setCell ⟨A1, 0, none⟩ (.int .i64 G9)).setCell ⟨A1, 1, none⟩ (.int .i64 H0)).setCell ⟨A1, 2, none⟩ (.slice E5 D9.length E6)).setCell ⟨A1, 3, none⟩ (.slice E7 E0.length E8)).setCell ⟨A1, 4, none⟩ (.slice E9 E1.length F0)).heap[gb646]? = some (.cells #[.int .i64 F7, .int .i64 F8, .slice D2 C2.length D3, .slice D4 C3.length D5, .slice D6 C4.length D7] 28 (0, 0))) := ⟨(gB (h := by exact lw L8.out BK646.out))⟩
     have n16_ : af ((((((K5.setCell ⟨A1, 0, none⟩ (.int .i64 G9)).setCell ⟨A1, 1, none⟩ (.int .i64 H0)).setCell ⟨A1, 2, none⟩ (.slice E5 D9.length E6)).setCell ⟨A1, 3, none⟩ (.slice E7 E0.length E8)).setCell ⟨A1, 4, none⟩ (.slice E9 E1.length F0)).heap[D8]? = some (.cells #[.int .i64 M4, .int .i64 M5, .slice H4 F9.length H5, .slice H6 G0.length H7, .slice H8 G1.length H9] 28 (0, 0))) := ⟨(gB (h := by exact lw L9.out B3.out))⟩
     have n17_ : af ((((((K5.setCell ⟨A1, 0, none⟩ (.int .i64 G9)).setCell ⟨A1, 1, none⟩ (.int .i64 H0)).setCell ⟨A1, 2, none⟩ (.slice E5 D9.length E6)).setCell ⟨A1, 3, none⟩ (.slice E7 E0.length E8)).setCell ⟨A1, 4, none⟩ (.slice E9 E1.length F0)).heap[E2]? = some (.cells #[.int .i64 J6, .int .i64 J7, .slice H2 E3.length G2, .slice H3 E4.length G3, .slice I0 F4.length G5] 28 (0, 0))) := ⟨(gB (h := by exact lw M0.out B0.out))⟩
     have n18_ : af ((((((K5.setCell ⟨A1, 0, none⟩ (.int .i64 G9)).setCell ⟨A1, 1, none⟩ (.int .i64 H0)).setCell ⟨A1, 2, none⟩ (.slice E5 D9.length E6)).setCell ⟨A1, 3, none⟩ (.slice E7 E0.length E8)).setCell ⟨A1, 4, none⟩ (.slice E9 E1.length F0)).heap[F6]? = some (.cells #[.int .i64 M8, .int .i64 M9, .slice I4 I1.length I5, .slice I6 I2.length I7, .slice I8 I3.length I9] 28 (0, 0))) := ⟨(gB (h := by exact lw M1.out A3.out))⟩
     have n19_ : af ((((((K5.setCell ⟨A1, 0, none⟩ (.int .i64 G9)).setCell ⟨A1, 1, none⟩ (.int .i64 H0)).setCell ⟨A1, 2, none⟩ (.slice E5 D9.length E6)).setCell ⟨A1, 3, none⟩ (.slice E7 E0.length E8)).setCell ⟨A1, 4, none⟩ (.slice E9 E1.length F0)).heap[A1]? = some (.cells #[.int .i64 G9, .int .i64 H0, .slice E5 D9.length E6, .slice E7 E0.length E8, .slice E9 E1.length F0] 28 (0, 0))) := ⟨(gB (h := by exact gK B4.out))⟩
     have n20_ : af (Below w.heap.size w (((((K5.setCell ⟨A1, 0, none⟩ (.int .i64 G9)).setCell ⟨A1, 1, none⟩ (.int .i64 H0)).setCell ⟨A1, 2, none⟩ (.slice E5 D9.length E6)).setCell ⟨A1, 3, none⟩ (.slice E7 E0.length E8)).setCell ⟨A1, 4, none⟩ (.slice E9 E1.length F0))) := ⟨z1_⟩
     (try clear B7)
     (try clear C0)
     (try clear C1)
     (try clear C6)
     (try clear C7)
     (try clear C8)
     (try clear D0)
     (try clear D1)
     (try clear C9)
     (try clear F1)
     (try clear F2)
     (try clear F3)
     (try clear G6)
     (try clear G7)
     (try clear G8)
     (try clear BK646)
     (try clear B3)
     (try clear B0)
     (try clear A3)
     (try clear B4)
     (try clear HB)
     generalize (((((K5.setCell ⟨A1, 0, none⟩ (.int .i64 G9)).setCell ⟨A1, 1, none⟩ (.int .i64 H0)).setCell ⟨A1, 2, none⟩ (.slice E5 D9.length E6)).setCell ⟨A1, 3, none⟩ (.slice E7 E0.length E8)).setCell ⟨A1, 4, none⟩ (.slice E9 E1.length F0)) = o9 at n0_ n1_ n2_ n3_ n4_ n5_ n6_ n7_ n8_ n9_ n10_ n11_ n12_ n13_ n14_ n15_ n16_ n17_ n18_ n19_ n20_ ⊢
     have B7 := n0_
     have C0 := n1_
     have C1 := n2_
     have C6 := n3_
     have C7 := n4_
     have C8 := n5_
     have D0 := n6_
     have D1 := n7_
     have C9 := n8_
     have F1 := n9_
     have F2 := n10_
     have F3 := n11_
     have G6 := n12_
     have G7 := n13_
     have G8 := n14_
     have BK646 := n15_
     have B3 := n16_
     have B0 := n17_
     have A3 := n18_
     have B4 := n19_
     have HB := n20_
     clear n0_ n1_ n2_ n3_ n4_ n5_ n6_ n7_ n8_ n9_ n10_ n11_ n12_ n13_ n14_ n15_ n16_ n17_ n18_ n19_ n20_
     replace B7 := a_ (Kd.ay B7.out)
     replace C0 := a_ (Kd.ay C0.out)
     replace C1 := a_ (Kd.ay C1.out)
     replace C6 := a_ (Kd.ay C6.out)
     replace C7 := a_ (Kd.ay C7.out)
     replace C8 := a_ (Kd.ay C8.out)
     replace D0 := a_ (Kd.ay D0.out)
     replace D1 := a_ (Kd.ay D1.out)
     replace C9 := a_ (Kd.ay C9.out)
     replace F1 := a_ (Kd.ay F1.out)
     replace F2 := a_ (Kd.ay F2.out)
     replace F3 := a_ (Kd.ay F3.out)
     replace G6 := a_ (Kd.ay G6.out)
     replace G7 := a_ (Kd.ay G7.out)
     replace G8 := a_ (Kd.ay G8.out)
     replace BK646 := a_ (bv BK646.out)
     replace B3 := a_ (bv B3.out)
     replace B0 := a_ (bv B0.out)
     replace A3 := a_ (bv A3.out)
     replace B4 := a_ (bv B4.out)
     replace HB := a_ (aM HB.out)
     refine gW (n := 27) (S := fun w' => w'.cell? ⟨gb646, 0, none⟩ = some (.int .i64 F7) ∧ w'.cell? ⟨gb646, 1, none⟩ = some (.int .i64 F8) ∧ w'.cell? ⟨gb646, 2, none⟩ = some (.slice D2 C2.length D3) ∧ w'.cell? ⟨gb646, 3, none⟩ = some (.slice D4 C3.length D5) ∧ w'.cell? ⟨gb646, 4, none⟩ = some (.slice D6 C4.length D7) ∧ w'.cell? ⟨D8, 0, none⟩ = some (.int .i64 M4) ∧ w'.cell? ⟨D8, 1, none⟩ = some (.int .i64 M5) ∧ w'.cell? ⟨D8, 2, none⟩ = some (.slice H4 F9.length H5) ∧ w'.cell? ⟨D8, 3, none⟩ = some (.slice H6 G0.length H7) ∧ w'.cell? ⟨D8, 4, none⟩ = some (.slice H8 G1.length H9) ∧ w'.cell? ⟨F6, 0, none⟩ = some (.int .i64 M8) ∧ w'.cell? ⟨F6, 1, none⟩ = some (.int .i64 M9) ∧ w'.cell? ⟨F6, 2, none⟩ = some (.slice I4 I1.length I5) ∧ w'.cell? ⟨F6, 3, none⟩ = some (.slice I6 I2.length I7) ∧ w'.cell? ⟨F6, 4, none⟩ = some (.slice I8 I3.length I9) ∧ w'.cell? ⟨A1, 0, none⟩ = some (.int .i64 G9) ∧ w'.cell? ⟨A1, 1, none⟩ = some (.int .i64 H0) ∧ w'.cell? ⟨A1, 2, none⟩ = some (.slice E5 D9.length E6) ∧ w'.cell? ⟨A1, 3, none⟩ = some (.slice E7 E0.length E8) ∧ w'.cell? ⟨A1, 4, none⟩ = some (.slice E9 E1.length F0) ∧ w'.cell? ⟨E2, 0, none⟩ = some (.int .i64 J6) ∧ w'.cell? ⟨E2, 1, none⟩ = some (.int .i64 J7) ∧ w'.cell? ⟨E2, 2, none⟩ = some (.slice H2 E3.length G2) ∧ w'.cell? ⟨E2, 3, none⟩ = some (.slice H3 E4.length G3) ∧ w'.cell? ⟨E2, 4, none⟩ = some (.slice I0 F4.length G5)) (ds := []) #[false, false, false, false, false, false, false, false, false, false, false, false, false, false, false, false, false, false, false, false, false, false, false, false, false, false, false] (by kernel_rfl) rfl rfl ⟨(aa BK646.out 0).trans rfl, (aa BK646.out 1).trans rfl, (aa BK646.out 2).trans rfl, (aa BK646.out 3).trans rfl, (aa BK646.out 4).trans rfl, (aa B3.out 0).trans rfl, (aa B3.out 1).trans rfl, (aa B3.out 2).trans rfl, (aa B3.out 3).trans rfl, (aa B3.out 4).trans rfl, (aa A3.out 0).trans rfl, (aa A3.out 1).trans rfl, (aa A3.out 2).trans rfl, (aa A3.out 3).trans rfl, (aa A3.out 4).trans rfl, (aa B4.out 0).trans rfl, (aa B4.out 1).trans rfl, (aa B4.out 2).trans rfl, (aa B4.out 3).trans rfl, (aa B4.out 4).trans rfl, (aa B0.out 0).trans rfl, (aa B0.out 1).trans rfl, (aa B0.out 2).trans rfl, (aa B0.out 3).trans rfl, (aa B0.out 4).trans rfl⟩ (fun hHeld => ?_); refine fq aQ.yU aQ.vw (fun HT_ HW_ => ?_)
     generalize o9.drew = r2 at B7 C0 C1 C6 C7 C8 D0 D1 C9 F1 F2 F3 G6 G7 G8 BK646 B3 B0 A3 B4 HB hHeld ⊢
     refine pv_ 0 (some 64) ?_
     refine pv_ 1 (some 65) ?_
     refine pv_ 2 (some 66) ?_
     refine pv_ 3 (some 67) ?_
     refine rW (i := 4) (N := some 68) hHeld ?_
     refine rW (i := 5) (N := some 69) hHeld ?_
     refine on_ (i := 6) (N := some 70) (fun K hK => ?_)
     refine iQ Tryz.func19 (by kernel_rfl) rfl #[.agg #[.int .i64 F7, .int .i64 F8, .slice D2 C2.length D3, .slice D4 C3.length D5, .slice D6 C4.length D7], .agg #[.int .i64 M4, .int .i64 M5, .slice H4 F9.length H5, .slice H6 G0.length H7, .slice H8 G1.length H9]] (by rfl) rfl rfl dN ?_
     with_reducible refine (dP.calls k F7 F8 _ _ C2 _ _ C3 _ _ C4 M4 M5 _ _ F9 _ _ G0 _ _ G1 true _ ?side1 ?side2 ?side3 ?side4 ?side5 ?side6 ?side7 ?side8 ?side9 ?side10 ?side11 ?side12 o5.out).mono ?_
     (case side1 => exact (by (repeat (first | exact (Kd.aI B7.out).2.2 | (with_reducible refine Kd.dD ?_ _) | (with_reducible refine Kd.dH ?_ _) | (with_reducible refine Kd.dZ ?_))); first | done | fail))
     (case side2 => exact (Kd.aI B7.out).2.1)
     (case side3 => exact (by (repeat (first | exact (Kd.aI C0.out).2.2 | (with_reducible refine Kd.dD ?_ _) | (with_reducible refine Kd.dH ?_ _) | (with_reducible refine Kd.dZ ?_))); first | done | fail))
     (case side4 => exact (Kd.aI C0.out).2.1)
     (case side5 => exact (by (repeat (first | exact (Kd.aI C1.out).2.2 | (with_reducible refine Kd.dD ?_ _) | (with_reducible refine Kd.dH ?_ _) | (with_reducible refine Kd.dZ ?_))); first | done | fail))
     (case side6 => exact (Kd.aI C1.out).2.1)
     (case side7 => exact (by (repeat (first | exact (Kd.aI C6.out).2.2 | (with_reducible refine Kd.dD ?_ _) | (with_reducible refine Kd.dH ?_ _) | (with_reducible refine Kd.dZ ?_))); first | done | fail))
     (case side8 => exact (Kd.aI C6.out).2.1)
     (case side9 => exact (by (repeat (first | exact (Kd.aI C7.out).2.2 | (with_reducible refine Kd.dD ?_ _) | (with_reducible refine Kd.dH ?_ _) | (with_reducible refine Kd.dZ ?_))); first | done | fail))
     (case side10 => exact (Kd.aI C7.out).2.1)
     (case side11 => exact (by (repeat (first | exact (Kd.aI C8.out).2.2 | (with_reducible refine Kd.dD ?_ _) | (with_reducible refine Kd.dH ?_ _) | (with_reducible refine Kd.dZ ?_))); first | done | fail))
     (case side12 => exact (Kd.aI C8.out).2.1)
     rintro e r3 ⟨rfl, hb⟩
     refine ⟨_, rfl, ?_⟩
     replace B7 := rl_ B7 hb
     replace C0 := rl_ C0 hb
     replace C1 := rl_ C1 hb
     replace C6 := rl_ C6 hb
     replace C7 := rl_ C7 hb
     replace C8 := rl_ C8 hb
     replace D0 := rl_ D0 hb
     replace D1 := rl_ D1 hb
     replace C9 := rl_ C9 hb
     replace F1 := rl_ F1 hb
     replace F2 := rl_ F2 hb
     replace F3 := rl_ F3 hb
     replace G6 := rl_ G6 hb
     replace G7 := rl_ G7 hb
     replace G8 := rl_ G8 hb
     replace BK646 := bb_ gb646 BK646 hb
     replace B3 := bb_ D8 B3 hb
     replace B0 := bb_ E2 B0 hb
     replace A3 := bb_ F6 A3 hb
     replace B4 := bb_ A1 B4 hb
     replace HB := cK z1_ hb
     (try clear hb)
     (try clear hb2)
     (try clear hk)
     (try clear hi)
     refine hK.out _ _ ⟨(aa BK646.out 0).trans rfl, (aa BK646.out 1).trans rfl, (aa BK646.out 2).trans rfl, (aa BK646.out 3).trans rfl, (aa BK646.out 4).trans rfl, (aa B3.out 0).trans rfl, (aa B3.out 1).trans rfl, (aa B3.out 2).trans rfl, (aa B3.out 3).trans rfl, (aa B3.out 4).trans rfl, (aa A3.out 0).trans rfl, (aa A3.out 1).trans rfl, (aa A3.out 2).trans rfl, (aa A3.out 3).trans rfl, (aa A3.out 4).trans rfl, (aa B4.out 0).trans rfl, (aa B4.out 1).trans rfl, (aa B4.out 2).trans rfl, (aa B4.out 3).trans rfl, (aa B4.out 4).trans rfl, (aa B0.out 0).trans rfl, (aa B0.out 1).trans rfl, (aa B0.out 2).trans rfl, (aa B0.out 3).trans rfl, (aa B0.out 4).trans rfl⟩ (fun hHeld => ?_)
     clear hK K
     refine nm_ ?_
     refine pv_ 7 (some 71) ?_
     refine pv_ 8 (some 72) ?_
     refine pv_ 9 (some 73) ?_
     refine pv_ 10 (some 74) ?_
     refine pv_ 11 (some 75) ?_
     refine pv_ 12 (some 76) ?_
     refine pv_ 13 (some 77) ?_
     refine pv_ 14 (some 78) ?_
     refine rW (i := 15) (N := some 79) hHeld ?_
     refine rW (i := 16) (N := some 80) hHeld ?_
     refine on_ (i := 17) (N := some 81) (fun K hK => ?_)
     refine iQ Tryz.func19 (by kernel_rfl) rfl #[.agg #[.int .i64 M8, .int .i64 M9, .slice I4 I1.length I5, .slice I6 I2.length I7, .slice I8 I3.length I9], .agg #[.int .i64 G9, .int .i64 H0, .slice E5 D9.length E6, .slice E7 E0.length E8, .slice E9 E1.length F0]] (by rfl) rfl rfl dN ?_
     with_reducible refine (dP.calls k M8 M9 _ _ I1 _ _ I2 _ _ I3 G9 H0 _ _ D9 _ _ E0 _ _ E1 true _ ?side1 ?side2 ?side3 ?side4 ?side5 ?side6 ?side7 ?side8 ?side9 ?side10 ?side11 ?side12 o6.out).mono ?_
     (case side1 => exact (by (repeat (first | exact (Kd.aI F1.out).2.2 | (with_reducible refine Kd.dD ?_ _) | (with_reducible refine Kd.dH ?_ _) | (with_reducible refine Kd.dZ ?_))); first | done | fail))
     (case side2 => exact (Kd.aI F1.out).2.1)
     (case side3 => exact (by (repeat (first | exact (Kd.aI F2.out).2.2 | (with_reducible refine Kd.dD ?_ _) | (with_reducible refine Kd.dH ?_ _) | (with_reducible refine Kd.dZ ?_))); first | done | fail))
     (case side4 => exact (Kd.aI F2.out).2.1)
     (case side5 => exact (by (repeat (first | exact (Kd.aI F3.out).2.2 | (with_reducible refine Kd.dD ?_ _) | (with_reducible refine Kd.dH ?_ _) | (with_reducible refine Kd.dZ ?_))); first | done | fail))
     (case side6 => exact (Kd.aI F3.out).2.1)
     (case side7 => exact (by (repeat (first | exact (Kd.aI G6.out).2.2 | (with_reducible refine Kd.dD ?_ _) | (with_reducible refine Kd.dH ?_ _) | (with_reducible refine Kd.dZ ?_))); first | done | fail))
     (case side8 => exact (Kd.aI G6.out).2.1)
     (case side9 => exact (by (repeat (first | exact (Kd.aI G7.out).2.2 | (with_reducible refine Kd.dD ?_ _) | (with_reducible refine Kd.dH ?_ _) | (with_reducible refine Kd.dZ ?_))); first | done | fail))
     (case side10 => exact (Kd.aI G7.out).2.1)
     (case side11 => exact (by (repeat (first | exact (Kd.aI G8.out).2.2 | (with_reducible refine Kd.dD ?_ _) | (with_reducible refine Kd.dH ?_ _) | (with_reducible refine Kd.dZ ?_))); first | done | fail))
     (case side12 => exact (Kd.aI G8.out).2.1)
     rintro e r4 ⟨rfl, hb⟩
     refine ⟨_, rfl, ?_⟩
     replace B7 := rl_ B7 hb
     replace C0 := rl_ C0 hb
     replace C1 := rl_ C1 hb
     replace C6 := rl_ C6 hb
     replace C7 := rl_ C7 hb
     replace C8 := rl_ C8 hb
     replace D0 := rl_ D0 hb
     replace D1 := rl_ D1 hb
     replace C9 := rl_ C9 hb
     replace F1 := rl_ F1 hb
     replace F2 := rl_ F2 hb
     replace F3 := rl_ F3 hb
     replace G6 := rl_ G6 hb
     replace G7 := rl_ G7 hb
     replace G8 := rl_ G8 hb
     replace BK646 := bb_ gb646 BK646 hb
     replace B3 := bb_ D8 B3 hb
     replace B0 := bb_ E2 B0 hb
     replace A3 := bb_ F6 A3 hb
     replace B4 := bb_ A1 B4 hb
     replace HB := cK z1_ hb
     (try clear hb)
     (try clear hb2)
     (try clear hk)
     (try clear hi)
     refine hK.out _ _ ⟨(aa BK646.out 0).trans rfl, (aa BK646.out 1).trans rfl, (aa BK646.out 2).trans rfl, (aa BK646.out 3).trans rfl, (aa BK646.out 4).trans rfl, (aa B3.out 0).trans rfl, (aa B3.out 1).trans rfl, (aa B3.out 2).trans rfl, (aa B3.out 3).trans rfl, (aa B3.out 4).trans rfl, (aa A3.out 0).trans rfl, (aa A3.out 1).trans rfl, (aa A3.out 2).trans rfl, (aa A3.out 3).trans rfl, (aa A3.out 4).trans rfl, (aa B4.out 0).trans rfl, (aa B4.out 1).trans rfl, (aa B4.out 2).trans rfl, (aa B4.out 3).trans rfl, (aa B4.out 4).trans rfl, (aa B0.out 0).trans rfl, (aa B0.out 1).trans rfl, (aa B0.out 2).trans rfl, (aa B0.out 3).trans rfl, (aa B0.out 4).trans rfl⟩ (fun hHeld => ?_)
     clear hK K
     refine nm_ ?_
     refine pv_ 18 (some 82) ?_
     refine pv_ 19 (some 83) ?_
     refine pv_ 20 (some 84) ?_
     refine rW (i := 21) (N := some 85) hHeld ?_
     refine rW (i := 23) (N := some 87) hHeld ?_
     refine on_ (i := 22) (N := some 86) (fun K hK => ?_)
     refine iQ Tryz.func20 (by kernel_rfl) rfl #[.agg #[.int .i64 J6, .int .i64 J7, .slice H2 E3.length G2, .slice H3 E4.length G3, .slice I0 F4.length G5]] (by rfl) rfl rfl dN ?_
     with_reducible refine (aW.calls k J6 J7 (fun k_ => some k_ = (.slice H2 E3.length G2 : Value).ownBlock) _ _ E3 (fun k_ => some k_ = (.slice H3 E4.length G3 : Value).ownBlock) _ _ E4 _ _ F4 L0 _ ?side1 ?side2 ?side3 ?side4 o7.out).mono ?_
     (case side1 => exact Kd.R_V (Kd.iX rfl (Kd.dR (Kd.dR (Kd.dR (Kd.dR (Kd.dR (D0.out) BK646.out (by decide)) B3.out (by decide)) B0.out (by decide)) A3.out (by decide)) B4.out (by decide))))
     (case side2 => exact Kd.R_V (Kd.iX rfl (Kd.dR (Kd.dR (Kd.dR (Kd.dR (Kd.dR (D1.out) BK646.out (by decide)) B3.out (by decide)) B0.out (by decide)) A3.out (by decide)) B4.out (by decide))))
     (case side3 => exact (by (repeat (first | exact (Kd.aI C9.out).2.2 | (with_reducible refine Kd.dD ?_ _) | (with_reducible refine Kd.dH ?_ _) | (with_reducible refine Kd.dZ ?_))); first | done | fail))
     (case side4 => exact (Kd.aI C9.out).2.1)
     rintro e r5 ⟨rfl, hb⟩
     refine ⟨_, rfl, ?_⟩
     replace B7 := rl_ B7 hb
     replace C0 := rl_ C0 hb
     replace C1 := rl_ C1 hb
     replace C6 := rl_ C6 hb
     replace C7 := rl_ C7 hb
     replace C8 := rl_ C8 hb
     replace D0 := rl_ D0 hb
     replace D1 := rl_ D1 hb
     replace C9 := rl_ C9 hb
     replace F1 := rl_ F1 hb
     replace F2 := rl_ F2 hb
     replace F3 := rl_ F3 hb
     replace G6 := rl_ G6 hb
     replace G7 := rl_ G7 hb
     replace G8 := rl_ G8 hb
     replace BK646 := bb_ gb646 BK646 hb
     replace B3 := bb_ D8 B3 hb
     replace B0 := bb_ E2 B0 hb
     replace A3 := bb_ F6 A3 hb
     replace B4 := bb_ A1 B4 hb
     replace HB := cK z1_ hb
     (try clear hb)
     (try clear hb2)
     (try clear hk)
     (try clear hi)
     refine hK.out _ _ ⟨(aa BK646.out 0).trans rfl, (aa BK646.out 1).trans rfl, (aa BK646.out 2).trans rfl, (aa BK646.out 3).trans rfl, (aa BK646.out 4).trans rfl, (aa B3.out 0).trans rfl, (aa B3.out 1).trans rfl, (aa B3.out 2).trans rfl, (aa B3.out 3).trans rfl, (aa B3.out 4).trans rfl, (aa A3.out 0).trans rfl, (aa A3.out 1).trans rfl, (aa A3.out 2).trans rfl, (aa A3.out 3).trans rfl, (aa A3.out 4).trans rfl, (aa B4.out 0).trans rfl, (aa B4.out 1).trans rfl, (aa B4.out 2).trans rfl, (aa B4.out 3).trans rfl, (aa B4.out 4).trans rfl, (aa B0.out 0).trans rfl, (aa B0.out 1).trans rfl, (aa B0.out 2).trans rfl, (aa B0.out 3).trans rfl, (aa B0.out 4).trans rfl⟩ (fun hHeld => ?_)
     clear hK K
     refine nm_ ?_
     refine on_ (i := 24) (N := some 88) (fun K hK => ?_)
     refine iQ Tryz.func21 (by kernel_rfl) rfl #[.agg #[.int .i64 J6, .int .i64 J7, .slice H2 E3.length G2, .slice H3 E4.length G3, .slice I0 F4.length G5]] (by rfl) rfl rfl dN ?_
     with_reducible refine (aK.calls k J6 J7 _ _ E3 _ _ E4 _ _ F4 L1 _ ?side1 ?side2 ?side3 ?side4 ?side5 ?side6 o8.out).mono ?_
     (case side1 => exact (by (repeat (first | exact (Kd.aI D0.out).2.2 | (with_reducible refine Kd.dD ?_ _) | (with_reducible refine Kd.dH ?_ _) | (with_reducible refine Kd.dZ ?_))); first | done | fail))
     (case side2 => exact (Kd.aI D0.out).2.1)
     (case side3 => exact (by (repeat (first | exact (Kd.aI D1.out).2.2 | (with_reducible refine Kd.dD ?_ _) | (with_reducible refine Kd.dH ?_ _) | (with_reducible refine Kd.dZ ?_))); first | done | fail))
     (case side4 => exact (Kd.aI D1.out).2.1)
     (case side5 => exact (by (repeat (first | exact (Kd.aI C9.out).2.2 | (with_reducible refine Kd.dD ?_ _) | (with_reducible refine Kd.dH ?_ _) | (with_reducible refine Kd.dZ ?_))); first | done | fail))
     (case side6 => exact (Kd.aI C9.out).2.1)
     rintro e r6 ⟨rfl, hb⟩
     refine ⟨_, rfl, ?_⟩
     replace B7 := rl_ B7 hb
     replace C0 := rl_ C0 hb
     replace C1 := rl_ C1 hb
     replace C6 := rl_ C6 hb
     replace C7 := rl_ C7 hb
     replace C8 := rl_ C8 hb
     replace D0 := rl_ D0 hb
     replace D1 := rl_ D1 hb
     replace C9 := rl_ C9 hb
     replace F1 := rl_ F1 hb
     replace F2 := rl_ F2 hb
     replace F3 := rl_ F3 hb
     replace G6 := rl_ G6 hb
     replace G7 := rl_ G7 hb
     replace G8 := rl_ G8 hb
     replace BK646 := bb_ gb646 BK646 hb
     replace B3 := bb_ D8 B3 hb
     replace B0 := bb_ E2 B0 hb
     replace A3 := bb_ F6 A3 hb
     replace B4 := bb_ A1 B4 hb
     replace HB := cK z1_ hb
     (try clear hb)
     (try clear hb2)
     (try clear hk)
     (try clear hi)
     refine hK.out _ _ ⟨(aa BK646.out 0).trans rfl, (aa BK646.out 1).trans rfl, (aa BK646.out 2).trans rfl, (aa BK646.out 3).trans rfl, (aa BK646.out 4).trans rfl, (aa B3.out 0).trans rfl, (aa B3.out 1).trans rfl, (aa B3.out 2).trans rfl, (aa B3.out 3).trans rfl, (aa B3.out 4).trans rfl, (aa A3.out 0).trans rfl, (aa A3.out 1).trans rfl, (aa A3.out 2).trans rfl, (aa A3.out 3).trans rfl, (aa A3.out 4).trans rfl, (aa B4.out 0).trans rfl, (aa B4.out 1).trans rfl, (aa B4.out 2).trans rfl, (aa B4.out 3).trans rfl, (aa B4.out 4).trans rfl, (aa B0.out 0).trans rfl, (aa B0.out 1).trans rfl, (aa B0.out 2).trans rfl, (aa B0.out 3).trans rfl, (aa B0.out 4).trans rfl⟩ (fun hHeld => ?_)
     clear hK K
     refine nm_ ?_
     refine pv_ 25 (some 89) ?_
     refine pv_ 26 (some 90) ?_
     refine jl (iw HT_.out (by kernel_rfl)) ?_
     try go_wp2
     go_meet
     case rel => exact ⟨_, ((L0 != L1)), cz, H', ⟨kr⟩, ⟨by (with_reducible repeat (first | apply Kd.aC | apply Kd.aA | apply Kd.ay)); exact Kd.ae B7.out (fun _ hk => ⟨hk.1, hk.2.1⟩)⟩, ⟨by (with_reducible repeat (first | apply Kd.aC | apply Kd.aA | apply Kd.ay)); exact Kd.ae C0.out (fun _ hk => ⟨hk.1, hk.2.1⟩)⟩, ⟨by (with_reducible repeat (first | apply Kd.aC | apply Kd.aA | apply Kd.ay)); exact Kd.ae C1.out (fun _ hk => ⟨hk.1, hk.2.1⟩)⟩, ⟨zn⟩, ⟨z1_⟩⟩
    ·replace c58 := Bool.eq_false_iff.mpr c58
     subst c58
     have H1 : (none) = some r := by rw [if_neg (show ¬ (false = true) by decide)] at H; exact H
     clear H
     have H := H1
     clear H1
     exact absurd H (by simp)
   ·replace c55 := Bool.eq_false_iff.mpr c55
    subst c55
    have H1 : (none) = some r := by rw [if_neg (show ¬ (false = true) by decide)] at H; exact H
    clear H
    have H := H1
    clear H1
    exact absurd H (by simp)
  case rest =>
   clear V7
   obtain ⟨kq, N3, rfl, HA, h9, HO_647002, HO_647003, HO_647004, BK646, HB⟩ := hcut
   cases kq with
   | zero => exact absurd HA.out (by simp [aQ.j0])
   | succ O7 =>
    have H := HA.out
    clear HA
    simp only [aQ.j0] at H
    by_cases c67 : N3 = true
    ·subst c67
     have H1 : (none) = some r := by rw [if_pos rfl] at H; exact H
     clear H
     have H := H1
     clear H1
     exact absurd H (by simp)
    ·replace c67 := Bool.eq_false_iff.mpr c67
     subst c67
     have H1 : (if K3 = 0 then ((dY.f O7 F7 F8 C2 C3 C4 J5).bind fun U8 => ((fP.f O7 F7 F8 C2 C3 C4 J5).bind fun U9 => ((dm.f O7 F7 F8 C2 C3 C4 16).bind fun M2 => ((dY.f O7 M2.1 M2.2.1 M2.2.2.1 M2.2.2.2.1 M2.2.2.2.2.1 J5).bind fun V0 => (if U8.2 = 0 then (if U8.1 = true then (if U9.2 = 0 then (if M2.2.2.2.2.2 = 0 then (if V0.2 = 0 then (aQ.j1 O7 J9 K0 U9.1 (!V0.1) F7 F8 C2 C3 C4) else (none)) else (none)) else (none)) else (none)) else (none)))))) else (some true)) = some r := by rw [if_neg (show ¬ (false = true) by decide)] at H; exact H
     clear H
     have H := H1
     clear H1
     by_cases c68 : K3 = 0
     ·rw [if_pos c68] at H
      have V1 : (K3 == 0) = true := beq_iff_eq.mpr c68
      have V2 : (K3 != 0) = false := bne_eq_false_iff_eq.mpr c68
      clear c68
      replace H := bo_ H; obtain ⟨⟨W5, V8⟩, p0, H⟩ := H; (try dsimp only at H)
      replace H := bo_ H; obtain ⟨⟨K1, P3⟩, p1, H⟩ := H; (try dsimp only at H)
      replace H := bo_ H; obtain ⟨⟨P4, P5, N0, N1, N2, P6⟩, p2, H⟩ := H; (try dsimp only at H)
      replace H := bo_ H; obtain ⟨⟨V9, P7⟩, p3, H⟩ := H; (try dsimp only at H)
      have W0 := a_ H
      clear H
      obtain ⟨P8, P9, Q0, Q1, Q2, Q3, Q4, Q5, Q6, Q7⟩ := eU (w := wc) BK646.out
      go_upto_region 17 with (first | ((with_reducible refine av (f := 10) rfl ?_); refine bJ (some 96) rfl rfl Tryz.func10 (by kernel_rfl) rfl #[.agg #[.int .i64 F7, .int .i64 F8, .slice D2 C2.length D3, .slice D4 C3.length D5, .slice D6 C4.length D7], .string J5] rfl dN ?_; (with_reducible refine (dY.calls O7 F7 F8 _ _ C2 _ _ C3 _ _ C4 J5 W5 V8 _ ?side1 ?side2 ?side3 ?side4 ?side5 ?side6 p0.out).mono ?_); (case side1 => exact Bv); (case side2 => exact (Kd.aI HO_647002.out).2.1); (case side3 => exact Bo); (case side4 => exact (Kd.aI HO_647003.out).2.1); (case side5 => exact zH); (case side6 => exact (Kd.aI HO_647004.out).2.1); rintro e p4 ⟨rfl, hb⟩; refine ⟨_, rfl, ?_⟩; replace HO_647002 := rl_ HO_647002 hb; replace HO_647003 := rl_ HO_647003 hb; replace HO_647004 := rl_ HO_647004 hb; replace BK646 := bb_ gb646 BK646 hb; replace HB := cK lZ hb; (try clear hb); obtain ⟨Q8, Q9, R0, R1, R2, R3, R4, R5, R6, R7⟩ := eU (w := p4) BK646.out) | ((with_reducible refine av (f := 22) rfl ?_); refine bJ (some 102) rfl rfl Tryz.func22 (by kernel_rfl) rfl #[.agg #[.int .i64 F7, .int .i64 F8, .slice D2 C2.length D3, .slice D4 C3.length D5, .slice D6 C4.length D7], .string J5] rfl dN ?_; (with_reducible refine (fP.calls O7 F7 F8 _ _ C2 _ _ C3 _ _ C4 J5 K1 P3 _ ?side1 ?side2 ?side3 ?side4 ?side5 ?side6 p1.out).mono ?_); (case side1 => exact Bv); (case side2 => exact (Kd.aI HO_647002.out).2.1); (case side3 => exact Bo); (case side4 => exact (Kd.aI HO_647003.out).2.1); (case side5 => exact zH); (case side6 => exact (Kd.aI HO_647004.out).2.1); rintro e p5 ⟨K6, rfl, ho0, hb⟩; refine ⟨_, rfl, ?_⟩; have J8 := a_ (Kd.bE (Kd.bq (Kd.bq (Kd.bq ho0 (Kd.df (ra_ HO_647002.out))) (Kd.df (ra_ HO_647003.out))) (Kd.df (ra_ HO_647004.out))) (ai lZ)); replace HO_647002 := a_ (Kd.bC (ra_ HO_647002.out) (Kd.aH ho0) hb); replace HO_647003 := a_ (Kd.bC (ra_ HO_647003.out) (Kd.aH ho0) hb); replace HO_647004 := a_ (Kd.bC (ra_ HO_647004.out) (Kd.aH ho0) hb); replace BK646 := bb_ gb646 BK646 hb; replace HB := cK lZ hb; (try clear hb); (try clear ho0); obtain ⟨R8, R9, S0, S1, S2, S3, S4, S5, S6, S7⟩ := eU (w := p5) BK646.out) | ((with_reducible refine av (f := 17) rfl ?_); refine bJ (some 107) rfl rfl Tryz.func17 (by kernel_rfl) rfl #[.agg #[.int .i64 F7, .int .i64 F8, .slice D2 C2.length D3, .slice D4 C3.length D5, .slice D6 C4.length D7], .int .i64 16] rfl dN ?_; (with_reducible refine (dm.calls O7 F7 F8 _ _ C2 _ _ C3 _ _ C4 16 P4 P5 N0 N1 N2 P6 _ ?side1 ?side2 ?side3 ?side4 ?side5 ?side6 p2.out).mono ?_); (case side1 => exact Bv); (case side2 => exact (Kd.aI HO_647002.out).2.1); (case side3 => exact Bo); (case side4 => exact (Kd.aI HO_647003.out).2.1); (case side5 => exact zH); (case side6 => exact (Kd.aI HO_647004.out).2.1); rintro e r7 ⟨p6, p7, p8, rfl, ho0, ho1, ho2, hb⟩; refine ⟨_, rfl, ?_⟩; have K7 := a_ (Kd.bE (Kd.bq (Kd.bq (Kd.bq (Kd.bq ho0 (Kd.df (ra_ HO_647002.out))) (Kd.df (ra_ HO_647003.out))) (Kd.df (ra_ HO_647004.out))) (Kd.df (ra_ J8.out))) (ai lZ)); have K8 := a_ (Kd.bE (Kd.bq (Kd.bq (Kd.bq (Kd.bq ho1 (Kd.df (ra_ HO_647002.out))) (Kd.df (ra_ HO_647003.out))) (Kd.df (ra_ HO_647004.out))) (Kd.df (ra_ J8.out))) (ai lZ)); have K9 := a_ (Kd.bE (Kd.bq (Kd.bq (Kd.bq (Kd.bq ho2 (Kd.df (ra_ HO_647002.out))) (Kd.df (ra_ HO_647003.out))) (Kd.df (ra_ HO_647004.out))) (Kd.df (ra_ J8.out))) (ai lZ)); replace HO_647002 := a_ (Kd.ae (Kd.bV (Kd.bV (Kd.bV (Kd.iy (ra_ HO_647002.out) hb) (Kd.aH ho0)) (Kd.aH ho1)) (Kd.aH ho2)) (fun _ h_ => h_.1)); replace HO_647003 := a_ (Kd.ae (Kd.bV (Kd.bV (Kd.bV (Kd.iy (ra_ HO_647003.out) hb) (Kd.aH ho0)) (Kd.aH ho1)) (Kd.aH ho2)) (fun _ h_ => h_.1)); replace HO_647004 := a_ (Kd.ae (Kd.bV (Kd.bV (Kd.bV (Kd.iy (ra_ HO_647004.out) hb) (Kd.aH ho0)) (Kd.aH ho1)) (Kd.aH ho2)) (fun _ h_ => h_.1)); replace J8 := a_ (Kd.ae (Kd.bV (Kd.bV (Kd.bV (Kd.iy (ra_ J8.out) hb) (Kd.aH ho0)) (Kd.aH ho1)) (Kd.aH ho2)) (fun _ h_ => h_.1)); replace BK646 := bb_ gb646 BK646 hb; replace HB := cK lZ hb; (try clear hb); (try clear ho0); (try clear ho1); (try clear ho2)) | ((with_reducible refine bn (N := 20) rfl ?_); refine bG ?hg (N := 20) ?hd (cs := #[.int .i64 0, .int .i64 0, .slice none 0 0, .slice none 0 0, .slice none 0 0]) (t := 28) ?hr ?_; (case hd => rfl); (case hg => rfl); (case hr => first | (go_simp; done) | (go_simp; rfl)); intro M6 hg p9 hbox hb; replace HO_647002 := rl_ HO_647002 hb; replace HO_647003 := rl_ HO_647003 hb; replace HO_647004 := rl_ HO_647004 hb; replace J8 := rl_ J8 hb; replace K7 := rl_ K7 hb; replace K8 := rl_ K8 hb; replace K9 := rl_ K9 hb; have J3 := a_ (hbox); have k0 := a_ ((zO : w.heap.size ≤ M6)); have V3 := a_ ((zO : w.heap.size ≤ M6)); replace HB := cK lZ hb; have M3 := a_ ((vG : gb646 ≠ M6)); have O4 := a_ ((vB : M6 ≠ gb646)); replace BK646 := bb_ gb646 BK646 hb; clear hb hbox hg; have hnb81 := O4.out; have hnc81 := M3.out; obtain ⟨S8, S9, T0, T3, T4, T7, U0, U1, U2, U3⟩ := eU (w := p9) J3.out; obtain ⟨U4, O8, i0⟩ := Kd.bg K7.out; subst i0; obtain ⟨U5, O9, i1⟩ := Kd.bg K8.out; subst i1; obtain ⟨U6, P0, i2⟩ := Kd.bg K9.out; subst i2) | ((with_reducible refine av (f := 10) rfl ?_); refine bJ (some 113) rfl rfl Tryz.func10 (by kernel_rfl) rfl #[.agg #[.int .i64 P4, .int .i64 P5, .slice U4 N0.length O8, .slice U5 N1.length O9, .slice U6 N2.length P0], .string J5] rfl dN ?_; (with_reducible refine (dY.calls O7 P4 P5 _ _ N0 _ _ N1 _ _ N2 J5 V9 P7 _ ?side1 ?side2 ?side3 ?side4 ?side5 ?side6 p3.out).mono ?_); (case side1 => refine (Kd.aI (e := 2) (base := w.heap.size) (ok := fun k_ => (((((nb_ k_ U5 N1.length O9 ∧ nb_ k_ U6 N2.length P0) ∧ nb_ k_ D2 C2.length D3) ∧ nb_ k_ D4 C3.length D5) ∧ nb_ k_ D6 C4.length D7) ∧ some k_ ≠ (K6 : Value).ownBlock)) (n := N0.length) (c := O8) ?_).2.2; exact (rc_ (h := by exact Kd.ae (bU K7.out J3.out) (fun _ h_ => h_.1)))); (case side2 => exact (Kd.aI K7.out).2.1); (case side3 => refine (Kd.aI (e := 2) (base := w.heap.size) (ok := fun k_ => (((((nb_ k_ U4 N0.length O8 ∧ nb_ k_ U6 N2.length P0) ∧ nb_ k_ D2 C2.length D3) ∧ nb_ k_ D4 C3.length D5) ∧ nb_ k_ D6 C4.length D7) ∧ some k_ ≠ (K6 : Value).ownBlock)) (n := N1.length) (c := O9) ?_).2.2; exact (rc_ (h := by exact Kd.ae (bU K8.out J3.out) (fun _ h_ => h_.1)))); (case side4 => exact (Kd.aI K8.out).2.1); (case side5 => refine (Kd.aI (e := 2) (base := w.heap.size) (ok := fun k_ => (((((nb_ k_ U4 N0.length O8 ∧ nb_ k_ U5 N1.length O9) ∧ nb_ k_ D2 C2.length D3) ∧ nb_ k_ D4 C3.length D5) ∧ nb_ k_ D6 C4.length D7) ∧ some k_ ≠ (K6 : Value).ownBlock)) (n := N2.length) (c := P0) ?_).2.2; exact (rc_ (h := by exact Kd.ae (bU K9.out J3.out) (fun _ h_ => h_.1)))); (case side6 => exact (Kd.aI K9.out).2.1); rintro e r8 ⟨rfl, hb⟩; refine ⟨_, rfl, ?_⟩; replace HO_647002 := a_ (Kd.dF (rc_ (h := by exact Kd.ae (bU HO_647002.out J3.out) (fun _ h_ => h_.1))) hb); replace HO_647003 := a_ (Kd.dF (rc_ (h := by exact Kd.ae (bU HO_647003.out J3.out) (fun _ h_ => h_.1))) hb); replace HO_647004 := a_ (Kd.dF (rc_ (h := by exact Kd.ae (bU HO_647004.out J3.out) (fun _ h_ => h_.1))) hb); replace J8 := a_ (Kd.dF (rc_ (h := by exact Kd.ae (bU J8.out J3.out) (fun _ h_ => h_.1))) hb); replace K7 := a_ (Kd.dF (rc_ (h := by exact Kd.ae (bU K7.out J3.out) (fun _ h_ => h_.1))) hb); replace K8 := a_ (Kd.dF (rc_ (h := by exact Kd.ae (bU K8.out J3.out) (fun _ h_ => h_.1))) hb); replace K9 := a_ (Kd.dF (rc_ (h := by exact Kd.ae (bU K9.out J3.out) (fun _ h_ => h_.1))) hb); replace BK646 := a_ (dL (g := gb646) (o := .cells #[.int .i64 F7, .int .i64 F8, .slice D2 C2.length D3, .slice D4 C3.length D5, .slice D6 C4.length D7] 28 (0, 0)) (gB (h := by exact lw M3.out BK646.out)) hb); replace J3 := a_ (dL (g := M6) (o := .cells #[.int .i64 P4, .int .i64 P5, .slice U4 N0.length O8, .slice U5 N1.length O9, .slice U6 N2.length P0] 28 (0, 0)) (gB (h := by exact gK J3.out)) hb); replace HB := a_ (jg (by repeat (first | (with_reducible first | exact HB.out | apply aN | apply aD | apply aM | refine aG ?_ GE646.out | refine aG ?_ V3.out) | exact HB.out)) hb); (try clear hb)))
      (try simp only [Act.put, List.setIfInBounds_toArray, List.set_cons_zero, List.set_cons_succ])
      go_cut [137] (fun i3 wc => ∃ (kq : Nat) (K4 : Bool), i3 = .bool K4 ∧ af (aQ.j1 kq J9 K0 K1 K4 F7 F8 C2 C3 C4 = some r) ∧ af (kq ≤ O7) ∧ af (Kd.R (Kd.int .i64) 2 wc w.heap.size (fun k_ => nb_ k_ D2 C2.length D3 ∧ nb_ k_ D4 C3.length D5 ∧ nb_ k_ D6 C4.length D7) K6 K1) ∧ af (Kd.R (Kd.int .i64) 2 wc w.heap.size (fun k_ => some k_ ≠ (K6 : Value).ownBlock ∧ nb_ k_ D4 C3.length D5 ∧ nb_ k_ D6 C4.length D7) (.slice D2 C2.length D3) C2) ∧ af (Kd.R (Kd.int .i64) 2 wc w.heap.size (fun k_ => some k_ ≠ (K6 : Value).ownBlock ∧ nb_ k_ D2 C2.length D3 ∧ nb_ k_ D6 C4.length D7) (.slice D4 C3.length D5) C3) ∧ af (Kd.R (Kd.int .i64) 2 wc w.heap.size (fun k_ => some k_ ≠ (K6 : Value).ownBlock ∧ nb_ k_ D2 C2.length D3 ∧ nb_ k_ D4 C3.length D5) (.slice D6 C4.length D7) C4) ∧ af (wc.heap[gb646]? = some (.cells #[.int .i64 F7, .int .i64 F8, (.slice D2 C2.length D3), (.slice D4 C3.length D5), (.slice D6 C4.length D7)] 28 (0, 0))) ∧ af (Below w.heap.size w wc))
      case first =>
       have H := W0.out
       clear W0
       replace H := ig_ H; obtain ⟨c87, H⟩ := H
       have V4 : (V8 == 0) = true := beq_iff_eq.mpr c87
       have k1 : (V8 != 0) = false := bne_eq_false_iff_eq.mpr c87
       clear c87
       (first | rw [V4] | (simp only [eX, iI]; rw [V4]) | skip)
       by_cases c88 : W5 = true
       ·subst c88
        have H1 : (if P3 = 0 then (if P6 = 0 then (if P7 = 0 then (aQ.j1 O7 J9 K0 K1 (!V9) F7 F8 C2 C3 C4) else (none)) else (none)) else (none)) = some r := by rw [if_pos rfl] at H; exact H
        clear H
        have H := H1
        clear H1
        replace H := ig_ H; obtain ⟨c89, H⟩ := H
        have k2 : (P3 == 0) = true := beq_iff_eq.mpr c89
        have k4 : (P3 != 0) = false := bne_eq_false_iff_eq.mpr c89
        clear c89
        replace H := ig_ H; obtain ⟨c90, H⟩ := H
        have k5 : (P6 == 0) = true := beq_iff_eq.mpr c90
        have k6 : (P6 != 0) = false := bne_eq_false_iff_eq.mpr c90
        clear c90
        replace H := ig_ H; obtain ⟨c91, H⟩ := H
        have k7 : (P7 == 0) = true := beq_iff_eq.mpr c91
        have k8 : (P7 != 0) = false := bne_eq_false_iff_eq.mpr c91
        clear c91
        have H' := a_ H
        clear H
        go_wp2
        go_meet
        case rel => exact ⟨_, (!V9), cz, H', ⟨by have := h9.out; first | omega | exact Nat.le_refl _⟩, ⟨by (with_reducible repeat (first | apply Kd.aC | apply Kd.aA | apply Kd.ay)); exact Kd.ae J8.out (fun _ hk => ⟨hk.1.1.1.1.1.2, ⟨hk.1.1.1.1.2, hk.1.1.1.2⟩⟩)⟩, ⟨by (with_reducible repeat (first | apply Kd.aC | apply Kd.aA | apply Kd.ay)); exact Kd.ae HO_647002.out (fun _ hk => ⟨hk.1.1.1.2, ⟨hk.1.1.1.1.1, hk.1.1.1.1.2⟩⟩)⟩, ⟨by (with_reducible repeat (first | apply Kd.aC | apply Kd.aA | apply Kd.ay)); exact Kd.ae HO_647003.out (fun _ hk => ⟨hk.1.1.1.2, ⟨hk.1.1.1.1.1, hk.1.1.1.1.2⟩⟩)⟩, ⟨by (with_reducible repeat (first | apply Kd.aC | apply Kd.aA | apply Kd.ay)); exact Kd.ae HO_647004.out (fun _ hk => ⟨hk.1.1.1.2, ⟨hk.1.1.1.1.1, hk.1.1.1.1.2⟩⟩)⟩, ⟨zn⟩, ⟨by repeat (first | (with_reducible first | exact HB.out | apply aN | apply aD | apply aM | refine aG ?_ GE646.out | refine aG ?_ V3.out) | exact HB.out)⟩⟩
       ·replace c88 := Bool.eq_false_iff.mpr c88
        subst c88
        have H1 : (none) = some r := by rw [if_neg (show ¬ (false = true) by decide)] at H; exact H
        clear H
        have H := H1
        clear H1
        exact absurd H (by simp)
      case rest =>
       clear W0; try clear c67; try clear V1; try clear V2; try clear P8 P9 Q0 Q1 Q2; try clear Q8 Q9 R0 R1 R2; try clear R8 R9 S0 S1 S2; try clear S8 S9 T0 T3 T4; try clear Q3 Q4 Q5 Q6 Q7; try clear R3 R4 R5 R6 R7; try clear S3 S4 S5 S6 S7; try clear T7 U0 U1 U2 U3
       obtain ⟨kq, K4, rfl, HA, W6, K2, HO_647002, HO_647003, HO_647004, BK646, HB⟩ := hcut
       cases kq with
       | zero => exact absurd HA.out (by simp [aQ.j1])
       | succ W1 =>
        have H := HA.out
        clear HA
        simp only [aQ.j1] at H
        by_cases c92 : K4 = true
        ·subst c92
         have H1 : (none) = some r := by rw [if_pos rfl] at H; exact H
         clear H
         have H := H1
         clear H1
         exact absurd H (by simp)
        ·replace c92 := Bool.eq_false_iff.mpr c92
         subst c92
         have H1 : (aQ.l0 W1 J9 K0 K1 0 F7 F8 C2 C3 C4) = some r := by rw [if_neg (show ¬ (false = true) by decide)] at H; exact H
         clear H
         have H := H1
         clear H1
         have H' := a_ H
         clear H
         go_wp2
         go_loopg [24] W1 (fun kq v24 w' => ∃ (J4 : Int), v24 = .int .i64 J4 ∧ af (aQ.l0 kq J9 K0 K1 J4 F7 F8 C2 C3 C4 = some r) ∧ af (kq ≤ W1) ∧ af (Kd.R (Kd.int .i64) 2 w' w.heap.size (fun k_ => nb_ k_ D2 C2.length D3 ∧ nb_ k_ D4 C3.length D5 ∧ nb_ k_ D6 C4.length D7) K6 K1) ∧ af (Kd.R (Kd.int .i64) 2 w' w.heap.size (fun k_ => some k_ ≠ (K6 : Value).ownBlock ∧ nb_ k_ D4 C3.length D5 ∧ nb_ k_ D6 C4.length D7) (.slice D2 C2.length D3) C2) ∧ af (Kd.R (Kd.int .i64) 2 w' w.heap.size (fun k_ => some k_ ≠ (K6 : Value).ownBlock ∧ nb_ k_ D2 C2.length D3 ∧ nb_ k_ D6 C4.length D7) (.slice D4 C3.length D5) C3) ∧ af (Kd.R (Kd.int .i64) 2 w' w.heap.size (fun k_ => some k_ ≠ (K6 : Value).ownBlock ∧ nb_ k_ D2 C2.length D3 ∧ nb_ k_ D4 C3.length D5) (.slice D6 C4.length D7) C4) ∧ af (w'.heap[gb646]? = some (.cells #[.int .i64 F7, .int .i64 F8, (.slice D2 C2.length D3), (.slice D4 C3.length D5), (.slice D6 C4.length D7)] 28 (0, 0))) ∧ af (Below w.heap.size w w'))
         case atStart => exact ⟨(0), cz, H', ⟨Nat.le_refl _⟩, ⟨by (with_reducible repeat (first | apply Kd.aC | apply Kd.aA | apply Kd.ay)); exact K2.out⟩, ⟨by (with_reducible repeat (first | apply Kd.aC | apply Kd.aA | apply Kd.ay)); exact HO_647002.out⟩, ⟨by (with_reducible repeat (first | apply Kd.aC | apply Kd.aA | apply Kd.ay)); exact HO_647003.out⟩, ⟨by (with_reducible repeat (first | apply Kd.aC | apply Kd.aA | apply Kd.ay)); exact HO_647004.out⟩, ⟨zn⟩, ⟨lZ⟩⟩
         case round =>
          clear H'
          try clear c92
          obtain ⟨J4, rfl, HA, HK3, K2, HO_647002, HO_647003, HO_647004, BK646, HB⟩ := hrel
          cases gk with
          | zero => exact absurd HA.out (by simp [aQ.l0])
          | succ k3 =>
           have H := HA.out
           clear HA
           simp only [aQ.l0] at H
           by_cases c93 : J4 < (K1.length : Int)
           ·rw [if_pos c93] at H
            have W7 := decide_eq_true c93
            clear c93
            replace H := ig_ H; obtain ⟨c94, H⟩ := H
            have k9 := decide_eq_true c94
            clear c94
            replace H := ig_ H; obtain ⟨c95, H⟩ := H
            have l3 : ((rd K1 J4) == (wrap64 (J4 + 1))) = true := beq_iff_eq.mpr c95
            have l4 : ((rd K1 J4) != (wrap64 (J4 + 1))) = false := bne_eq_false_iff_eq.mpr c95
            clear c95
            have H' := a_ H
            clear H
            obtain ⟨q0, q1, i4⟩ := Kd.bg K2.out
            subst i4
            have W3 : 0 ≤ (J4 : Int) := of_decide_eq_true aX
            have W4 : J4 < (K1.length : Int) := of_decide_eq_true aX
            obtain ⟨l5, i5, g1⟩ := Kd.eF (Kd.aI K2.out).2.2 J4 W3 W4
            cases i5
            replace W3 := eq_true W3
            replace W4 := eq_true W4
            go_wp2
            go_roundg k3
            case measure => have := h9.out; have := W6.out; have := HK3.out; omega
            case rel => exact ⟨(wrap64 (J4 + 1)), cz, H', ⟨by have := h9.out; have := W6.out; have := HK3.out; omega⟩, ⟨by (with_reducible repeat (first | apply Kd.aC | apply Kd.aA | apply Kd.ay)); exact K2.out⟩, ⟨by (with_reducible repeat (first | apply Kd.aC | apply Kd.aA | apply Kd.ay)); exact HO_647002.out⟩, ⟨by (with_reducible repeat (first | apply Kd.aC | apply Kd.aA | apply Kd.ay)); exact HO_647003.out⟩, ⟨by (with_reducible repeat (first | apply Kd.aC | apply Kd.aA | apply Kd.ay)); exact HO_647004.out⟩, ⟨zn⟩, ⟨lZ⟩⟩
           rw [if_neg c93] at H
           have W7 := decide_eq_false c93
           clear c93
           replace H := ig_ H; obtain ⟨c97, H⟩ := H
           have l6 : ((K1.length : Int) == (wrap64 ((wrap64 (2 * J9)) * K0))) = true := beq_iff_eq.mpr c97
           have l7 : ((K1.length : Int) != (wrap64 ((wrap64 (2 * J9)) * K0))) = false := bne_eq_false_iff_eq.mpr c97
           clear c97
           replace H := bo_ H; obtain ⟨i6, q2, H⟩ := H; (try dsimp only at H)
           obtain rfl := Option.some.inj H
           obtain ⟨q3, q4, i7⟩ := Kd.bg K2.out
           subst i7
           obtain ⟨W8, W9, X0, X1, X2, X3, X4, X5, X6, X7⟩ := eU (w := wr) BK646.out
           go_wp2_with (first | (go_at_call 20; (with_reducible refine (aW.calls k3 F7 F8 (fun k_ => some k_ = (.slice D2 C2.length D3 : Value).ownBlock) _ _ C2 (fun k_ => some k_ = (.slice D4 C3.length D5 : Value).ownBlock) _ _ C3 _ _ C4 i6 _ ?side1 ?side2 ?side3 ?side4 q2.out).mono ?_); (case side1 => exact Kd.R_V (Kd.iX rfl (Kd.dR (HO_647002.out) BK646.out (by decide)))); (case side2 => exact Kd.R_V (Kd.iX rfl (Kd.dR (HO_647003.out) BK646.out (by decide)))); (case side3 => exact zH); (case side4 => exact (Kd.aI HO_647004.out).2.1); rintro e q5 ⟨rfl, hb⟩; replace K2 := rl_ K2 hb; replace HO_647002 := rl_ HO_647002 hb; replace HO_647003 := rl_ HO_647003 hb; replace HO_647004 := rl_ HO_647004 hb; replace BK646 := bb_ gb646 BK646 hb; replace HB := cK lZ hb; (try clear hb)))
           go_ret
           exact ⟨gy, lZ⟩
     rw [if_neg c68] at H
     have V1 : (K3 == 0) = false := beq_eq_false_iff_ne.mpr c68
     have V2 : (K3 != 0) = true := bne_iff_ne.mpr c68
     obtain rfl := Option.some.inj H
     go_wp2
     go_ret
     exact ⟨gy, lZ⟩
def aQ.Pure : Prop := ∀ (l0 : List Int), l0.length ≤ maxLen → l0.length * 1 ≤ 140737488351232 → (∀ x ∈ l0, (Lit.int .u8 x).wf = true) → ∃ k, aQ.f k l0 = some true
theorem aQ.walk (P : aQ.Pure) (a0 : Option Addr) (len0 cap0 : Nat) (z0 : List Int) (w : World) (w0 : (a0 = none ∧ len0 = 0 ∧ cap0 = 0 ∧ z0 = []) ∨ ∃ x, a0 = some x ∧ len0 ≤ cap0 ∧ cap0 ≤ maxLen ∧ z0.length = cap0 ∧ (∀ i, i < z0.length → w.cell? (x.add i) = some (.int .u8 (z0.getD i 0))) ∧ ∀ n ∈ z0, (Lit.int .u8 n).wf = true) (y0 : len0 * 1 ≤ 140737488351232) :
  Calls Tryz.prog 4 #[.slice a0 len0 cap0] w fun e w' => e = .returned (.bool true) ∧ Below w.heap.size w w' := by
 obtain ⟨l0, rfl, hr0, hm0, hw0, hc0⟩ := gp.Ap w0
 obtain ⟨k, h⟩ := P l0 hm0 y0 hw0
 refine (aQ.calls k _ _ l0 true w (Kd.vN (d := (0 : Int)) (h1 := fun _ => rfl) hr0) hc0 h).mono ?_
 rintro e w' ⟨rfl, hd⟩
 exact ⟨rfl, hd⟩
end Go.Proofs.YtkpidjmhdagkfaaGreatDoor.QFnImposed
