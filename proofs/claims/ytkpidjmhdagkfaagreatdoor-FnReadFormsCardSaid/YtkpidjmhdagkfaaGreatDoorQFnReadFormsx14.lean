-- Written by own_print.py of this session's repo over the kit's print (its output, turned at some places).
import Derived.Test.YtkpidjmhdagkfaaGreatDoorQFnReadFormsx0
import Derived.Test.YtkpidjmhdagkfaaGreatDoorQFnReadFormsx4
import Derived.Test.YtkpidjmhdagkfaaGreatDoorQFnReadFormsx7
import Derived.Test.YtkpidjmhdagkfaaGreatDoorQFnReadFormsx11
import Derived.Test.YtkpidjmhdagkfaaGreatDoorQFnReadFormsx12
import Derived.Test.YtkpidjmhdagkfaaGreatDoorQFnReadFormsx13
namespace Go.Proofs.YtkpidjmhdagkfaaGreatDoor.QFnReadForms
open Go.RowKit Go.Proofs.YtkpidjmhdagkfaaGreatDoorW.PrintWords Go.Proofs.YtkpidjmhdagkfaaGreatDoorW.PrintLast Go.Proofs.YtkpidjmhdagkfaaGreatDoorW.PrintMore
attribute [local go_sem] ik iq iR iT gD gF il iw
set_option maxHeartbeats 8000000
set_option maxRecDepth 100000
set_option linter.unusedVariables false
set_option linter.unusedSimpArgs false
mutual
def ag.j0 : Nat → List Int → Int → List ByteArray → Bool → Int → Int → List Int → List Int → List Int → Int → Int → List Int → List Int → List Int → Option (Bool)
 | 0, _, _, _, _, _, _, _, _, _, _, _, _, _, _ => none
 | k + 1, x5, x6, x14, x95, x706000, x706001, x706002, x706003, x706004, x730000, x730001, x730002, x730003, x730004 => if x95 = true then (none) else (ag.l0 k x5 x6 x14 0 x706000 x706001 x706002 x706003 x706004 x730000 x730001 x730002 x730003 x730004)
def ag.l0 : Nat → List Int → Int → List ByteArray → Int → Int → Int → List Int → List Int → List Int → Int → Int → List Int → List Int → List Int → Option (Bool)
 | 0, _, _, _, _, _, _, _, _, _, _, _, _, _, _ => none
 | k + 1, x5, x6, x14, x18, x706000, x706001, x706002, x706003, x706004, x730000, x730001, x730002, x730003, x730004 => if x18 < (x14.length : Int) then (if 0 ≤ x18 then ((dK.f k x730000 x730001 x730002 x730003 x730004 (iJ ByteArray.empty x14 x18)).bind fun bt741 => (if bt741.2 = 0 then (if bt741.1 = true then (ag.l0 k x5 x6 x14 (wrap64 (x18 + 1)) x706000 x706001 x706002 x706003 x706004 x730000 x730001 x730002 x730003 x730004) else (none)) else (none))) else (none)) else (if x6 = 0 then ((some (([] : List Int) : List Int)).bind fun y743 => (if y743.length + x706002.length < 17592186044416 then ((some (y743 ++ x706002 : List Int)).bind fun y746 => (if y746.length + x706003.length < 17592186044416 then (ag.l1 k x5 (y746 ++ x706003) 0) else (none))) else (none))) else (some true))
def ag.l1 : Nat → List Int → List Int → Int → Option (Bool)
 | 0, _, _, _ => none
 | k + 1, x5, x21, x22 => if x22 < (x5.length : Int) then (if 0 ≤ x22 then ((cu.f k x21 (mx (rd x5 x22) (wrap64 (-(rd x5 x22))))).bind fun t754 => (if t754 = true then (if x22 ≤ (x5.length : Int) then ((cu.f k (x5.take (x22 : Int).toNat) (rd x5 x22)).bind fun t760 => (if t760 = true then (none) else ((cu.f k (x5.take (x22 : Int).toNat) (wrap64 (-(rd x5 x22)))).bind fun t766 => (if t766 = true then (none) else (ag.l1 k x5 x21 (wrap64 (x22 + 1))))))) else (none)) else (none))) else (none)) else (some ((x5.length : Int) == (x21.length : Int)))
end
def ag.f (k : Nat) (l0 : List Int) : Option (Bool) := (kH.f l0).bind fun t692 => (if t692 = true then (some true) else ((aX.f k l0).bind fun bt693 => ((fD.f k bt693.1 bt693.2.1 bt693.2.2.1 bt693.2.2.2.1 bt693.2.2.2.2.1 bt693.2.2.2.2.2).bind fun bt706 => ((fE.f k bt693.1 bt693.2.1 bt693.2.2.1 bt693.2.2.2.1 bt693.2.2.2.2.1 bt693.2.2.2.2.2).bind fun bt710 => ((dK.f k bt693.1 bt693.2.1 bt693.2.2.1 bt693.2.2.2.1 bt693.2.2.2.2.1 bt693.2.2.2.2.2).bind fun bt714 => ((eF.f k bt693.1 bt693.2.1 bt693.2.2.1 bt693.2.2.2.1 bt693.2.2.2.2.1 bt693.2.2.2.2.2).bind fun bt716 => ((dQ.f k l0).bind fun bt718 => ((ed.f k bt718.1 bt718.2.1 bt718.2.2.1 bt718.2.2.2.1 bt718.2.2.2.2).bind fun bt730 => ((bz.f k bt718.1 bt718.2.1 bt718.2.2.1 bt718.2.2.2.1 bt718.2.2.2.2).bind fun bt734 => (if bt706.2 = bt710.2 then ((dh.f k bt706.1 bt710.1).bind fun t738 => (if t738 = true then (if bt714.2 = bt716.2 then (if (bt714.1 != bt716.1) = true then (none) else (if bt730.2 = bt734.2 then ((bP.f k bt730.1 bt734.1).bind fun t739 => (ag.j0 k bt706.1 bt706.2 bt730.1 (!t739) bt693.1 bt693.2.1 bt693.2.2.1 bt693.2.2.2.1 bt693.2.2.2.2.1 bt718.1 bt718.2.1 bt718.2.2.1 bt718.2.2.2.1 bt718.2.2.2.2)) else (none))) else (none)) else (none))) else (none)))))))))))
theorem ag.di : ∀ k, (∀ y0 y1 y2 y3 y4 y5 y6 y7 y8 y9 y10 y11 y12 y13, LeO (ag.j0 k y0 y1 y2 y3 y4 y5 y6 y7 y8 y9 y10 y11 y12 y13) (ag.j0 (k + 1) y0 y1 y2 y3 y4 y5 y6 y7 y8 y9 y10 y11 y12 y13)) ∧ (∀ y0 y1 y2 y3 y4 y5 y6 y7 y8 y9 y10 y11 y12 y13, LeO (ag.l0 k y0 y1 y2 y3 y4 y5 y6 y7 y8 y9 y10 y11 y12 y13) (ag.l0 (k + 1) y0 y1 y2 y3 y4 y5 y6 y7 y8 y9 y10 y11 y12 y13)) ∧ (∀ y0 y1 y2, LeO (ag.l1 k y0 y1 y2) (ag.l1 (k + 1) y0 y1 y2))
 | 0 => ⟨fun _ _ _ _ _ _ _ _ _ _ _ _ _ _ r h => by simp [ag.j0] at h, fun _ _ _ _ _ _ _ _ _ _ _ _ _ _ r h => by simp [ag.l0] at h, fun _ _ _ r h => by simp [ag.l1] at h⟩
 | k + 1 => by
  obtain ⟨ih0, ih1, ih2⟩ := ag.di k
  refine ⟨?_, ?_, ?_⟩ <;> intros <;> (first | unfold ag.j0 | unfold ag.l0 | unfold ag.l1) <;> (repeat' first | (with_reducible first | exact ih0 .. | exact ih1 .. | exact ih2 .. | exact dK.mono .. | exact fD.mono .. | exact ed.mono .. | exact cu.mono .. | exact dh.mono .. | exact bP.mono .. | exact aX.mono .. | exact dQ.mono .. | exact eF.mono .. | exact fE.mono .. | exact bz.mono .. | exact LeO.refl .. | exact LeO.none .. | refine LeO.ite ?_ ?_ | refine LeO.bind ?_ (fun _ => ?_)))
theorem ag.mono : ∀ a0 k, LeO (ag.f k a0) (ag.f (k + 1) a0) := by
 intro a0 k
 obtain ⟨ih0, ih1, ih2⟩ := ag.di k
 unfold ag.f
 repeat' first | (with_reducible first | exact ih0 .. | exact ih1 .. | exact ih2 .. | exact dK.mono .. | exact fD.mono .. | exact ed.mono .. | exact cu.mono .. | exact dh.mono .. | exact bP.mono .. | exact aX.mono .. | exact dQ.mono .. | exact eF.mono .. | exact fE.mono .. | exact bz.mono .. | exact LeO.refl .. | exact LeO.none .. | refine LeO.ite ?_ ?_ | refine LeO.bind ?_ (fun _ => ?_))
def ag.T16 : Bool × List (List Nat × List Nat) := (true, [([], []), ([], []), ([], []), ([1, 2], [1, 2]), ([3], [3]), ([0, 4], [0, 4]), ([5], [5]), ([6], [6]), ([6], [6]), ([7, 5, 0, 1, 2, 3, 4, 5, 6, 7], [7]), ([8, 9, 0, 1, 2, 3, 4, 5, 6, 7, 8, 9], [8])])
def ag.B16 : List Nat := [0, 0, 0, 6, 14, 31, 63, 127, 127, 255, 1023]
theorem ag.CS : ic .any (opsOf Tryz.f5 16) = ag.T16 := by kernel_rfl
theorem ag.Bb : fZ ag.T16.2 ag.B16 = true := by kernel_rfl
def ag.T21 : Bool × List (List Nat × List Nat) := (true, [([], []), ([], []), ([1], [1]), ([0, 2], [0, 2]), ([], []), ([4], [4]), ([3, 5, 3], [3, 5]), ([6, 6, 0, 1, 2, 3, 4, 5, 6], [6])])
def ag.B21 : List Nat := [0, 0, 2, 7, 0, 16, 63, 127]
theorem ag.CV : ic .any (opsOf Tryz.f5 21) = ag.T21 := by kernel_rfl
theorem ag.Bd : fZ ag.T21.2 ag.B21 = true := by kernel_rfl
def ag.T25 : Bool × List (List Nat × List Nat) := (true, [([], []), ([], []), ([], []), ([1, 2], [1, 2]), ([3], [3]), ([], []), ([], []), ([5, 6], [5, 6]), ([7], [7]), ([8], [8]), ([4, 9], [4, 9]), ([0, 10], [0, 10]), ([11], [11]), ([12, 11], [12]), ([13], [13]), ([13], [13]), ([14, 15, 13], [13, 14, 15]), ([13], [13]), ([13], [13]), ([17, 18, 13], [13, 17, 18]), ([19, 13], [13, 19]), ([16, 20, 13, 13], [13, 16, 20]), ([13, 21], [13, 21]), ([22, 21], [22]), ([23], [23]), ([23], [23]), ([24, 25, 23], [23, 24, 25]), ([23], [23]), ([23], [23]), ([27, 28, 23], [23, 27, 28]), ([29, 23], [23, 29]), ([30, 23], [23, 30]), ([26, 31, 23, 23], [23, 26, 31]), ([23, 32], [23, 32])])
def ag.B25 : List Nat := [0, 0, 0, 6, 14, 0, 0, 96, 224, 480, 1022, 2047, 4095, 8191, 16383, 16383, 65535, 16383, 16383, 409599, 933887, 2097151, 4194303, 8388607, 16777215, 16777215, 67108863, 16777215, 16777215, 419430399, 956301311, 2030043135, 4294967295, 8589934591]
theorem ag.CW : ic .any (opsOf Tryz.f5 25) = ag.T25 := by kernel_rfl
theorem ag.Be : fZ ag.T25.2 ag.B25 = true := by kernel_rfl
theorem ag.calls (k : Nat) (A0 : Option Addr) (c0 : Nat) (l0 : List Int) (r : Bool) (w : World) (hr0 : Kd.C (Kd.int .u8) w A0 l0.length l0) (hc0 : l0.length ≤ c0) (h : ag.f k l0 = some r) :
  Calls Tryz.prog 5 #[.slice A0 l0.length c0] w fun e w' => e = .returned (.bool r) ∧ Below w.heap.size w w' := by
 have hu28 := Tryz.underlying28
 have HR0 := a_ hr0
 have U9 := a_ hc0
 clear hr0 hc0
 have HB := a_ (Below.refl w.heap.size w)
 have H : ((kH.f l0).bind fun R1 => (if R1 = true then (some true) else ((aX.f k l0).bind fun A3 => ((fD.f k A3.1 A3.2.1 A3.2.2.1 A3.2.2.2.1 A3.2.2.2.2.1 A3.2.2.2.2.2).bind fun E5 => ((fE.f k A3.1 A3.2.1 A3.2.2.1 A3.2.2.2.1 A3.2.2.2.2.1 A3.2.2.2.2.2).bind fun G7 => ((dK.f k A3.1 A3.2.1 A3.2.2.1 A3.2.2.2.1 A3.2.2.2.2.1 A3.2.2.2.2.2).bind fun G8 => ((eF.f k A3.1 A3.2.1 A3.2.2.1 A3.2.2.2.1 A3.2.2.2.2.1 A3.2.2.2.2.2).bind fun G9 => ((dQ.f k l0).bind fun C3 => ((ed.f k C3.1 C3.2.1 C3.2.2.1 C3.2.2.2.1 C3.2.2.2.2).bind fun F8 => ((bz.f k C3.1 C3.2.1 C3.2.2.1 C3.2.2.2.1 C3.2.2.2.2).bind fun H0 => (if E5.2 = G7.2 then ((dh.f k E5.1 G7.1).bind fun I5 => (if I5 = true then (if G8.2 = G9.2 then (if (G8.1 != G9.1) = true then (none) else (if F8.2 = H0.2 then ((bP.f k F8.1 H0.1).bind fun H2 => (ag.j0 k E5.1 E5.2 F8.1 (!H2) A3.1 A3.2.1 A3.2.2.1 A3.2.2.2.1 A3.2.2.2.2.1 C3.1 C3.2.1 C3.2.2.1 C3.2.2.2.1 C3.2.2.2.2)) else (none))) else (none)) else (none))) else (none)))))))))))) = some r := h
 clear h
 replace H := bo_ H; obtain ⟨R1, A2, H⟩ := H; (try dsimp only at H)
 by_cases c3 : R1 = true
 ·subst c3
  have H1 : (some true) = some r := by rw [if_pos rfl] at H; exact H
  clear H
  have H := H1
  clear H1
  obtain rfl := Option.some.inj H
  go_enter Tryz.func5, Tryz.ntmps5
  go_wp2_with (first | ((with_reducible refine av (f := 12) rfl ?_); refine bI (some 24) rfl rfl Tryz.func12 (by kernel_rfl) rfl #[.slice A0 l0.length c0] rfl dL ?_; (with_reducible refine (kH.calls _ _ l0 true _ ?side1 ?side2 A2.out).mono ?_); (case side1 => exact Bw); (case side2 => exact U9.out); rintro e w' ⟨rfl, ⟨nd, rfl⟩⟩; refine ⟨_, rfl, ?_⟩))
  go_ret
  exact ⟨fO, bO⟩
 ·replace c3 := Bool.eq_false_iff.mpr c3
  subst c3
  have H1 : ((aX.f k l0).bind fun A3 => ((fD.f k A3.1 A3.2.1 A3.2.2.1 A3.2.2.2.1 A3.2.2.2.2.1 A3.2.2.2.2.2).bind fun E5 => ((fE.f k A3.1 A3.2.1 A3.2.2.1 A3.2.2.2.1 A3.2.2.2.2.1 A3.2.2.2.2.2).bind fun G7 => ((dK.f k A3.1 A3.2.1 A3.2.2.1 A3.2.2.2.1 A3.2.2.2.2.1 A3.2.2.2.2.2).bind fun G8 => ((eF.f k A3.1 A3.2.1 A3.2.2.1 A3.2.2.2.1 A3.2.2.2.2.1 A3.2.2.2.2.2).bind fun G9 => ((dQ.f k l0).bind fun C3 => ((ed.f k C3.1 C3.2.1 C3.2.2.1 C3.2.2.2.1 C3.2.2.2.2).bind fun F8 => ((bz.f k C3.1 C3.2.1 C3.2.2.1 C3.2.2.2.1 C3.2.2.2.2).bind fun H0 => (if E5.2 = G7.2 then ((dh.f k E5.1 G7.1).bind fun I5 => (if I5 = true then (if G8.2 = G9.2 then (if (G8.1 != G9.1) = true then (none) else (if F8.2 = H0.2 then ((bP.f k F8.1 H0.1).bind fun H2 => (ag.j0 k E5.1 E5.2 F8.1 (!H2) A3.1 A3.2.1 A3.2.2.1 A3.2.2.2.1 A3.2.2.2.2.1 C3.1 C3.2.1 C3.2.2.1 C3.2.2.2.1 C3.2.2.2.2)) else (none))) else (none)) else (none))) else (none)))))))))) = some r := by rw [if_neg (show ¬ (false = true) by decide)] at H; exact H
  clear H
  have H := H1
  clear H1
  replace H := bo_ H; obtain ⟨⟨D7, D8, C7, C6, C9, G5⟩, A4, H⟩ := H; (try dsimp only at H)
  replace H := bo_ H; obtain ⟨⟨C2, F0⟩, A5, H⟩ := H; (try dsimp only at H)
  replace H := bo_ H; obtain ⟨⟨T3, R2⟩, A6, H⟩ := H; (try dsimp only at H)
  replace H := bo_ H; obtain ⟨⟨I6, J7⟩, A7, H⟩ := H; (try dsimp only at H)
  replace H := bo_ H; obtain ⟨⟨I7, J8⟩, A8, H⟩ := H; (try dsimp only at H)
  replace H := bo_ H; obtain ⟨⟨E2, E3, D1, D2, D3⟩, A9, H⟩ := H; (try dsimp only at H)
  replace H := bo_ H; obtain ⟨⟨E4, J9⟩, Z9, H⟩ := H; (try dsimp only at H)
  replace H := bo_ H; obtain ⟨⟨R3, K0⟩, a5, H⟩ := H; (try dsimp only at H)
  have R4 := a_ H
  clear H
  go_enter Tryz.func5, Tryz.ntmps5
  go_upto_region 11 with (first | ((with_reducible refine av (f := 12) rfl ?_); refine bI (some 24) rfl rfl Tryz.func12 (by kernel_rfl) rfl #[.slice A0 l0.length c0] rfl dL ?_; (with_reducible refine (kH.calls _ _ l0 false _ ?side1 ?side2 A2.out).mono ?_); (case side1 => exact Bw); (case side2 => exact U9.out); rintro e w' ⟨rfl, ⟨nd, rfl⟩⟩; refine ⟨_, rfl, ?_⟩) | ((with_reducible refine av (f := 23) rfl ?_); refine bI (some 27) rfl rfl Tryz.func23 (by kernel_rfl) rfl #[.slice A0 l0.length c0] rfl dL ?_; (with_reducible refine (aX.calls k _ _ l0 D7 D8 C7 C6 C9 G5 _ ?side1 ?side2 A4.out).mono ?_); (case side1 => exact Bw); (case side2 => exact U9.out); rintro e g2 ⟨a6, a7, a8, rfl, ho0, ho1, ho2, hb⟩; refine ⟨_, rfl, ?_⟩; have HO697 := a_ (Kd.bu (Kd.ae ho0 (fun _ _ => trivial)) (af bO)); have HO700 := a_ (Kd.bu (Kd.ae ho1 (fun _ _ => trivial)) (af bO)); have HO703 := a_ (Kd.bu (Kd.ae ho2 (fun _ _ => trivial)) (af bO)); replace HB := df bO hb; (try clear hb); (try clear ho0); (try clear ho1); (try clear ho2)) | ((with_reducible refine bf (N := 3) rfl ?_); refine cz ?hg (N := 3) ?hd (cs := #[.int .i64 0, .int .i64 0, .slice none 0 0, .slice none 0 0, .slice none 0 0]) (t := 28) ?hr ?_; (case hd => rfl); (case hg => rfl); (case hr => first | (go_simp; done) | (go_simp; rfl)); intro C4 hg a9 hbox hb; replace HO697 := rl_ HO697 hb; replace HO700 := rl_ HO700 hb; replace HO703 := rl_ HO703 hb; have BK705 := a_ (hbox); have Y0 := a_ ((fG : w.heap.size ≤ C4)); have GE705 := a_ ((fG : w.heap.size ≤ C4)); replace HB := df bO hb; clear hb hbox hg; obtain ⟨K1, K2, K3, K4, K5, K6, K7, K8, K9, L0⟩ := eH (w := a9) BK705.out; obtain ⟨F1, E6, V0⟩ := Kd.bg HO697.out; subst V0; obtain ⟨F2, E7, V1⟩ := Kd.bg HO700.out; subst V1; obtain ⟨F3, E8, V2⟩ := Kd.bg HO703.out; subst V2) | ((with_reducible refine av (f := 22) rfl ?_); refine bI (some 33) rfl rfl Tryz.func22 (by kernel_rfl) rfl #[.agg #[.int .i64 D7, .int .i64 D8, .slice F1 C7.length E6, .slice F2 C6.length E7, .slice F3 C9.length E8], .string G5] rfl dL ?_; (with_reducible refine (fD.calls k D7 D8 _ _ C7 _ _ C6 _ _ C9 G5 C2 F0 _ ?side1 ?side2 ?side3 ?side4 ?side5 ?side6 A5.out).mono ?_); (case side1 => refine (Kd.aH (e := 2) (base := w.heap.size) (ok := fun k_ => True) (n := C7.length) (c := E6) ?_).2.2; exact (rc_ (h := by exact Kd.ae (gB HO697.out BK705.out) (fun _ h_ => h_.1)))); (case side2 => exact (Kd.aH HO697.out).2.1); (case side3 => refine (Kd.aH (e := 2) (base := w.heap.size) (ok := fun k_ => True) (n := C6.length) (c := E7) ?_).2.2; exact (rc_ (h := by exact Kd.ae (gB HO700.out BK705.out) (fun _ h_ => h_.1)))); (case side4 => exact (Kd.aH HO700.out).2.1); (case side5 => refine (Kd.aH (e := 2) (base := w.heap.size) (ok := fun k_ => True) (n := C9.length) (c := E8) ?_).2.2; exact (rc_ (h := by exact Kd.ae (gB HO703.out BK705.out) (fun _ h_ => h_.1)))); (case side6 => exact (Kd.aH HO703.out).2.1); rintro e b0 ⟨I8, rfl, ho0, hb⟩; refine ⟨_, rfl, ?_⟩; replace HO697 := a_ (Kd.dN (rc_ (h := by exact Kd.ae (gB HO697.out BK705.out) (fun _ h_ => h_.1))) hb); replace HO700 := a_ (Kd.dN (rc_ (h := by exact Kd.ae (gB HO700.out BK705.out) (fun _ h_ => h_.1))) hb); replace HO703 := a_ (Kd.dN (rc_ (h := by exact Kd.ae (gB HO703.out BK705.out) (fun _ h_ => h_.1))) hb); have C8 := a_ (Kd.bu (Kd.ae ho0 (fun _ _ => trivial)) (af pO)); replace BK705 := a_ (dS (g := C4) (o := .cells #[.int .i64 D7, .int .i64 D8, .slice F1 C7.length E6, .slice F2 C6.length E7, .slice F3 C9.length E8] 28 (0, 0)) (iI (h := by exact je BK705.out)) hb); replace HB := df pO hb; (try clear hb); (try clear ho0); obtain ⟨L1, L2, L3, L4, L5, L6, L7, L8, L9, M0⟩ := eH (w := b0) BK705.out) | ((with_reducible refine av (f := 24) rfl ?_); refine bI (some 39) rfl rfl Tryz.func24 (by kernel_rfl) rfl #[.agg #[.int .i64 D7, .int .i64 D8, .slice F1 C7.length E6, .slice F2 C6.length E7, .slice F3 C9.length E8], .string G5] rfl dL ?_; (with_reducible refine (fE.calls k D7 D8 _ _ C7 _ _ C6 _ _ C9 G5 T3 R2 _ ?side1 ?side2 ?side3 ?side4 ?side5 ?side6 A6.out).mono ?_); (case side1 => exact Br); (case side2 => exact (Kd.aH HO697.out).2.1); (case side3 => exact Bt); (case side4 => exact (Kd.aH HO700.out).2.1); (case side5 => exact Bu); (case side6 => exact (Kd.aH HO703.out).2.1); rintro e b1 ⟨b2, rfl, ho0, hb⟩; refine ⟨_, rfl, ?_⟩; replace HO697 := rl_ HO697 hb; replace HO700 := rl_ HO700 hb; replace HO703 := rl_ HO703 hb; replace C8 := rl_ C8 hb; have D4 := a_ (Kd.bu (Kd.ae ho0 (fun _ _ => trivial)) (af pO)); replace BK705 := bb_ C4 BK705 hb; replace HB := df pO hb; (try clear hb); (try clear ho0); obtain ⟨M1, M2, M3, M4, M5, M6, M7, M8, M9, N0⟩ := eH (w := b1) BK705.out) | ((with_reducible refine av (f := 10) rfl ?_); refine bI (some 45) rfl rfl Tryz.func10 (by kernel_rfl) rfl #[.agg #[.int .i64 D7, .int .i64 D8, .slice F1 C7.length E6, .slice F2 C6.length E7, .slice F3 C9.length E8], .string G5] rfl dL ?_; (with_reducible refine (dK.calls k D7 D8 _ _ C7 _ _ C6 _ _ C9 G5 I6 J7 _ ?side1 ?side2 ?side3 ?side4 ?side5 ?side6 A7.out).mono ?_); (case side1 => exact Br); (case side2 => exact (Kd.aH HO697.out).2.1); (case side3 => exact Bt); (case side4 => exact (Kd.aH HO700.out).2.1); (case side5 => exact Bu); (case side6 => exact (Kd.aH HO703.out).2.1); rintro e b3 ⟨rfl, hb⟩; refine ⟨_, rfl, ?_⟩; replace HO697 := rl_ HO697 hb; replace HO700 := rl_ HO700 hb; replace HO703 := rl_ HO703 hb; replace C8 := rl_ C8 hb; replace D4 := rl_ D4 hb; replace BK705 := bb_ C4 BK705 hb; replace HB := df pO hb; (try clear hb); obtain ⟨N1, N2, N3, N4, N5, N6, N7, N8, N9, O0⟩ := eH (w := b3) BK705.out) | ((with_reducible refine av (f := 8) rfl ?_); refine bI (some 51) rfl rfl Tryz.func8 (by kernel_rfl) rfl #[.agg #[.int .i64 D7, .int .i64 D8, .slice F1 C7.length E6, .slice F2 C6.length E7, .slice F3 C9.length E8], .string G5] rfl dL ?_; (with_reducible refine (eF.calls k D7 D8 _ _ C7 _ _ C6 _ _ C9 G5 I7 J8 _ ?side1 ?side2 ?side3 ?side4 ?side5 ?side6 A8.out).mono ?_); (case side1 => exact Br); (case side2 => exact (Kd.aH HO697.out).2.1); (case side3 => exact Bt); (case side4 => exact (Kd.aH HO700.out).2.1); (case side5 => exact Bu); (case side6 => exact (Kd.aH HO703.out).2.1); rintro e g3 ⟨rfl, hb⟩; refine ⟨_, rfl, ?_⟩; replace HO697 := rl_ HO697 hb; replace HO700 := rl_ HO700 hb; replace HO703 := rl_ HO703 hb; replace C8 := rl_ C8 hb; replace D4 := rl_ D4 hb; replace BK705 := bb_ C4 BK705 hb; replace HB := df pO hb; (try clear hb)) | ((with_reducible refine av (f := 25) rfl ?_); refine bI (some 55) rfl rfl Tryz.func25 (by kernel_rfl) rfl #[.slice A0 l0.length c0] rfl dL ?_; (with_reducible refine (dQ.calls k _ _ l0 E2 E3 D1 D2 D3 _ ?side1 ?side2 A9.out).mono ?_); (case side1 => exact kc_ (Kd.bE HR0.out HB.out)); (case side2 => exact U9.out); rintro e g4 ⟨b4, b5, b6, rfl, ho0, ho1, ho2, hb⟩; refine ⟨_, rfl, ?_⟩; replace HO697 := rl_ HO697 hb; replace HO700 := rl_ HO700 hb; replace HO703 := rl_ HO703 hb; replace C8 := rl_ C8 hb; replace D4 := rl_ D4 hb; have D9 := a_ (Kd.bu (Kd.ae ho0 (fun _ _ => trivial)) (af pO)); have E0 := a_ (Kd.bu (Kd.ae ho1 (fun _ _ => trivial)) (af pO)); have E1 := a_ (Kd.bu (Kd.ae ho2 (fun _ _ => trivial)) (af pO)); replace BK705 := bb_ C4 BK705 hb; replace HB := df pO hb; (try clear hb); (try clear ho0); (try clear ho1); (try clear ho2)) | ((with_reducible refine bf (N := 13) rfl ?_); refine cz ?hg (N := 13) ?hd (cs := #[.int .i64 0, .int .i64 0, .slice none 0 0, .slice none 0 0, .slice none 0 0]) (t := 28) ?hr ?_; (case hd => rfl); (case hg => rfl); (case hr => first | (go_simp; done) | (go_simp; rfl)); intro D0 hg b7 hbox hb; replace HO697 := rl_ HO697 hb; replace HO700 := rl_ HO700 hb; replace HO703 := rl_ HO703 hb; replace C8 := rl_ C8 hb; replace D4 := rl_ D4 hb; replace D9 := rl_ D9 hb; replace E0 := rl_ E0 hb; replace E1 := rl_ E1 hb; have BK729 := a_ (hbox); have Y1 := a_ ((by rw [hg]; exact (af pO) : w.heap.size ≤ D0)); have GE729 := a_ ((by rw [hg]; exact (af pO) : w.heap.size ≤ D0)); replace HB := df pO hb; have G3 := a_ ((by rw [hg]; exact Nat.ne_of_lt (fF (g := C4) (rb_ BK705.out)) : C4 ≠ D0)); have I4 := a_ ((by rw [hg]; exact Nat.ne_of_gt (fF (g := C4) (rb_ BK705.out)) : D0 ≠ C4)); replace BK705 := bb_ C4 BK705 hb; clear hb hbox hg; have hnb28 := I4.out; have hnc28 := G3.out; obtain ⟨O1, O2, O3, O4, O5, O6, O7, O8, O9, P0⟩ := eH (w := b7) BK729.out; obtain ⟨F9, F4, V3⟩ := Kd.bg D9.out; subst V3; obtain ⟨G0, F5, V4⟩ := Kd.bg E0.out; subst V4; obtain ⟨G1, F6, V5⟩ := Kd.bg E1.out; subst V5) | ((with_reducible refine av (f := 26) rfl ?_); refine bI (some 58) rfl rfl Tryz.func26 (by kernel_rfl) rfl #[.agg #[.int .i64 E2, .int .i64 E3, .slice F9 D1.length F4, .slice G0 D2.length F5, .slice G1 D3.length F6]] rfl dL ?_; (with_reducible refine (ed.calls k E2 E3 _ _ D1 _ _ D2 _ _ D3 E4 J9 _ ?side1 ?side2 ?side3 ?side4 ?side5 ?side6 Z9.out).mono ?_); (case side1 => refine (Kd.aH (e := 2) (base := w.heap.size) (ok := fun k_ => True) (n := D1.length) (c := F4) ?_).2.2; exact (rc_ (h := by exact Kd.ae (gB D9.out BK729.out) (fun _ h_ => h_.1)))); (case side2 => exact (Kd.aH D9.out).2.1); (case side3 => refine (Kd.aH (e := 2) (base := w.heap.size) (ok := fun k_ => True) (n := D2.length) (c := F5) ?_).2.2; exact (rc_ (h := by exact Kd.ae (gB E0.out BK729.out) (fun _ h_ => h_.1)))); (case side4 => exact (Kd.aH E0.out).2.1); (case side5 => refine (Kd.aH (e := 2) (base := w.heap.size) (ok := fun k_ => True) (n := D3.length) (c := F6) ?_).2.2; exact (rc_ (h := by exact Kd.ae (gB E1.out BK729.out) (fun _ h_ => h_.1)))); (case side6 => exact (Kd.aH E1.out).2.1); rintro e b8 ⟨T4, rfl, ho0, hb⟩; refine ⟨_, rfl, ?_⟩; replace HO697 := a_ (Kd.dN (rc_ (h := by exact Kd.ae (gB HO697.out BK729.out) (fun _ h_ => h_.1))) hb); replace HO700 := a_ (Kd.dN (rc_ (h := by exact Kd.ae (gB HO700.out BK729.out) (fun _ h_ => h_.1))) hb); replace HO703 := a_ (Kd.dN (rc_ (h := by exact Kd.ae (gB HO703.out BK729.out) (fun _ h_ => h_.1))) hb); replace C8 := a_ (Kd.dN (rc_ (h := by exact Kd.ae (gB C8.out BK729.out) (fun _ h_ => h_.1))) hb); replace D4 := a_ (Kd.dN (rc_ (h := by exact Kd.ae (gB D4.out BK729.out) (fun _ h_ => h_.1))) hb); replace D9 := a_ (Kd.dN (rc_ (h := by exact Kd.ae (gB D9.out BK729.out) (fun _ h_ => h_.1))) hb); replace E0 := a_ (Kd.dN (rc_ (h := by exact Kd.ae (gB E0.out BK729.out) (fun _ h_ => h_.1))) hb); replace E1 := a_ (Kd.dN (rc_ (h := by exact Kd.ae (gB E1.out BK729.out) (fun _ h_ => h_.1))) hb); have G4 := a_ (Kd.bu (Kd.ae ho0 (fun _ _ => trivial)) (af nH)); replace BK705 := a_ (dS (g := C4) (o := .cells #[.int .i64 D7, .int .i64 D8, .slice F1 C7.length E6, .slice F2 C6.length E7, .slice F3 C9.length E8] 28 (0, 0)) (iI (h := by exact rR G3.out BK705.out)) hb); replace BK729 := a_ (dS (g := D0) (o := .cells #[.int .i64 E2, .int .i64 E3, .slice F9 D1.length F4, .slice G0 D2.length F5, .slice G1 D3.length F6] 28 (0, 0)) (iI (h := by exact je BK729.out)) hb); replace HB := df nH hb; (try clear hb); (try clear ho0); obtain ⟨P1, P2, P3, P4, P5, P6, P7, P8, P9, Q0⟩ := eH (w := b8) BK729.out) | ((with_reducible refine av (f := 27) rfl ?_); refine bI (some 63) rfl rfl Tryz.func27 (by kernel_rfl) rfl #[.agg #[.int .i64 E2, .int .i64 E3, .slice F9 D1.length F4, .slice G0 D2.length F5, .slice G1 D3.length F6]] rfl dL ?_; (with_reducible refine (bz.calls k E2 E3 _ _ D1 _ _ D2 _ _ D3 R3 K0 _ ?side1 ?side2 ?side3 ?side4 ?side5 ?side6 a5.out).mono ?_); (case side1 => exact (by (repeat (first | exact (Kd.aH D9.out).2.2 | (with_reducible refine Kd.dH ?_ _) | (with_reducible refine Kd.dJ ?_ _) | (with_reducible refine Kd.dX ?_))); first | done | fail)); (case side2 => exact (Kd.aH D9.out).2.1); (case side3 => exact (by (repeat (first | exact (Kd.aH E0.out).2.2 | (with_reducible refine Kd.dH ?_ _) | (with_reducible refine Kd.dJ ?_ _) | (with_reducible refine Kd.dX ?_))); first | done | fail)); (case side4 => exact (Kd.aH E0.out).2.1); (case side5 => exact (by (repeat (first | exact (Kd.aH E1.out).2.2 | (with_reducible refine Kd.dH ?_ _) | (with_reducible refine Kd.dJ ?_ _) | (with_reducible refine Kd.dX ?_))); first | done | fail)); (case side6 => exact (Kd.aH E1.out).2.1); rintro e g5 ⟨b9, rfl, ho0, hb⟩; refine ⟨_, rfl, ?_⟩; replace HO697 := rl_ HO697 hb; replace HO700 := rl_ HO700 hb; replace HO703 := rl_ HO703 hb; replace C8 := rl_ C8 hb; replace D4 := rl_ D4 hb; replace D9 := rl_ D9 hb; replace E0 := rl_ E0 hb; replace E1 := rl_ E1 hb; replace G4 := rl_ G4 hb; have I9 := a_ (Kd.bu (Kd.ae ho0 (fun _ _ => trivial)) (af nH)); replace BK705 := bb_ C4 BK705 hb; replace BK729 := bb_ D0 BK729 hb; replace HB := df nH hb; (try clear hb); (try clear ho0)))
  (try simp only [Act.put, List.setIfInBounds_toArray, List.set_cons_zero, List.set_cons_succ])
  go_cut [95] (fun v95 wc => ∃ (kq : Nat) (G6 : Bool), v95 = .bool G6 ∧ ah (ag.j0 kq C2 F0 E4 G6 D7 D8 C7 C6 C9 E2 E3 D1 D2 D3 = some r) ∧ ah (kq ≤ k) ∧ ah (Kd.R (Kd.int .i64) 2 wc w.heap.size (fun _ => True) I8 C2) ∧ ah (Kd.R Kd.string 9 wc w.heap.size (fun _ => True) T4 E4) ∧ ah (Kd.R (Kd.int .i64) 2 wc w.heap.size (fun _ => True) (.slice F1 C7.length E6) C7) ∧ ah (Kd.R (Kd.int .i64) 2 wc w.heap.size (fun _ => True) (.slice F2 C6.length E7) C6) ∧ ah (Kd.R (Kd.int .i64) 2 wc w.heap.size (fun _ => True) (.slice F3 C9.length E8) C9) ∧ ah (Kd.R (Kd.int .i64) 2 wc w.heap.size (fun _ => True) (.slice F9 D1.length F4) D1) ∧ ah (Kd.R (Kd.int .i64) 2 wc w.heap.size (fun _ => True) (.slice G0 D2.length F5) D2) ∧ ah (Kd.R (Kd.int .i64) 2 wc w.heap.size (fun _ => True) (.slice G1 D3.length F6) D3) ∧ ah (wc.heap[C4]? = some (.cells #[.int .i64 D7, .int .i64 D8, (.slice F1 C7.length E6), (.slice F2 C6.length E7), (.slice F3 C9.length E8)] 28 (0, 0))) ∧ ah (wc.heap[D0]? = some (.cells #[.int .i64 E2, .int .i64 E3, (.slice F9 D1.length F4), (.slice G0 D2.length F5), (.slice G1 D3.length F6)] 28 (0, 0))) ∧ ah (Below w.heap.size w wc))
  case first =>
   have H := R4.out
   clear R4
   replace H := ig_ H; obtain ⟨c36, H⟩ := H
   have Q4 : (F0 == R2) = true := beq_iff_eq.mpr c36
   have Y2 : (F0 != R2) = false := bne_eq_false_iff_eq.mpr c36
   clear c36
   (first | rw [Q4] | (simp only [eU, gX]; rw [Q4]) | skip)
   replace H := bo_ H; obtain ⟨I5, c1, H⟩ := H; (try dsimp only at H)
   by_cases c38 : I5 = true
   ·subst c38
    have H1 : (if J7 = J8 then (if (I6 != I7) = true then (none) else (if J9 = K0 then ((bP.f k E4 R3).bind fun H2 => (ag.j0 k C2 F0 E4 (!H2) D7 D8 C7 C6 C9 E2 E3 D1 D2 D3)) else (none))) else (none)) = some r := by rw [if_pos rfl] at H; exact H
    clear H
    have H := H1
    clear H1
    replace H := ig_ H; obtain ⟨c39, H⟩ := H
    have Y3 : (J7 == J8) = true := beq_iff_eq.mpr c39
    have Y4 : (J7 != J8) = false := bne_eq_false_iff_eq.mpr c39
    clear c39
    replace H := in_ H; obtain ⟨c40, H⟩ := H
    have Y5 : (I6 != I7) = false := by simpa using c40
    (try (have Y6 : decide (I6 = I7) = true := by simpa using c40))
    (try (have Y7 : (I6 == I7) = true := by simpa using c40))
    clear c40
    replace H := ig_ H; obtain ⟨c41, H⟩ := H
    have Y8 : (J9 == K0) = true := beq_iff_eq.mpr c41
    have Y9 : (J9 != K0) = false := bne_eq_false_iff_eq.mpr c41
    clear c41
    replace H := bo_ H; obtain ⟨H2, d0, H⟩ := H; (try dsimp only at H)
    have H' := a_ H
    clear H
    obtain ⟨d1, d2, V6⟩ := Kd.bg C8.out
    subst V6
    obtain ⟨d3, d4, V7⟩ := Kd.bg D4.out
    subst V7
    go_wp2_with (first | (go_at_call 28; (with_reducible refine (dh.calls k _ _ C2 _ _ T3 true _ ?side1 ?side2 ?side3 ?side4 c1.out).mono ?_); (case side1 => exact (by (repeat (first | exact (Kd.aH C8.out).2.2 | (with_reducible refine Kd.dH ?_ _) | (with_reducible refine Kd.dJ ?_ _) | (with_reducible refine Kd.dX ?_))); first | done | fail)); (case side2 => exact (Kd.aH C8.out).2.1); (case side3 => exact (by (repeat (first | exact (Kd.aH D4.out).2.2 | (with_reducible refine Kd.dH ?_ _) | (with_reducible refine Kd.dJ ?_ _) | (with_reducible refine Kd.dX ?_))); first | done | fail)); (case side4 => exact (Kd.aH D4.out).2.1); rintro e w' ⟨rfl, ⟨nd, rfl⟩⟩; obtain ⟨d5, d6, V8⟩ := Kd.bg G4.out; subst V8; obtain ⟨d7, d8, V9⟩ := Kd.bg I9.out; subst V9) | (go_at_call 29; (with_reducible refine (bP.calls k _ _ E4 _ _ R3 H2 _ ?side1 ?side2 ?side3 ?side4 d0.out).mono ?_); (case side1 => exact (by (repeat (first | exact (Kd.aH G4.out).2.2 | (with_reducible refine Kd.dH ?_ _) | (with_reducible refine Kd.dJ ?_ _) | (with_reducible refine Kd.dX ?_))); first | done | fail)); (case side2 => exact (Kd.aH G4.out).2.1); (case side3 => exact (by (repeat (first | exact (Kd.aH I9.out).2.2 | (with_reducible refine Kd.dH ?_ _) | (with_reducible refine Kd.dJ ?_ _) | (with_reducible refine Kd.dX ?_))); first | done | fail)); (case side4 => exact (Kd.aH I9.out).2.1); rintro e w' ⟨rfl, ⟨nd, rfl⟩⟩))
    go_meet
    case rel => exact ⟨_, (!H2), bZ, H', ⟨jD⟩, ⟨by (with_reducible repeat (first | apply Kd.aC | apply Kd.aD | apply Kd.az)); exact C8.out⟩, ⟨by (with_reducible repeat (first | apply Kd.aC | apply Kd.aD | apply Kd.az)); exact G4.out⟩, ⟨by (with_reducible repeat (first | apply Kd.aC | apply Kd.aD | apply Kd.az)); exact HO697.out⟩, ⟨by (with_reducible repeat (first | apply Kd.aC | apply Kd.aD | apply Kd.az)); exact HO700.out⟩, ⟨by (with_reducible repeat (first | apply Kd.aC | apply Kd.aD | apply Kd.az)); exact HO703.out⟩, ⟨by (with_reducible repeat (first | apply Kd.aC | apply Kd.aD | apply Kd.az)); exact D9.out⟩, ⟨by (with_reducible repeat (first | apply Kd.aC | apply Kd.aD | apply Kd.az)); exact E0.out⟩, ⟨by (with_reducible repeat (first | apply Kd.aC | apply Kd.aD | apply Kd.az)); exact E1.out⟩, ⟨Cb⟩, ⟨Cc⟩, ⟨nH⟩⟩
   ·replace c38 := Bool.eq_false_iff.mpr c38
    subst c38
    have H1 : (none) = some r := by rw [if_neg (show ¬ (false = true) by decide)] at H; exact H
    clear H
    have H := H1
    clear H1
    exact absurd H (by simp)
  case rest =>
   clear R4; try clear c3; try clear K1 K2 K3 K4 K5; try clear L1 L2 L3 L4 L5; try clear M1 M2 M3 M4 M5; try clear N1 N2 N3 N4 N5; try clear O1 O2 O3 O4 O5; try clear P1 P2 P3 P4 P5; try clear K6 K7 K8 K9 L0; try clear L6 L7 L8 L9 M0; try clear M6 M7 M8 M9 N0; try clear N6 N7 N8 N9 O0; try clear O6 O7 O8 O9 P0; try clear P6 P7 P8 P9 Q0
   obtain ⟨kq, G6, rfl, HA, Q1, HO_5, C5, B7, C0, C1, B0, B3, B4, BK705, BK729, HB⟩ := hcut
   cases kq with
   | zero => exact absurd HA.out (by simp [ag.j0])
   | succ R5 =>
    have H := HA.out
    clear HA
    simp only [ag.j0] at H
    by_cases c47 : G6 = true
    ·subst c47
     have H1 : (none) = some r := by rw [if_pos rfl] at H; exact H
     clear H
     have H := H1
     clear H1
     exact absurd H (by simp)
    ·replace c47 := Bool.eq_false_iff.mpr c47
     subst c47
     have H1 : (ag.l0 R5 C2 F0 E4 0 D7 D8 C7 C6 C9 E2 E3 D1 D2 D3) = some r := by rw [if_neg (show ¬ (false = true) by decide)] at H; exact H
     clear H
     have H := H1
     clear H1
     have H' := a_ H
     clear H
     go_wp2
     go_loopg [18] R5 (fun kq v18 w' => ∃ (D5 : Int), v18 = .int .i64 D5 ∧ ah (ag.l0 kq C2 F0 E4 D5 D7 D8 C7 C6 C9 E2 E3 D1 D2 D3 = some r) ∧ ah (kq ≤ R5) ∧ ah (Kd.R (Kd.int .i64) 2 w' w.heap.size (fun _ => True) I8 C2) ∧ ah (Kd.R Kd.string 9 w' w.heap.size (fun _ => True) T4 E4) ∧ ah (Kd.R (Kd.int .i64) 2 w' w.heap.size (fun _ => True) (.slice F1 C7.length E6) C7) ∧ ah (Kd.R (Kd.int .i64) 2 w' w.heap.size (fun _ => True) (.slice F2 C6.length E7) C6) ∧ ah (Kd.R (Kd.int .i64) 2 w' w.heap.size (fun _ => True) (.slice F3 C9.length E8) C9) ∧ ah (Kd.R (Kd.int .i64) 2 w' w.heap.size (fun _ => True) (.slice F9 D1.length F4) D1) ∧ ah (Kd.R (Kd.int .i64) 2 w' w.heap.size (fun _ => True) (.slice G0 D2.length F5) D2) ∧ ah (Kd.R (Kd.int .i64) 2 w' w.heap.size (fun _ => True) (.slice G1 D3.length F6) D3) ∧ ah (w'.heap[C4]? = some (.cells #[.int .i64 D7, .int .i64 D8, (.slice F1 C7.length E6), (.slice F2 C6.length E7), (.slice F3 C9.length E8)] 28 (0, 0))) ∧ ah (w'.heap[D0]? = some (.cells #[.int .i64 E2, .int .i64 E3, (.slice F9 D1.length F4), (.slice G0 D2.length F5), (.slice G1 D3.length F6)] 28 (0, 0))) ∧ ah (Below w.heap.size w w'))
     case atStart => exact ⟨(0), bZ, H', ⟨Nat.le_refl _⟩, ⟨lG⟩, ⟨by (with_reducible repeat (first | apply Kd.aC | apply Kd.aD | apply Kd.az)); exact C5.out⟩, ⟨by (with_reducible repeat (first | apply Kd.aC | apply Kd.aD | apply Kd.az)); exact B7.out⟩, ⟨by (with_reducible repeat (first | apply Kd.aC | apply Kd.aD | apply Kd.az)); exact C0.out⟩, ⟨by (with_reducible repeat (first | apply Kd.aC | apply Kd.aD | apply Kd.az)); exact C1.out⟩, ⟨by (with_reducible repeat (first | apply Kd.aC | apply Kd.aD | apply Kd.az)); exact B0.out⟩, ⟨by (with_reducible repeat (first | apply Kd.aC | apply Kd.aD | apply Kd.az)); exact B3.out⟩, ⟨by (with_reducible repeat (first | apply Kd.aC | apply Kd.aD | apply Kd.az)); exact B4.out⟩, ⟨Cb⟩, ⟨Cc⟩, ⟨nH⟩⟩
     case round =>
      clear H'
      try clear c47
      (try clear HO_5); (try clear C5); (try clear B7); (try clear C0); (try clear C1); (try clear B0); (try clear B3); (try clear B4)
      obtain ⟨D5, rfl, HA, HK2, HO_5, C5, B7, C0, C1, B0, B3, B4, BK705, BK729, HB⟩ := hrel
      cases gk with
      | zero => exact absurd HA.out (by simp [ag.l0])
      | succ k2 =>
       have H := HA.out
       clear HA
       simp only [ag.l0] at H
       by_cases c48 : D5 < (E4.length : Int)
       ·rw [if_pos c48] at H
        have Q5 := decide_eq_true c48
        clear c48
        replace H := ig_ H; obtain ⟨c49, H⟩ := H
        have Z0 := decide_eq_true c49
        clear c49
        replace H := bo_ H; obtain ⟨⟨W0, R6⟩, d9, H⟩ := H; (try dsimp only at H)
        replace H := ig_ H; obtain ⟨c51, H⟩ := H
        have Z1 : (R6 == 0) = true := beq_iff_eq.mpr c51
        have Z2 : (R6 != 0) = false := bne_eq_false_iff_eq.mpr c51
        clear c51
        by_cases c52 : W0 = true
        ·subst c52
         have H1 : (ag.l0 k2 C2 F0 E4 (wrap64 (D5 + 1)) D7 D8 C7 C6 C9 E2 E3 D1 D2 D3) = some r := by rw [if_pos rfl] at H; exact H
         clear H
         have H := H1
         clear H1
         have H' := a_ H
         clear H
         obtain ⟨e0, e1, W1⟩ := Kd.bg C5.out
         subst W1
         try go_wp2
         replace HO_5 := a_ (Kd.az HO_5.out)
         replace C5 := a_ (Kd.az C5.out)
         replace B7 := a_ (Kd.az B7.out)
         replace C0 := a_ (Kd.az C0.out)
         replace C1 := a_ (Kd.az C1.out)
         replace B0 := a_ (Kd.az B0.out)
         replace B3 := a_ (Kd.az B3.out)
         replace B4 := a_ (Kd.az B4.out)
         replace BK705 := a_ (bU BK705.out)
         replace BK729 := a_ (bU BK729.out)
         replace HB := a_ (aU HB.out)
         have R7 : 0 ≤ (D5 : Int) := of_decide_eq_true aG
         have R8 : D5 < (E4.length : Int) := of_decide_eq_true aG
         obtain ⟨T7, W3, H8⟩ := Kd.jd (Kd.aH C5.out).2.2 D5 R7 R8
         cases W3
         replace R7 := eq_true R7
         replace R8 := eq_true R8
         refine gQ (n := 11) (S := fun w' => w'.cell? ⟨D0, 0, none⟩ = some (.int .i64 E2) ∧ w'.cell? ⟨D0, 1, none⟩ = some (.int .i64 E3) ∧ w'.cell? ⟨D0, 2, none⟩ = some (.slice F9 D1.length F4) ∧ w'.cell? ⟨D0, 3, none⟩ = some (.slice G0 D2.length F5) ∧ w'.cell? ⟨D0, 4, none⟩ = some (.slice G1 D3.length F6) ∧ w'.cell? (T7.add (D5).toNat) = some (.string (iJ ByteArray.empty E4 D5))) (ds := []) #[false, false, false, false, false, false, false, false, false, false, false] (by kernel_rfl) rfl rfl ⟨(ai BK729.out 0).trans rfl, (ai BK729.out 1).trans rfl, (ai BK729.out 2).trans rfl, (ai BK729.out 3).trans rfl, (ai BK729.out 4).trans rfl, H8⟩ (fun hHeld => ?_); refine fI ag.CS ag.Bb (fun HT_ HW_ => ?_)
         generalize wr.drew = g6 at HO_5 C5 B7 C0 C1 B0 B3 B4 BK705 BK729 HB H8 hHeld ⊢
         refine pv_ 1 (some 104) ?_
         refine pv_ 2 (some 105) ?_
         refine pv_ 3 (some 106) ?_
         refine mK (i := 0) (N := some 103) hHeld ?_
         refine mK (i := 4) (N := some 107) hHeld ?_
         refine on_ (i := 5) (N := some 108) (fun K hK => ?_)
         refine jq Tryz.func10 (by kernel_rfl) rfl #[.agg #[.int .i64 E2, .int .i64 E3, .slice F9 D1.length F4, .slice G0 D2.length F5, .slice G1 D3.length F6], .string (iJ ByteArray.empty E4 D5)] (by rfl) rfl rfl dL ?_
         with_reducible refine (dK.calls k2 E2 E3 _ _ D1 _ _ D2 _ _ D3 (iJ ByteArray.empty E4 D5) true R6 _ ?side1 ?side2 ?side3 ?side4 ?side5 ?side6 d9.out).mono ?_
         (case side1 => exact (by (repeat (first | exact (Kd.aH B0.out).2.2 | (with_reducible refine Kd.dH ?_ _) | (with_reducible refine Kd.dJ ?_ _) | (with_reducible refine Kd.dX ?_))); first | done | fail))
         (case side2 => exact (Kd.aH B0.out).2.1)
         (case side3 => exact (by (repeat (first | exact (Kd.aH B3.out).2.2 | (with_reducible refine Kd.dH ?_ _) | (with_reducible refine Kd.dJ ?_ _) | (with_reducible refine Kd.dX ?_))); first | done | fail))
         (case side4 => exact (Kd.aH B3.out).2.1)
         (case side5 => exact (by (repeat (first | exact (Kd.aH B4.out).2.2 | (with_reducible refine Kd.dH ?_ _) | (with_reducible refine Kd.dJ ?_ _) | (with_reducible refine Kd.dX ?_))); first | done | fail))
         (case side6 => exact (Kd.aH B4.out).2.1)
         rintro e g7 ⟨rfl, hb⟩
         have HS5_ := (hb.cell (World.block_lt_of_cell? _ _ (hHeld.2.2.2.2.2))).trans (hHeld.2.2.2.2.2)
         refine ⟨_, rfl, ?_⟩
         replace HO_5 := rl_ HO_5 hb
         replace C5 := rl_ C5 hb
         replace B7 := rl_ B7 hb
         replace C0 := rl_ C0 hb
         replace C1 := rl_ C1 hb
         replace B0 := rl_ B0 hb
         replace B3 := rl_ B3 hb
         replace B4 := rl_ B4 hb
         replace BK705 := bb_ C4 BK705 hb
         replace BK729 := bb_ D0 BK729 hb
         replace HB := df nH hb
         (try clear hb)
         (try clear hb2)
         (try clear hk)
         (try clear hi)
         refine hK.out _ _ ⟨(ai BK729.out 0).trans rfl, (ai BK729.out 1).trans rfl, (ai BK729.out 2).trans rfl, (ai BK729.out 3).trans rfl, (ai BK729.out 4).trans rfl, HS5_⟩ (fun hHeld => ?_)
         clear hK K
         refine nm_ ?_
         refine pv_ 6 (some 102) ?_
         refine pv_ 7 (some 109) ?_
         refine pv_ 8 (some 110) ?_
         refine pv_ 9 (some 19) ?_
         refine pv_ 10 (some 20) ?_
         refine ja (gU HT_.out (by kernel_rfl)) ?_
         try go_wp2
         go_roundg k2
         case measure => have := Q1.out; have := HK2.out; omega
         case rel => exact ⟨(wrap64 (D5 + 1)), bZ, H', ⟨by have := Q1.out; have := HK2.out; omega⟩, ⟨lG⟩, ⟨by (with_reducible repeat (first | apply Kd.aC | apply Kd.aD | apply Kd.az)); exact C5.out⟩, ⟨by (with_reducible repeat (first | apply Kd.aC | apply Kd.aD | apply Kd.az)); exact B7.out⟩, ⟨by (with_reducible repeat (first | apply Kd.aC | apply Kd.aD | apply Kd.az)); exact C0.out⟩, ⟨by (with_reducible repeat (first | apply Kd.aC | apply Kd.aD | apply Kd.az)); exact C1.out⟩, ⟨by (with_reducible repeat (first | apply Kd.aC | apply Kd.aD | apply Kd.az)); exact B0.out⟩, ⟨by (with_reducible repeat (first | apply Kd.aC | apply Kd.aD | apply Kd.az)); exact B3.out⟩, ⟨by (with_reducible repeat (first | apply Kd.aC | apply Kd.aD | apply Kd.az)); exact B4.out⟩, ⟨Cb⟩, ⟨Cc⟩, ⟨nH⟩⟩
        ·replace c52 := Bool.eq_false_iff.mpr c52
         subst c52
         have H1 : (none) = some r := by rw [if_neg (show ¬ (false = true) by decide)] at H; exact H
         clear H
         have H := H1
         clear H1
         exact absurd H (by simp)
       rw [if_neg c48] at H
       have Q5 := decide_eq_false c48
       clear c48
       by_cases c56 : F0 = 0
       ·rw [if_pos c56] at H
        have Q6 : (F0 == 0) = true := beq_iff_eq.mpr c56
        have Q7 : (F0 != 0) = false := bne_eq_false_iff_eq.mpr c56
        clear c56
        obtain ⟨Q2, J0⟩ : ∃ y_ : List Int, y_ = (([] : List Int)) := ⟨_, rfl⟩
        replace H : (if Q2.length + C7.length < 17592186044416 then ((some (Q2 ++ C7 : List Int)).bind fun H6 => (if H6.length + C6.length < 17592186044416 then (ag.l1 k2 C2 (H6 ++ C6) 0) else (none))) else (none)) = some r := rh_ J0 H
        have Q8 := a_ J0
        clear J0
        replace H := ig_ H; obtain ⟨c57, H⟩ := H
        have LMc57 := a_ c57
        clear c57
        obtain ⟨H6, J1⟩ : ∃ y_ : List Int, y_ = (Q2 ++ C7) := ⟨_, rfl⟩
        replace H : (if H6.length + C6.length < 17592186044416 then (ag.l1 k2 C2 (H6 ++ C6) 0) else (none)) = some r := rh_ J1 H
        have U0 := a_ J1
        clear J1
        replace H := ig_ H; obtain ⟨c58, H⟩ := H
        have LMc58 := a_ c58
        clear c58
        obtain ⟨F7, J2⟩ : ∃ y_ : List Int, y_ = (H6 ++ C6) := ⟨_, rfl⟩
        replace H : (ag.l1 k2 C2 F7 0) = some r := rh_ J2 H
        have U1 := a_ J2
        clear J2
        have H' := a_ H
        clear H
        obtain ⟨e2, e3, W4⟩ := Kd.bg C5.out
        subst W4
        try go_wp2
        replace HO_5 := a_ (Kd.az HO_5.out)
        replace C5 := a_ (Kd.az C5.out)
        replace B7 := a_ (Kd.az B7.out)
        replace C0 := a_ (Kd.az C0.out)
        replace C1 := a_ (Kd.az C1.out)
        replace B0 := a_ (Kd.az B0.out)
        replace B3 := a_ (Kd.az B3.out)
        replace B4 := a_ (Kd.az B4.out)
        replace BK705 := a_ (bU BK705.out)
        replace BK729 := a_ (bU BK729.out)
        replace HB := a_ (aU HB.out)
        refine gQ (n := 8) (S := fun w' => w'.cell? ⟨C4, 0, none⟩ = some (.int .i64 D7) ∧ w'.cell? ⟨C4, 1, none⟩ = some (.int .i64 D8) ∧ w'.cell? ⟨C4, 2, none⟩ = some (.slice F1 C7.length E6) ∧ w'.cell? ⟨C4, 3, none⟩ = some (.slice F2 C6.length E7) ∧ w'.cell? ⟨C4, 4, none⟩ = some (.slice F3 C9.length E8)) (ds := []) #[false, false, false, false, false, false, false, false] (by kernel_rfl) rfl rfl ⟨(ai BK705.out 0).trans rfl, (ai BK705.out 1).trans rfl, (ai BK705.out 2).trans rfl, (ai BK705.out 3).trans rfl, (ai BK705.out 4).trans rfl⟩ (fun hHeld => ?_); refine fI ag.CV ag.Bd (fun HT_ HW_ => ?_)
        generalize wr.drew = g8 at HO_5 C5 B7 C0 C1 B0 B3 B4 BK705 BK729 HB hHeld ⊢
        refine pv_ 1 (some 120) ?_
        refine pv_ 4 (some 123) ?_
        refine xM (i := 2) (N := some 121) hHeld ?_
        refine xM (i := 5) (N := some 124) hHeld ?_
        refine on_ (i := 0) (N := some 119) (fun K hK => ?_)
        refine Kd.nP (Kd.int .i64) _ 2 ?hg (N := 119) ?hd (xs := ([] : List Int)) (inner := []) (ok := fun _ => True) (okp := fun _ => True) ?hr ?hp (fun _ hk => hk) trivial (Below.refl _ _) (Nat.le_refl _) (by simp) ?_; (case hd => rfl); (case hg => rfl); (case hr => first | (go_simp; done) | (go_simp; rfl)); (case hp => exact (dm.none _ _))
        intro W5 g9 ho62 hb hg_ hnew_
        clear hg_ hnew_
        (first | rw [← Q8.out] at ho62 | (simp only [Int.reduceToNat] at ho62; rw [← Q8.out] at ho62))
        replace C5 := rl_ C5 hb
        have H3 := a_ (Kd.bu (Kd.dF (Kd.dF (Kd.dF (Kd.dF (Kd.dF (Kd.dF (Kd.dF ho62 (Kd.dR (ra_ HO_5.out))) (Kd.dR (ra_ B7.out))) (Kd.dR (ra_ C0.out))) (Kd.dR (ra_ C1.out))) (Kd.dR (ra_ B0.out))) (Kd.dR (ra_ B3.out))) (Kd.dR (ra_ B4.out))) (af nH))
        replace HO_5 := a_ (Kd.bB (ra_ HO_5.out) (Kd.bN ho62) hb)
        replace B7 := a_ (Kd.bB (ra_ B7.out) (Kd.bN ho62) hb)
        replace C0 := a_ (Kd.bB (ra_ C0.out) (Kd.bN ho62) hb)
        replace C1 := a_ (Kd.bB (ra_ C1.out) (Kd.bN ho62) hb)
        replace B0 := a_ (Kd.bB (ra_ B0.out) (Kd.bN ho62) hb)
        replace B3 := a_ (Kd.bB (ra_ B3.out) (Kd.bN ho62) hb)
        replace B4 := a_ (Kd.bB (ra_ B4.out) (Kd.bN ho62) hb)
        replace BK705 := bb_ C4 BK705 hb
        replace BK729 := bb_ D0 BK729 hb
        replace HB := df nH hb
        clear hb ho62
        refine hK.out _ _ ⟨(ai BK705.out 0).trans rfl, (ai BK705.out 1).trans rfl, (ai BK705.out 2).trans rfl, (ai BK705.out 3).trans rfl, (ai BK705.out 4).trans rfl⟩ (fun hHeld => ?_)
        clear hK K
        refine nm_ ?_
        refine on_ (i := 3) (N := some 122) (fun K hK => ?_)
        refine Kd.iD (Kd.int .i64) (w0 := w) w.heap.size (by rfl) (.tmp 119) (.tmp 121) 22 2 (.int .i64 0) 8 rfl Tryz.underlying22 jc rfl (by decide) (by omega) W5 Q2 C7 _ _ _ (fun k_ => some k_ ≠ (I8 : Value).ownBlock ∧ nb_ k_ F1 C7.length E6 ∧ nb_ k_ F2 C6.length E7 ∧ nb_ k_ F3 C9.length E8 ∧ nb_ k_ F9 D1.length F4 ∧ nb_ k_ G0 D2.length F5 ∧ nb_ k_ G1 D3.length F6) (fun _ => False) rfl rfl ?aO ?aR (fun _ _ h => h) (fun _ h => h.elim) ?aF ?aB ?aS ?aL ?_
        (case aR => repeat (first | exact (Kd.aH B7.out).2.2 | (with_reducible refine Kd.dH ?_ _) | (with_reducible refine Kd.dJ ?_ _) | (with_reducible refine Kd.dX ?_)))
        (case aB => exact nH)
        (case aF => exact (fun k_ hk => ⟨Kd.fe (Kd.dR (ra_ HO_5.out)) k_ hk, Kd.fe (Kd.dR (ra_ B7.out)) k_ hk, Kd.fe (Kd.dR (ra_ C0.out)) k_ hk, Kd.fe (Kd.dR (ra_ C1.out)) k_ hk, Kd.fe (Kd.dR (ra_ B0.out)) k_ hk, Kd.fe (Kd.dR (ra_ B3.out)) k_ hk, Kd.fe (Kd.dR (ra_ B4.out)) k_ hk⟩))
        (case aO => exact (rc_ (h := by exact Kd.ae H3.out (fun _ hk => ⟨hk.1.1.1.1.1.1.2, ⟨hk.1.1.1.1.1.2, ⟨hk.1.1.1.1.2, ⟨hk.1.1.1.2, ⟨hk.1.1.2, ⟨hk.1.2, hk.2⟩⟩⟩⟩⟩⟩))))
        (case aS => exact (af nH))
        (case aL => have := LMc57.out; omega)
        intro W6 h2 ho hb hg hat
        rw [← U0.out] at ho
        replace HO_5 := a_ (Kd.dn (ok := (fun _ => True)) (ra_ HO_5.out) hg hat)
        replace C5 := a_ (Kd.iH (ra_ C5.out) (Kd.fV (ra_ H3.out)) (by decide) hg)
        replace B7 := a_ (Kd.dn (ok := (fun _ => True)) (ra_ B7.out) hg hat)
        replace C0 := a_ (Kd.dn (ok := (fun _ => True)) (ra_ C0.out) hg hat)
        replace C1 := a_ (Kd.dn (ok := (fun _ => True)) (ra_ C1.out) hg hat)
        replace B0 := a_ (Kd.dn (ok := (fun _ => True)) (ra_ B0.out) hg hat)
        replace B3 := a_ (Kd.dn (ok := (fun _ => True)) (ra_ B3.out) hg hat)
        replace B4 := a_ (Kd.dn (ok := (fun _ => True)) (ra_ B4.out) hg hat)
        replace BK705 := a_ (dA (g := C4) (rb_ BK705.out) hg (Kd.gp H3.out BK705.out (by decide)))
        replace BK729 := a_ (dA (g := D0) (rb_ BK729.out) hg (Kd.gp H3.out BK729.out (by decide)))
        replace HB := a_ (hb)
        have H4 := a_ (ho)
        clear H3
        clear ho hb hg hat
        refine hK.out _ _ ⟨(ai BK705.out 0).trans rfl, (ai BK705.out 1).trans rfl, (ai BK705.out 2).trans rfl, (ai BK705.out 3).trans rfl, (ai BK705.out 4).trans rfl⟩ (fun hHeld => ?_)
        clear hK K
        refine nm_ ?_
        refine on_ (i := 6) (N := some 125) (fun K hK => ?_)
        refine Kd.iD (Kd.int .i64) (w0 := w) w.heap.size (by rfl) (.tmp 122) (.tmp 124) 22 2 (.int .i64 0) 8 rfl Tryz.underlying22 jc rfl (by decide) (by omega) W6 H6 C6 _ _ _ (fun k_ => some k_ ≠ (I8 : Value).ownBlock ∧ nb_ k_ F1 C7.length E6 ∧ nb_ k_ F2 C6.length E7 ∧ nb_ k_ F3 C9.length E8 ∧ nb_ k_ F9 D1.length F4 ∧ nb_ k_ G0 D2.length F5 ∧ nb_ k_ G1 D3.length F6) (fun _ => False) rfl rfl ?aO ?aR (fun _ _ h => h) (fun _ h => h.elim) ?aF ?aB ?aS ?aL ?_
        (case aR => repeat (first | exact (Kd.aH C0.out).2.2 | (with_reducible refine Kd.dH ?_ _) | (with_reducible refine Kd.dJ ?_ _) | (with_reducible refine Kd.dX ?_)))
        (case aB => exact nH)
        (case aF => exact (fun k_ hk => ⟨Kd.fe (Kd.dR (ra_ HO_5.out)) k_ hk, Kd.fe (Kd.dR (ra_ B7.out)) k_ hk, Kd.fe (Kd.dR (ra_ C0.out)) k_ hk, Kd.fe (Kd.dR (ra_ C1.out)) k_ hk, Kd.fe (Kd.dR (ra_ B0.out)) k_ hk, Kd.fe (Kd.dR (ra_ B3.out)) k_ hk, Kd.fe (Kd.dR (ra_ B4.out)) k_ hk⟩))
        (case aO => exact (ra_ H4.out))
        (case aS => exact (af nH))
        (case aL => have := LMc58.out; omega)
        intro W7 h3 ho hb hg hat
        rw [← U1.out] at ho
        replace HO_5 := a_ (Kd.dn (ok := (fun _ => True)) (ra_ HO_5.out) hg hat)
        replace C5 := a_ (Kd.iH (ra_ C5.out) (Kd.fV (ra_ H4.out)) (by decide) hg)
        replace B7 := a_ (Kd.dn (ok := (fun _ => True)) (ra_ B7.out) hg hat)
        replace C0 := a_ (Kd.dn (ok := (fun _ => True)) (ra_ C0.out) hg hat)
        replace C1 := a_ (Kd.dn (ok := (fun _ => True)) (ra_ C1.out) hg hat)
        replace B0 := a_ (Kd.dn (ok := (fun _ => True)) (ra_ B0.out) hg hat)
        replace B3 := a_ (Kd.dn (ok := (fun _ => True)) (ra_ B3.out) hg hat)
        replace B4 := a_ (Kd.dn (ok := (fun _ => True)) (ra_ B4.out) hg hat)
        replace BK705 := a_ (dA (g := C4) (rb_ BK705.out) hg (Kd.gp H4.out BK705.out (by decide)))
        replace BK729 := a_ (dA (g := D0) (rb_ BK729.out) hg (Kd.gp H4.out BK729.out (by decide)))
        replace HB := a_ (hb)
        have U2 := a_ (ho)
        clear H4
        clear ho hb hg hat
        refine hK.out _ _ ⟨(ai BK705.out 0).trans rfl, (ai BK705.out 1).trans rfl, (ai BK705.out 2).trans rfl, (ai BK705.out 3).trans rfl, (ai BK705.out 4).trans rfl⟩ (fun hHeld => ?_)
        clear hK K
        refine nm_ ?_
        refine pv_ 7 (some 21) ?_
        refine ja (gU HT_.out (by kernel_rfl)) ?_
        try go_wp2
        go_loopg [22] k2 (fun kq v22 w' => ∃ (A1 : Int), v22 = .int .i64 A1 ∧ ah (ag.l1 kq C2 F7 A1 = some r) ∧ ah (kq ≤ k2) ∧ ah (Kd.R (Kd.int .i64) 2 w' w.heap.size (fun _ => True) I8 C2) ∧ ah (Kd.R (Kd.int .i64) 2 w' w.heap.size (fun _ => True) W7 F7) ∧ ah (Below w.heap.size w w'))
        case atStart => exact ⟨(0), bZ, H', ⟨Nat.le_refl _⟩, ⟨Ac⟩, ⟨by (with_reducible repeat (first | apply Kd.aC | apply Kd.aD | apply Kd.az)); exact Kd.ae U2.out (fun _ hk => trivial)⟩, ⟨nH⟩⟩
        case round =>
         clear H'
         try clear Q5; try clear Q6; try clear Q7
         (try clear HO_5); (try clear E9)
         obtain ⟨A1, rfl, HA, HK3, HO_5, E9, HB⟩ := hrel
         cases gk with
         | zero => exact absurd HA.out (by simp [ag.l1])
         | succ k3 =>
          have H := HA.out
          clear HA
          simp only [ag.l1] at H
          by_cases c65 : A1 < (C2.length : Int)
          ·rw [if_pos c65] at H
           have U3 := decide_eq_true c65
           clear c65
           replace H := ig_ H; obtain ⟨c66, H⟩ := H
           have Z3 := decide_eq_true c66
           clear c66
           obtain ⟨Q3, H9⟩ : ∃ j_ : Int, (mx (rd C2 A1) (wrap64 (-(rd C2 A1)))) = j_ := ⟨_, rfl⟩
           replace H : ((cu.f k3 F7 (Q3)).bind fun R9 => (if R9 = true then (if A1 ≤ (C2.length : Int) then ((cu.f k3 (C2.take (A1 : Int).toNat) (rd C2 A1)).bind fun H7 => (if H7 = true then (none) else ((cu.f k3 (C2.take (A1 : Int).toNat) (wrap64 (-(rd C2 A1)))).bind fun G2 => (if G2 = true then (none) else (ag.l1 k3 C2 F7 (wrap64 (A1 + 1))))))) else (none)) else (none))) = some r := by first | (rw [H9] at H; exact H) | (simp only [H9] at H ⊢; exact H)
           have hji67_ : (if (rd C2 A1) < (wrap64 (-(rd C2 A1))) then (wrap64 (-(rd C2 A1))) else (rd C2 A1)) = Q3 := H9
           replace H := bo_ H; obtain ⟨R9, e4, H⟩ := H; (try dsimp only at H)
           by_cases c69 : R9 = true
           ·subst c69
            have H1 : (if A1 ≤ (C2.length : Int) then ((cu.f k3 (C2.take (A1 : Int).toNat) (rd C2 A1)).bind fun H7 => (if H7 = true then (none) else ((cu.f k3 (C2.take (A1 : Int).toNat) (wrap64 (-(rd C2 A1)))).bind fun G2 => (if G2 = true then (none) else (ag.l1 k3 C2 F7 (wrap64 (A1 + 1))))))) else (none)) = some r := by rw [if_pos rfl] at H; exact H
            clear H
            have H := H1
            clear H1
            have Z4 := eq_true (of_decide_eq_true aG : 0 ≤ A1)
            replace H := ig_ H; obtain ⟨c71, H⟩ := H
            have Z5 := eq_true c71
            have Z6 := decide_eq_true c71
            clear c71
            obtain ⟨J3, J4⟩ : ∃ y_ : List Int, y_ = (C2.take (A1 : Int).toNat) := ⟨_, rfl⟩
            replace H : ((cu.f k3 J3 (rd C2 A1)).bind fun H7 => (if H7 = true then (none) else ((cu.f k3 (C2.take (A1 : Int).toNat) (wrap64 (-(rd C2 A1)))).bind fun G2 => (if G2 = true then (none) else (ag.l1 k3 C2 F7 (wrap64 (A1 + 1))))))) = some r := rh_ J4 H
            have Q9 := a_ J4
            clear J4
            replace H := bo_ H; obtain ⟨H7, e5, H⟩ := H; (try dsimp only at H)
            by_cases c73 : H7 = true
            ·subst c73
             have H1 : (none) = some r := by rw [if_pos rfl] at H; exact H
             clear H
             have H := H1
             clear H1
             exact absurd H (by simp)
            ·replace c73 := Bool.eq_false_iff.mpr c73
             subst c73
             have H1 : ((cu.f k3 (C2.take (A1 : Int).toNat) (wrap64 (-(rd C2 A1)))).bind fun G2 => (if G2 = true then (none) else (ag.l1 k3 C2 F7 (wrap64 (A1 + 1))))) = some r := by rw [if_neg (show ¬ (false = true) by decide)] at H; exact H
             clear H
             have H := H1
             clear H1
             have Z7 := eq_true (of_decide_eq_true aG : 0 ≤ A1)
             have Z8 := eq_true (of_decide_eq_true aG : A1 ≤ (C2.length : Int))
             obtain ⟨J5, J6⟩ : ∃ y_ : List Int, y_ = (C2.take (A1 : Int).toNat) := ⟨_, rfl⟩
             replace H : ((cu.f k3 J5 (wrap64 (-(rd C2 A1)))).bind fun G2 => (if G2 = true then (none) else (ag.l1 k3 C2 F7 (wrap64 (A1 + 1))))) = some r := rh_ J6 H
             have R0 := a_ J6
             clear J6
             replace H := bo_ H; obtain ⟨G2, e6, H⟩ := H; (try dsimp only at H)
             by_cases c77 : G2 = true
             ·subst c77
              have H1 : (none) = some r := by rw [if_pos rfl] at H; exact H
              clear H
              have H := H1
              clear H1
              exact absurd H (by simp)
             ·replace c77 := Bool.eq_false_iff.mpr c77
              subst c77
              have H1 : (ag.l1 k3 C2 F7 (wrap64 (A1 + 1))) = some r := by rw [if_neg (show ¬ (false = true) by decide)] at H; exact H
              clear H
              have H := H1
              clear H1
              have H' := a_ H
              clear H
              obtain ⟨e7, H5, W8⟩ := Kd.bg HO_5.out
              subst W8
              try go_wp2
              replace HO_5 := a_ (Kd.az HO_5.out)
              replace E9 := a_ (Kd.az E9.out)
              replace HB := a_ (aU HB.out)
              have S0 : 0 ≤ (A1 : Int) := of_decide_eq_true aG
              have S1 : A1 < (C2.length : Int) := of_decide_eq_true aG
              obtain ⟨D6, W9, I0⟩ := Kd.dM (Kd.aH HO_5.out).2.2 A1 S0 S1
              cases W9
              replace S0 := eq_true S0
              replace S1 := eq_true S1
              have S2 : 0 ≤ (A1 : Int) := of_decide_eq_true aG
              have S3 : A1 < (C2.length : Int) := of_decide_eq_true aG
              obtain ⟨U4, X0, I1⟩ := Kd.dM (Kd.aH HO_5.out).2.2 A1 S2 S3
              obtain rfl : D6 = U4 := (by injection X0)
              replace S2 := eq_true S2
              replace S3 := eq_true S3
              obtain ⟨X1, X2, S4⟩ := Kd.bg E9.out
              (first | subst S4 | (injection S4.symm with f1_ f2_ f3_; clear f2_ S4; subst f1_ f3_))
              have S5 : 0 ≤ (A1 : Int) := of_decide_eq_true aG
              have S6 : A1 < (C2.length : Int) := of_decide_eq_true aG
              obtain ⟨U5, X3, I2⟩ := Kd.dM (Kd.aH HO_5.out).2.2 A1 S5 S6
              obtain rfl : D6 = U5 := (by injection X3)
              replace S5 := eq_true S5
              replace S6 := eq_true S6
              have S7 : 0 ≤ (A1 : Int) := of_decide_eq_true aG
              have S8 : A1 < (C2.length : Int) := of_decide_eq_true aG
              obtain ⟨U6, X4, I3⟩ := Kd.dM (Kd.aH HO_5.out).2.2 A1 S7 S8
              obtain rfl : D6 = U6 := (by injection X4)
              replace S7 := eq_true S7
              replace S8 := eq_true S8
              refine gQ (n := 34) (S := fun w' => w'.cell? (D6.add (A1).toNat) = some (.int .i64 (rd C2 A1)) ∧ w'.cell? (D6.add (A1).toNat) = some (.int .i64 (rd C2 A1)) ∧ w'.cell? (D6.add (A1).toNat) = some (.int .i64 (rd C2 A1)) ∧ w'.cell? (D6.add (A1).toNat) = some (.int .i64 (rd C2 A1))) (ds := []) #[false, false, false, false, false, false, false, false, false, false, false, false, false, false, false, false, false, false, false, false, false, false, false, false, false, false, false, false, false, false, false, false, false, false] (by kernel_rfl) rfl rfl ⟨I0, I1, I2, I3⟩ (fun hHeld => ?_); refine fI ag.CW ag.Be (fun HT_ HW_ => ?_)
              generalize wr.drew = h4 at HO_5 E9 HB I0 I1 I2 I3 hHeld ⊢
              refine pv_ 0 (some 132) ?_
              refine pv_ 1 (some 133) ?_
              refine pv_ 2 (some 134) ?_
              refine pv_ 3 (some 135) ?_
              refine pv_ 5 (some 137) ?_
              refine pv_ 6 (some 138) ?_
              refine pv_ 7 (some 139) ?_
              refine mf 4 (some 136) hHeld ?_
              refine mf 8 (some 140) hHeld ?_
              refine pv_ 9 (some 141) ?_
              refine pv_ 10 (some 142) ?_
              refine on_ (i := 11) (N := some 143) (fun K hK => ?_)
              refine jq Tryz.func30 (by kernel_rfl) rfl #[.slice X1 F7.length X2, .int .i64 Q3] (by rfl) rfl rfl (by (try simp only [List.map_toArray, List.map_cons, List.map_nil]); first | done | (simp only [H9]; rfl) | rfl | (simp only [List.length_drop, List.length_take]; rfl)) ?_
              with_reducible refine (cu.calls k3 _ _ F7 Q3 true _ ?side1 ?side2 e4.out).mono ?_
              (case side1 => exact (by (repeat (first | exact (Kd.aH E9.out).2.2 | (with_reducible refine Kd.dH ?_ _) | (with_reducible refine Kd.dJ ?_ _) | (with_reducible refine Kd.dX ?_))); first | done | fail))
              (case side2 => exact (Kd.aH E9.out).2.1)
              rintro e w' ⟨rfl, ⟨nd, rfl⟩⟩
              refine ⟨_, rfl, ?_⟩
              have X5 : (A1 : Int) ≤ ((C2.length : Int) : Int) := of_decide_eq_true aG
              obtain ⟨i081, hi081, _, hsz81, _⟩ := info_parts jc
              have hroom81 : C2.length ≤ H5 := (Kd.aH HO_5.out).2.1
              have hC81 : Kd.C (Kd.int .i64) _ (some D6) C2.length C2 := (Kd.aH HO_5.out).2.2
              have hcut81 := uj (P := Tryz.prog) 22 2 .i64 Tryz.underlying22 hi081 (some D6) C2.length H5 A1 (of_decide_eq_true aG) X5 hroom81
              have hr81 := Kd.tT (m := (A1 : Int).toNat) hC81 (by omega)
              have S9 : J3.length = (A1 : Int).toNat := (by rw [Q9.out, List.length_take]; omega)
              rw [← Q9.out] at hr81
              rw [← S9] at hcut81
              have HR758 := a_ hr81
              have U7 := a_ (show J3.length ≤ H5 from by omega)
              clear hr81 hC81 hroom81 hi081 hsz81
              have KY81 := a_ S9
              clear S9
              have KL81 := a_ (show (A1 : Int).toNat ≤ C2.length from by omega)
              replace X5 := eq_true X5
              refine hK.out _ _ ⟨hHeld.1, hHeld.2.1, hHeld.2.2.1, hHeld.2.2.2⟩ (fun hHeld => ?_)
              clear hK K
              refine nm_ ?_
              refine pv_ 12 (some 144) ?_
              refine pv_ 13 (some 145) ?_
              refine pv_ 14 (some 146) ?_
              refine pv_ 15 (some 147) ?_
              refine pv_ 16 (some 148) ?_
              refine pv_ 17 (some 149) ?_
              refine pv_ 18 (some 150) ?_
              refine pv_ 19 (some 151) ?_
              refine mf 20 (some 152) hHeld ?_
              refine on_ (i := 21) (N := some 153) (fun K hK => ?_)
              refine jq Tryz.func30 (by kernel_rfl) rfl #[.slice (some D6) J3.length H5, .int .i64 (rd C2 A1)] (by rfl) rfl rfl dL ?_
              with_reducible refine (cu.calls k3 _ _ J3 (rd C2 A1) false _ ?side1 ?side2 e5.out).mono ?_
              (case side1 => exact (by (repeat (first | exact (by repeat (first | (with_reducible exact HR758.out) | (with_reducible refine Kd.dH ?_ _) | (with_reducible refine Kd.dJ ?_ _) | (with_reducible refine Kd.dX ?_) | exact HR758.out)) | (with_reducible refine Kd.dH ?_ _) | (with_reducible refine Kd.dJ ?_ _) | (with_reducible refine Kd.dX ?_))); first | done | fail))
              (case side2 => exact U7.out)
              rintro e w' ⟨rfl, ⟨nd, rfl⟩⟩
              refine ⟨_, rfl, ?_⟩
              have X6 : (A1 : Int) ≤ ((C2.length : Int) : Int) := of_decide_eq_true aG
              obtain ⟨i082, hi082, _, hsz82, _⟩ := info_parts jc
              have hroom82 : C2.length ≤ H5 := (Kd.aH HO_5.out).2.1
              have hC82 : Kd.C (Kd.int .i64) _ (some D6) C2.length C2 := (Kd.aH HO_5.out).2.2
              have hcut82 := uj (P := Tryz.prog) 22 2 .i64 Tryz.underlying22 hi082 (some D6) C2.length H5 A1 (of_decide_eq_true aG) X6 hroom82
              have hr82 := Kd.tT (m := (A1 : Int).toNat) hC82 (by omega)
              have T0 : J5.length = (A1 : Int).toNat := (by rw [R0.out, List.length_take]; omega)
              rw [← R0.out] at hr82
              rw [← T0] at hcut82
              have HR764 := a_ hr82
              have U8 := a_ (show J5.length ≤ H5 from by omega)
              clear hr82 hC82 hroom82 hi082 hsz82
              have KY82 := a_ T0
              clear T0
              have KL82 := a_ (show (A1 : Int).toNat ≤ C2.length from by omega)
              replace X6 := eq_true X6
              refine hK.out _ _ ⟨hHeld.1, hHeld.2.1, hHeld.2.2.1, hHeld.2.2.2⟩ (fun hHeld => ?_)
              clear hK K
              refine nm_ ?_
              refine pv_ 22 (some 154) ?_
              refine pv_ 23 (some 155) ?_
              refine pv_ 24 (some 156) ?_
              refine pv_ 25 (some 157) ?_
              refine pv_ 26 (some 158) ?_
              refine pv_ 27 (some 159) ?_
              refine pv_ 28 (some 160) ?_
              refine pv_ 29 (some 161) ?_
              refine mf 30 (some 162) hHeld ?_
              refine pv_ 31 (some 163) ?_
              refine on_ (i := 32) (N := some 164) (fun K hK => ?_)
              refine jq Tryz.func30 (by kernel_rfl) rfl #[.slice (some D6) J5.length H5, .int .i64 (wrap64 (-(rd C2 A1)))] (by rfl) rfl rfl (by simp [Act.eval, Array.getD_eq_getD_getElem?]; exact KY81.out.trans KY82.out.symm) ?_
              with_reducible refine (cu.calls k3 _ _ J5 (wrap64 (-(rd C2 A1))) false _ ?side1 ?side2 e6.out).mono ?_
              (case side1 => exact (by (repeat (first | exact (by repeat (first | (with_reducible exact HR764.out) | (with_reducible refine Kd.dH ?_ _) | (with_reducible refine Kd.dJ ?_ _) | (with_reducible refine Kd.dX ?_) | exact HR764.out)) | (with_reducible refine Kd.dH ?_ _) | (with_reducible refine Kd.dJ ?_ _) | (with_reducible refine Kd.dX ?_))); first | done | fail))
              (case side2 => exact U8.out)
              rintro e w' ⟨rfl, ⟨nd, rfl⟩⟩
              refine ⟨_, rfl, ?_⟩
              refine hK.out _ _ ⟨hHeld.1, hHeld.2.1, hHeld.2.2.1, hHeld.2.2.2⟩ (fun hHeld => ?_)
              clear hK K
              refine nm_ ?_
              refine pv_ 33 (some 165) ?_
              refine ja (gU HT_.out (by kernel_rfl)) ?_
              try go_wp2
              go_roundg k3
              case measure => have := Q1.out; have := HK2.out; have := HK3.out; omega
              case rel => exact ⟨(wrap64 (A1 + 1)), bZ, H', ⟨by have := Q1.out; have := HK2.out; have := HK3.out; omega⟩, ⟨lG⟩, ⟨by (with_reducible repeat (first | apply Kd.aC | apply Kd.aD | apply Kd.az)); exact E9.out⟩, ⟨bO⟩⟩
           ·replace c69 := Bool.eq_false_iff.mpr c69
            subst c69
            have H1 : (none) = some r := by rw [if_neg (show ¬ (false = true) by decide)] at H; exact H
            clear H
            have H := H1
            clear H1
            exact absurd H (by simp)
          rw [if_neg c65] at H
          have U3 := decide_eq_false c65
          clear c65
          obtain rfl := Option.some.inj H
          obtain ⟨e8, e9, X7⟩ := Kd.bg HO_5.out
          subst X7
          obtain ⟨f4, f7, X8⟩ := Kd.bg E9.out
          subst X8
          go_wp2
          go_ret
          exact ⟨fO, bO⟩
       rw [if_neg c56] at H
       have Q6 : (F0 == 0) = false := beq_eq_false_iff_ne.mpr c56
       have Q7 : (F0 != 0) = true := bne_iff_ne.mpr c56
       obtain rfl := Option.some.inj H
       obtain ⟨f9, g1, X9⟩ := Kd.bg C5.out
       subst X9
       go_wp2
       go_ret
       exact ⟨fO, nH⟩
def ag.Pure : Prop := ∀ (l0 : List Int), l0.length ≤ maxLen → l0.length * 1 ≤ 140737488351232 → (∀ x ∈ l0, (Lit.int .u8 x).wf = true) → ∃ k, ag.f k l0 = some true
theorem ag.walk (P : ag.Pure) (a0 : Option Addr) (len0 cap0 : Nat) (z0 : List Int) (w : World) (w0 : (a0 = none ∧ len0 = 0 ∧ cap0 = 0 ∧ z0 = []) ∨ ∃ x, a0 = some x ∧ len0 ≤ cap0 ∧ cap0 ≤ maxLen ∧ z0.length = cap0 ∧ (∀ i, i < z0.length → w.cell? (x.add i) = some (.int .u8 (z0.getD i 0))) ∧ ∀ n ∈ z0, (Lit.int .u8 n).wf = true) (y0 : len0 * 1 ≤ 140737488351232) :
  Calls Tryz.prog 5 #[.slice a0 len0 cap0] w fun e w' => e = .returned (.bool true) ∧ Below w.heap.size w w' := by
 obtain ⟨l0, rfl, hr0, hm0, hw0, hc0⟩ := fK.Bi w0
 obtain ⟨k, h⟩ := P l0 hm0 y0 hw0
 refine (ag.calls k _ _ l0 true w (Kd.vT (d := (0 : Int)) (h1 := fun _ => rfl) hr0) hc0 h).mono ?_
 rintro e w' ⟨rfl, hd⟩
 exact ⟨rfl, hd⟩
end Go.Proofs.YtkpidjmhdagkfaaGreatDoor.QFnReadForms
