-- Written by own_print.py of this session's repo over the kit's print (its output, turned at some places).
import Derived.Test.YtkpidjmhdagkfaaGreatDoorQFnReadFormsx0
import Derived.Test.YtkpidjmhdagkfaaGreatDoorQFnReadFormsx1
import Derived.Test.YtkpidjmhdagkfaaGreatDoorQFnReadFormsx4
import Derived.Test.YtkpidjmhdagkfaaGreatDoorQFnReadFormsx11
namespace Go.Proofs.YtkpidjmhdagkfaaGreatDoor.QFnReadForms
open Go.RowKit Go.Proofs.YtkpidjmhdagkfaaGreatDoorW.PrintWords Go.Proofs.YtkpidjmhdagkfaaGreatDoorW.PrintLast Go.Proofs.YtkpidjmhdagkfaaGreatDoorW.PrintMore
attribute [local go_sem] ik iq iR iT gD gF il iw
set_option maxHeartbeats 8000000
set_option maxRecDepth 100000
set_option linter.unusedVariables false
set_option linter.unusedSimpArgs false
def bz.l0 : Nat → List ByteArray → List ByteArray → Int → Int → Int → List Int → List Int → List Int → Option (List ByteArray × Int)
 | 0, _, _, _, _, _, _, _, _ => none
 | k + 1, x4, x5, x6, x674000, x674001, x674002, x674003, x674004 => if x6 < (x4.length : Int) then (if 0 ≤ x6 then ((bX.f k x674000 x674001 x674002 x674003 x674004 (iJ ByteArray.empty x4 x6)).bind fun t682 => (if t682 = true then (if x5.length < 8796093022208 then (bz.l0 k x4 (x5 ++ [iJ ByteArray.empty x4 x6]) (wrap64 (x6 + 1)) x674000 x674001 x674002 x674003 x674004) else (none)) else (bz.l0 k x4 x5 (wrap64 (x6 + 1)) x674000 x674001 x674002 x674003 x674004))) else (none)) else (some (x5, 0))
def bz.f (k : Nat) (a0_0 : Int) (a0_1 : Int) (l0_2 : List Int) (l0_3 : List Int) (l0_4 : List Int) : Option (List ByteArray × Int) := (aM.f k a0_0 a0_1 l0_2 l0_3 l0_4).bind fun t674 => (if t674 = true then ((eP.f k a0_0 a0_1).bind fun t675 => (bz.l0 k t675 (([] : List ByteArray)) 0 a0_0 a0_1 l0_2 l0_3 l0_4)) else (some (([] : List ByteArray), 1)))
theorem bz.di : ∀ k, (∀ y0 y1 y2 y3 y4 y5 y6 y7, LeO (bz.l0 k y0 y1 y2 y3 y4 y5 y6 y7) (bz.l0 (k + 1) y0 y1 y2 y3 y4 y5 y6 y7))
 | 0 => fun _ _ _ _ _ _ _ _ r h => by simp [bz.l0] at h
 | k + 1 => by
  have ih0 := bz.di k
  ·intro y0 y1 y2 y3 y4 y5 y6 y7
   unfold bz.l0
   repeat' first | (with_reducible first | exact ih0 .. | exact aM.mono .. | exact eP.mono .. | exact bX.mono .. | exact LeO.refl .. | exact LeO.none .. | refine LeO.ite ?_ ?_ | refine LeO.bind ?_ (fun _ => ?_))
theorem bz.mono : ∀ a0 a1 a2 a3 a4 k, LeO (bz.f k a0 a1 a2 a3 a4) (bz.f (k + 1) a0 a1 a2 a3 a4) := by
 intro a0 a1 a2 a3 a4 k
 have ih0 := bz.di k
 unfold bz.f
 repeat' first | (with_reducible first | exact ih0 .. | exact aM.mono .. | exact eP.mono .. | exact bX.mono .. | exact LeO.refl .. | exact LeO.none .. | refine LeO.ite ?_ ?_ | refine LeO.bind ?_ (fun _ => ?_))
theorem bz.calls (k : Nat) (a0_0 : Int) (a0_1 : Int) (A8 : Option Addr) (A9 : Nat) (l0_2 : List Int) (B0 : Option Addr) (B3 : Nat) (l0_3 : List Int) (B4 : Option Addr) (B7 : Nat) (l0_4 : List Int) (r1 : List ByteArray) (r2 : Int) (w : World) (hr0_2 : Kd.C (Kd.int .i64) w A8 l0_2.length l0_2) (hc0_2 : l0_2.length ≤ A9) (hr0_3 : Kd.C (Kd.int .i64) w B0 l0_3.length l0_3) (hc0_3 : l0_3.length ≤ B3) (hr0_4 : Kd.C (Kd.int .i64) w B4 l0_4.length l0_4) (hc0_4 : l0_4.length ≤ B7) (h : bz.f k a0_0 a0_1 l0_2 l0_3 l0_4 = some (r1, r2)) :
  Calls Tryz.prog 27 #[.agg #[.int .i64 a0_0, .int .i64 a0_1, .slice A8 l0_2.length A9, .slice B0 l0_3.length B3, .slice B4 l0_4.length B7]] w fun e w' => ∃ v0_ : Value, e = .returned (.tuple #[v0_, .int .i64 r2]) ∧ Kd.R Kd.string 9 w' w.heap.size (fun _ => True) v0_ r1 ∧ Below w.heap.size w w' := by
 have hu28 := Tryz.underlying28
 have C4 := a_ hr0_2
 have C5 := a_ hc0_2
 clear hr0_2 hc0_2
 have C6 := a_ hr0_3
 have C7 := a_ hc0_3
 clear hr0_3 hc0_3
 have HR0_4 := a_ hr0_4
 have C8 := a_ hc0_4
 clear hr0_4 hc0_4
 have HB := a_ (Below.refl w.heap.size w)
 have H : ((aM.f k a0_0 a0_1 l0_2 l0_3 l0_4).bind fun D3 => (if D3 = true then ((eP.f k a0_0 a0_1).bind fun A5 => (bz.l0 k A5 (([] : List ByteArray)) 0 a0_0 a0_1 l0_2 l0_3 l0_4)) else (some (([] : List ByteArray), 1)))) = some (r1, r2) := h
 clear h
 replace H := bo_ H; obtain ⟨D3, A2, H⟩ := H; (try dsimp only at H)
 by_cases c3 : D3 = true
 ·subst c3
  have H1 : ((eP.f k a0_0 a0_1).bind fun A5 => (bz.l0 k A5 (([] : List ByteArray)) 0 a0_0 a0_1 l0_2 l0_3 l0_4)) = some (r1, r2) := by rw [if_pos rfl] at H; exact H
  clear H
  have H := H1
  clear H1
  replace H := bo_ H; obtain ⟨A5, A4, H⟩ := H; (try dsimp only at H)
  obtain ⟨F7, D0⟩ : ∃ y_ : List ByteArray, y_ = (([] : List ByteArray)) := ⟨_, rfl⟩
  replace H : (bz.l0 k A5 F7 0 a0_0 a0_1 l0_2 l0_3 l0_4) = some (r1, r2) := rh_ D0 H
  have D2 := a_ D0
  clear D0
  have H' := a_ H
  clear H
  go_enter Tryz.func27, Tryz.ntmps27
  go_wp2_with (first | ((with_reducible refine bf (N := 1) rfl ?_); refine cz ?hg (N := 1) ?hd (cs := #[.int .i64 a0_0, .int .i64 a0_1, .slice A8 l0_2.length A9, .slice B0 l0_3.length B3, .slice B4 l0_4.length B7]) (t := 28) ?hr ?_; (case hd => rfl); (case hg => rfl); (case hr => first | (go_simp; done) | (go_simp; rfl)); intro A1 hg w5 hbox hb; have BK673 := a_ (hbox); have F8 := a_ ((fG : w.heap.size ≤ A1)); have GE673 := a_ ((fG : w.heap.size ≤ A1)); replace HB := df bO hb; clear hb hbox hg; obtain ⟨D4, D5, D6, D7, D8, D9, E0, E1, E2, E3⟩ := eH (w := w5) BK673.out) | ((with_reducible refine av (f := 21) rfl ?_); refine bI (some 8) rfl rfl Tryz.func21 (by kernel_rfl) rfl #[.agg #[.int .i64 a0_0, .int .i64 a0_1, .slice A8 l0_2.length A9, .slice B0 l0_3.length B3, .slice B4 l0_4.length B7]] rfl dL ?_; (with_reducible refine (aM.calls k a0_0 a0_1 _ _ l0_2 _ _ l0_3 _ _ l0_4 true _ ?side1 ?side2 ?side3 ?side4 ?side5 ?side6 A2.out).mono ?_); (case side1 => exact kc_ (Kd.bE C4.out HB.out)); (case side2 => exact C5.out); (case side3 => exact kc_ (Kd.bE C6.out HB.out)); (case side4 => exact C7.out); (case side5 => exact kc_ (Kd.bE HR0_4.out HB.out)); (case side6 => exact C8.out); rintro e w7 ⟨rfl, hb⟩; refine ⟨_, rfl, ?_⟩; replace BK673 := bb_ A1 BK673 hb; replace HB := df oo hb; (try clear hb); obtain ⟨E4, E5, E6, E7, E8, E9, F0, F1, F2, F3⟩ := eH (w := w7) BK673.out) | ((with_reducible refine av (f := 71) rfl ?_); refine bI (some 14) rfl rfl Tryz.func71 (by kernel_rfl) rfl #[.int .i64 a0_0, .int .i64 a0_1] rfl dL ?_; (with_reducible refine (eP.calls k a0_0 a0_1 A5 _ A4.out).mono ?_); rintro e w9 ⟨F9, rfl, ho0, hb⟩; refine ⟨_, rfl, ?_⟩; have C9 := a_ (Kd.bu ho0 (af oo)); replace BK673 := bb_ A1 BK673 hb; replace HB := df oo hb; (try clear hb); (try clear ho0)) | ((with_reducible refine bf (N := 15) rfl ?_); refine Kd.fU Kd.string _ 9 ?hg (N := 15) ?hd (xs := ([] : List ByteArray)) (inner := []) (ok := fun _ => True) (okp := fun _ => True) ?hr ?hp (fun _ hk => hk) trivial (Below.refl _ _) (Nat.le_refl _) (by simp) ?_; (case hd => rfl); (case hg => rfl); (case hr => first | (go_simp; done) | (go_simp; rfl)); (case hp => exact (dm.none _ _)); intro I6 J4 ho11 hb hg_ hnew_; clear hg_ hnew_; (first | rw [← D2.out] at ho11 | (simp only [Int.reduceToNat] at ho11; rw [← D2.out] at ho11)); have G0 := a_ (Kd.bu (Kd.dF ho11 (Kd.dR (ra_ C9.out))) (af oo)); replace C9 := a_ (Kd.bB (ra_ C9.out) (Kd.bN ho11) hb); replace BK673 := bb_ A1 BK673 hb; replace HB := df oo hb; clear hb ho11))
  go_loopg [5, 6] k (fun kq v5 v6 w' => ∃ (C0 : List ByteArray) (A3 : Int), v6 = .int .i64 A3 ∧ ah (bz.l0 kq A5 C0 A3 a0_0 a0_1 l0_2 l0_3 l0_4 = some (r1, r2)) ∧ ah (kq ≤ k) ∧ ah (Kd.R Kd.string 9 w' w.heap.size (fun k_ => some k_ ≠ (v5 : Value).ownBlock) F9 A5) ∧ ah (Kd.R Kd.string 9 w' w.heap.size (fun k_ => some k_ ≠ (F9 : Value).ownBlock) v5 C0) ∧ ah (w'.heap[A1]? = some (.cells #[.int .i64 a0_0, .int .i64 a0_1, (.slice A8 l0_2.length A9), (.slice B0 l0_3.length B3), (.slice B4 l0_4.length B7)] 28 (0, 0))) ∧ ah (Below w.heap.size w w'))
  case atStart => exact ⟨(F7), (0), bZ, H', ⟨Nat.le_refl _⟩, ⟨by (with_reducible repeat (first | apply Kd.aC | apply Kd.aD | apply Kd.az)); exact Kd.ae C9.out (fun _ hk => hk.2)⟩, ⟨by (with_reducible repeat (first | apply Kd.aC | apply Kd.aD | apply Kd.az)); exact Kd.ae G0.out (fun _ hk => hk.2)⟩, ⟨Ca⟩, ⟨oo⟩⟩
  case round =>
   clear H'
   try clear c3; try clear D4 D5 D6 D7 D8; try clear E4 E5 E6 E7 E8; try clear D9 E0 E1 E2 E3; try clear E9 F0 F1 F2 F3
   obtain ⟨C0, A3, rfl, HA, HK1, A6, HO_5, BK673, HB⟩ := hrel
   cases gk with
   | zero => exact absurd HA.out (by simp [bz.l0])
   | succ k1 =>
    have H := HA.out
    clear HA
    simp only [bz.l0] at H
    by_cases c12 : A3 < (A5.length : Int)
    ·rw [if_pos c12] at H
     have G1 := decide_eq_true c12
     clear c12
     replace H := ig_ H; obtain ⟨c13, H⟩ := H
     have I4 := decide_eq_true c13
     clear c13
     replace H := bo_ H; obtain ⟨H8, I5, H⟩ := H; (try dsimp only at H)
     by_cases c15 : H8 = true
     ·subst c15
      have H1 : (if C0.length < 8796093022208 then (bz.l0 k1 A5 (C0 ++ [iJ ByteArray.empty A5 A3]) (wrap64 (A3 + 1)) a0_0 a0_1 l0_2 l0_3 l0_4) else (none)) = some (r1, r2) := by rw [if_pos rfl] at H; exact H
      clear H
      have H := H1
      clear H1
      replace H := ig_ H; obtain ⟨c16, H⟩ := H
      have LMc16 := a_ c16
      clear c16
      obtain ⟨G2, D1⟩ : ∃ y_ : List ByteArray, y_ = (C0 ++ [iJ ByteArray.empty A5 A3]) := ⟨_, rfl⟩
      replace H : (bz.l0 k1 A5 G2 (wrap64 (A3 + 1)) a0_0 a0_1 l0_2 l0_3 l0_4) = some (r1, r2) := rh_ D1 H
      have G3 := a_ D1
      clear D1
      have H' := a_ H
      clear H
      obtain ⟨I7, H9, I0⟩ := Kd.bg A6.out
      subst I0
      try go_wp2
      replace A6 := a_ (Kd.az A6.out)
      replace HO_5 := a_ (Kd.az HO_5.out)
      replace BK673 := a_ (bU BK673.out)
      replace HB := a_ (aU HB.out)
      have C2 : 0 ≤ (A3 : Int) := of_decide_eq_true aG
      have C3 : A3 < (A5.length : Int) := of_decide_eq_true aG
      obtain ⟨C1, F4, A7⟩ := Kd.jd (Kd.aH A6.out).2.2 A3 C2 C3
      cases F4
      replace C2 := eq_true C2
      replace C3 := eq_true C3
      refine gQ (n := 6) (S := fun w' => w'.cell? ⟨A1, 0, none⟩ = some (.int .i64 a0_0) ∧ w'.cell? ⟨A1, 1, none⟩ = some (.int .i64 a0_1) ∧ w'.cell? ⟨A1, 2, none⟩ = some (.slice A8 l0_2.length A9) ∧ w'.cell? ⟨A1, 3, none⟩ = some (.slice B0 l0_3.length B3) ∧ w'.cell? ⟨A1, 4, none⟩ = some (.slice B4 l0_4.length B7) ∧ w'.cell? (C1.add (A3).toNat) = some (.string (iJ ByteArray.empty A5 A3))) (ds := []) #[false, false, false, false, false, false] (by kernel_rfl) rfl rfl ⟨(ai BK673.out 0).trans rfl, (ai BK673.out 1).trans rfl, (ai BK673.out 2).trans rfl, (ai BK673.out 3).trans rfl, (ai BK673.out 4).trans rfl, A7⟩ (fun hHeld => ?_)
      generalize wr.drew = J5 at A6 HO_5 BK673 HB A7 hHeld ⊢
      refine pv_ 1 (some 23) ?_ (hc := (by kernel_rfl))
      refine pv_ 2 (some 24) ?_ (hc := (by kernel_rfl))
      refine pv_ 3 (some 25) ?_ (hc := (by kernel_rfl))
      refine mK (i := 0) (N := some 22) hHeld ?_ (hc := (by kernel_rfl))
      refine mK (i := 4) (N := some 26) hHeld ?_ (hc := (by kernel_rfl))
      refine on_ (i := 5) (N := some 27) (fun K hK => ?_) (hc := (by kernel_rfl))
      refine jq Tryz.func37 (by kernel_rfl) rfl #[.agg #[.int .i64 a0_0, .int .i64 a0_1, .slice A8 l0_2.length A9, .slice B0 l0_3.length B3, .slice B4 l0_4.length B7], .string (iJ ByteArray.empty A5 A3)] (by rfl) rfl rfl dL ?_
      with_reducible refine (bX.calls k1 a0_0 a0_1 _ _ l0_2 _ _ l0_3 _ _ l0_4 (iJ ByteArray.empty A5 A3) true _ ?side1 ?side2 ?side3 ?side4 ?side5 ?side6 I5.out).mono ?_
      (case side1 => exact kc_ (Kd.bE C4.out HB.out))
      (case side2 => exact C5.out)
      (case side3 => exact kc_ (Kd.bE C6.out HB.out))
      (case side4 => exact C7.out)
      (case side5 => exact kc_ (Kd.bE HR0_4.out HB.out))
      (case side6 => exact C8.out)
      rintro e J6 ⟨rfl, hb⟩
      have HS5_ := (hb.cell (World.block_lt_of_cell? _ _ (hHeld.2.2.2.2.2))).trans (hHeld.2.2.2.2.2)
      refine ⟨_, rfl, ?_⟩
      replace A6 := rl_ A6 hb
      replace HO_5 := rl_ HO_5 hb
      replace BK673 := bb_ A1 BK673 hb
      replace HB := df oo hb
      (try clear hb)
      (try clear hb2)
      (try clear hk)
      (try clear hi)
      refine hK.out _ _ ⟨(ai BK673.out 0).trans rfl, (ai BK673.out 1).trans rfl, (ai BK673.out 2).trans rfl, (ai BK673.out 3).trans rfl, (ai BK673.out 4).trans rfl, HS5_⟩ (fun hHeld => ?_)
      clear hK K
      refine nm_ ?_
      refine ja (by kernel_rfl) ?_
      have F5 : 0 ≤ (A3 : Int) := of_decide_eq_true aG
      have F6 : A3 < (A5.length : Int) := of_decide_eq_true aG
      obtain ⟨G4, I1, G6⟩ := Kd.jd (Kd.aH A6.out).2.2 A3 F5 F6
      obtain rfl : C1 = G4 := (by injection I1)
      replace F5 := eq_true F5
      replace F6 := eq_true F6
      try go_wp2_with (first | ((with_reducible refine bF (b := .append) (xs := #[.tmp 28, .tmp 33]) rfl ?_); at_builtin; refine Kd.fH Kd.string (w0 := w) w.heap.size rfl (.tmp 28) (.tmp 33) 46 9 (.string ⟨#[]⟩) 16 rfl Tryz.underlying46 oG rfl (by decide) (by omega) u5 C0 (iJ ByteArray.empty A5 A3) [.string (iJ ByteArray.empty A5 A3)] (fun k_ => some k_ ≠ (.slice (some C1) A5.length H9 : Value).ownBlock) (fun _ => False) rfl rfl ?aP (fun _ hk => hk.elim) ?aF ?aO ?aB ?aS ?aL ?_; (case aP => exact rfl); (case aB => exact oo); (case aF => exact (fun k_ hk => Kd.fe (Kd.dR (ra_ A6.out)) k_ hk)); (case aO => exact (ra_ HO_5.out)); (case aS => exact (af oo)); (case aL => have := LMc16.out; omega); intro I8 J7 ho hb hg hat; rw [← G3.out] at ho; replace A6 := a_ (Kd.dn (ok := (fun _ => True)) (rc_ (h := by exact Kd.ae A6.out (fun _ hk => ⟨trivial, hk⟩))) hg hat); replace BK673 := a_ (dA (g := A1) (rb_ BK673.out) hg (Kd.gp HO_5.out BK673.out (by decide))); replace HB := a_ (hb); have G5 := a_ (ho); clear HO_5; clear ho hb hg hat))
      go_roundg k1
      case measure => have := HK1.out; omega
      case rel => exact ⟨(G2), (wrap64 (A3 + 1)), bZ, H', ⟨jR⟩, ⟨by (with_reducible repeat (first | apply Kd.aC | apply Kd.aD | apply Kd.az)); exact Kd.ae A6.out (fun _ hk => hk.2)⟩, ⟨by (with_reducible repeat (first | apply Kd.aC | apply Kd.aD | apply Kd.az)); exact G5.out⟩, ⟨Ca⟩, ⟨oo⟩⟩
     ·replace c15 := Bool.eq_false_iff.mpr c15
      subst c15
      have H1 : (bz.l0 k1 A5 C0 (wrap64 (A3 + 1)) a0_0 a0_1 l0_2 l0_3 l0_4) = some (r1, r2) := by rw [if_neg (show ¬ (false = true) by decide)] at H; exact H
      clear H
      have H := H1
      clear H1
      have H' := a_ H
      clear H
      obtain ⟨I9, J0, I2⟩ := Kd.bg A6.out
      subst I2
      try go_wp2
      replace A6 := a_ (Kd.az A6.out)
      replace HO_5 := a_ (Kd.az HO_5.out)
      replace BK673 := a_ (bU BK673.out)
      replace HB := a_ (aU HB.out)
      have C2 : 0 ≤ (A3 : Int) := of_decide_eq_true aG
      have C3 : A3 < (A5.length : Int) := of_decide_eq_true aG
      obtain ⟨C1, F4, A7⟩ := Kd.jd (Kd.aH A6.out).2.2 A3 C2 C3
      cases F4
      replace C2 := eq_true C2
      replace C3 := eq_true C3
      refine gQ (n := 6) (S := fun w' => w'.cell? ⟨A1, 0, none⟩ = some (.int .i64 a0_0) ∧ w'.cell? ⟨A1, 1, none⟩ = some (.int .i64 a0_1) ∧ w'.cell? ⟨A1, 2, none⟩ = some (.slice A8 l0_2.length A9) ∧ w'.cell? ⟨A1, 3, none⟩ = some (.slice B0 l0_3.length B3) ∧ w'.cell? ⟨A1, 4, none⟩ = some (.slice B4 l0_4.length B7) ∧ w'.cell? (C1.add (A3).toNat) = some (.string (iJ ByteArray.empty A5 A3))) (ds := []) #[false, false, false, false, false, false] (by kernel_rfl) rfl rfl ⟨(ai BK673.out 0).trans rfl, (ai BK673.out 1).trans rfl, (ai BK673.out 2).trans rfl, (ai BK673.out 3).trans rfl, (ai BK673.out 4).trans rfl, A7⟩ (fun hHeld => ?_)
      generalize wr.drew = J8 at A6 HO_5 BK673 HB A7 hHeld ⊢
      refine pv_ 1 (some 23) ?_ (hc := (by kernel_rfl))
      refine pv_ 2 (some 24) ?_ (hc := (by kernel_rfl))
      refine pv_ 3 (some 25) ?_ (hc := (by kernel_rfl))
      refine mK (i := 0) (N := some 22) hHeld ?_ (hc := (by kernel_rfl))
      refine mK (i := 4) (N := some 26) hHeld ?_ (hc := (by kernel_rfl))
      refine on_ (i := 5) (N := some 27) (fun K hK => ?_) (hc := (by kernel_rfl))
      refine jq Tryz.func37 (by kernel_rfl) rfl #[.agg #[.int .i64 a0_0, .int .i64 a0_1, .slice A8 l0_2.length A9, .slice B0 l0_3.length B3, .slice B4 l0_4.length B7], .string (iJ ByteArray.empty A5 A3)] (by rfl) rfl rfl dL ?_
      with_reducible refine (bX.calls k1 a0_0 a0_1 _ _ l0_2 _ _ l0_3 _ _ l0_4 (iJ ByteArray.empty A5 A3) false _ ?side1 ?side2 ?side3 ?side4 ?side5 ?side6 I5.out).mono ?_
      (case side1 => exact kc_ (Kd.bE C4.out HB.out))
      (case side2 => exact C5.out)
      (case side3 => exact kc_ (Kd.bE C6.out HB.out))
      (case side4 => exact C7.out)
      (case side5 => exact kc_ (Kd.bE HR0_4.out HB.out))
      (case side6 => exact C8.out)
      rintro e J9 ⟨rfl, hb⟩
      have HS5_ := (hb.cell (World.block_lt_of_cell? _ _ (hHeld.2.2.2.2.2))).trans (hHeld.2.2.2.2.2)
      refine ⟨_, rfl, ?_⟩
      replace A6 := rl_ A6 hb
      replace HO_5 := rl_ HO_5 hb
      replace BK673 := bb_ A1 BK673 hb
      replace HB := df oo hb
      (try clear hb)
      (try clear hb2)
      (try clear hk)
      (try clear hi)
      refine hK.out _ _ ⟨(ai BK673.out 0).trans rfl, (ai BK673.out 1).trans rfl, (ai BK673.out 2).trans rfl, (ai BK673.out 3).trans rfl, (ai BK673.out 4).trans rfl, HS5_⟩ (fun hHeld => ?_)
      clear hK K
      refine nm_ ?_
      refine ja (by kernel_rfl) ?_
      try go_wp2
      go_roundg k1
      case measure => have := HK1.out; omega
      case rel => exact ⟨(C0), (wrap64 (A3 + 1)), bZ, H', ⟨jR⟩, ⟨by (with_reducible repeat (first | apply Kd.aC | apply Kd.aD | apply Kd.az)); exact A6.out⟩, ⟨lG⟩, ⟨Ca⟩, ⟨oo⟩⟩
    rw [if_neg c12] at H
    have G1 := decide_eq_false c12
    clear c12
    simp only [Option.some.injEq, Prod.mk.injEq] at H
    obtain ⟨rfl, rfl⟩ := H
    obtain ⟨J1, J2, I3⟩ := Kd.bg A6.out
    subst I3
    go_wp2
    go_ret2
    exact ⟨_, fO, Ac, oo⟩
 ·replace c3 := Bool.eq_false_iff.mpr c3
  subst c3
  have H1 : (some (([] : List ByteArray), 1)) = some (r1, r2) := by rw [if_neg (show ¬ (false = true) by decide)] at H; exact H
  clear H
  have H := H1
  clear H1
  simp only [Option.some.injEq, Prod.mk.injEq] at H
  obtain ⟨rfl, rfl⟩ := H
  go_enter Tryz.func27, Tryz.ntmps27
  go_wp2_with (first | ((with_reducible refine bf (N := 1) rfl ?_); refine cz ?hg (N := 1) ?hd (cs := #[.int .i64 a0_0, .int .i64 a0_1, .slice A8 l0_2.length A9, .slice B0 l0_3.length B3, .slice B4 l0_4.length B7]) (t := 28) ?hr ?_; (case hd => rfl); (case hg => rfl); (case hr => first | (go_simp; done) | (go_simp; rfl)); intro A1 hg J3 hbox hb; have BK673 := a_ (hbox); have F8 := a_ ((fG : w.heap.size ≤ A1)); have GE673 := a_ ((fG : w.heap.size ≤ A1)); replace HB := df bO hb; clear hb hbox hg; obtain ⟨G7, G8, G9, H0, H2, H3, H4, H5, H6, H7⟩ := eH (w := J3) BK673.out) | ((with_reducible refine av (f := 21) rfl ?_); refine bI (some 8) rfl rfl Tryz.func21 (by kernel_rfl) rfl #[.agg #[.int .i64 a0_0, .int .i64 a0_1, .slice A8 l0_2.length A9, .slice B0 l0_3.length B3, .slice B4 l0_4.length B7]] rfl dL ?_; (with_reducible refine (aM.calls k a0_0 a0_1 _ _ l0_2 _ _ l0_3 _ _ l0_4 false _ ?side1 ?side2 ?side3 ?side4 ?side5 ?side6 A2.out).mono ?_); (case side1 => exact kc_ (Kd.bE C4.out HB.out)); (case side2 => exact C5.out); (case side3 => exact kc_ (Kd.bE C6.out HB.out)); (case side4 => exact C7.out); (case side5 => exact kc_ (Kd.bE HR0_4.out HB.out)); (case side6 => exact C8.out); rintro e K0 ⟨rfl, hb⟩; refine ⟨_, rfl, ?_⟩; replace BK673 := bb_ A1 BK673 hb; replace HB := df oo hb; (try clear hb)))
  go_ret2
  exact ⟨_, fO, xX, oo⟩
def dh.l0 : Nat → List Int → List Int → Int → Option (Bool)
 | 0, _, _, _ => none
 | k + 1, x0, x1, x5 => if x5 < (x0.length : Int) then (if 0 ≤ x5 then (if x5 < (x1.length : Int) then (if (rd x0 x5) = (rd x1 x5) then (dh.l0 k x0 x1 (wrap64 (x5 + 1))) else (some false)) else (none)) else (none)) else (some true)
def dh.f (k : Nat) (l0 : List Int) (l1 : List Int) : Option (Bool) := if (l0.length : Int) = (l1.length : Int) then (dh.l0 k l0 l1 0) else (some false)
theorem dh.di : ∀ k, (∀ y0 y1 y2, LeO (dh.l0 k y0 y1 y2) (dh.l0 (k + 1) y0 y1 y2))
 | 0 => fun _ _ _ r h => by simp [dh.l0] at h
 | k + 1 => by
  have ih0 := dh.di k
  ·intro y0 y1 y2
   unfold dh.l0
   repeat' first | (with_reducible first | exact ih0 .. | exact LeO.refl .. | exact LeO.none .. | refine LeO.ite ?_ ?_ | refine LeO.bind ?_ (fun _ => ?_))
theorem dh.mono : ∀ a0 a1 k, LeO (dh.f k a0 a1) (dh.f (k + 1) a0 a1) := by
 intro a0 a1 k
 have ih0 := dh.di k
 unfold dh.f
 repeat' first | (with_reducible first | exact ih0 .. | exact LeO.refl .. | exact LeO.none .. | refine LeO.ite ?_ ?_ | refine LeO.bind ?_ (fun _ => ?_))
theorem dh.calls (k : Nat) (A0 : Option Addr) (c0 : Nat) (l0 : List Int) (A1 : Option Addr) (c1 : Nat) (l1 : List Int) (r : Bool) (w : World) (hr0 : Kd.C (Kd.int .i64) w A0 l0.length l0) (hc0 : l0.length ≤ c0) (hr1 : Kd.C (Kd.int .i64) w A1 l1.length l1) (hc1 : l1.length ≤ c1) (h : dh.f k l0 l1 = some r) :
  Calls Tryz.prog 28 #[.slice A0 l0.length c0, .slice A1 l1.length c1] w fun e w' => e = .returned (.bool r) ∧ eY w w' := by
 have HR0 := a_ hr0
 have C7 := a_ hc0
 clear hr0 hc0
 have HR1 := a_ hr1
 have C8 := a_ hc1
 clear hr1 hc1
 have H : (if (l0.length : Int) = (l1.length : Int) then (dh.l0 k l0 l1 0) else (some false)) = some r := h
 clear h
 by_cases c3 : (l0.length : Int) = (l1.length : Int)
 ·rw [if_pos c3] at H
  have B3 : ((l0.length : Int) == (l1.length : Int)) = true := beq_iff_eq.mpr c3
  have B4 : ((l0.length : Int) != (l1.length : Int)) = false := bne_eq_false_iff_eq.mpr c3
  have B7 : (l0.length == l1.length) = true := by first | simpa using c3 | (simp at c3 ⊢; omega)
  clear c3
  have H' := a_ H
  clear H
  go_enter Tryz.func28, Tryz.ntmps28
  go_wp2
  repeat (go_quiet (fail); try go_wp2)
  go_loopg [5] k (fun kq v5 w' => ∃ (A2 : Int), v5 = .int .i64 A2 ∧ ah (dh.l0 kq l0 l1 A2 = some r) ∧ ah (kq ≤ k) ∧ eY w w')
  case atStart => exact ⟨(0), bZ, H', ⟨Nat.le_refl _⟩, eQ⟩
  case round =>
   clear H'
   try clear c1; try clear B3; try clear B4; try clear B7
   obtain ⟨A2, rfl, HA, HK1, ⟨m1, rfl⟩⟩ := hrel
   cases gk with
   | zero => exact absurd HA.out (by simp [dh.l0])
   | succ k1 =>
    have H := HA.out
    clear HA
    simp only [dh.l0] at H
    by_cases c4 : A2 < (l0.length : Int)
    ·rw [if_pos c4] at H
     have C2 := decide_eq_true c4
     clear c4
     replace H := ig_ H; obtain ⟨c5, H⟩ := H
     have C5 := decide_eq_true c5
     clear c5
     replace H := ig_ H; obtain ⟨c6, H⟩ := H
     have C6 := decide_eq_true c6
     clear c6
     by_cases c7 : (rd l0 A2) = (rd l1 A2)
     ·rw [if_pos c7] at H
      have C3 : ((rd l0 A2) == (rd l1 A2)) = true := beq_iff_eq.mpr c7
      have C4 : ((rd l0 A2) != (rd l1 A2)) = false := bne_eq_false_iff_eq.mpr c7
      clear c7
      have H' := a_ H
      clear H
      have A3 : 0 ≤ (A2 : Int) := of_decide_eq_true aG
      have A4 : A2 < (l0.length : Int) := of_decide_eq_true aG
      obtain ⟨C0, A9, A7⟩ := Kd.dM HR0.out A2 A3 A4
      cases A9
      replace A3 := eq_true A3
      replace A4 := eq_true A4
      have A5 : 0 ≤ (A2 : Int) := of_decide_eq_true aG
      have A6 : A2 < (l1.length : Int) := of_decide_eq_true aG
      obtain ⟨C1, B0, A8⟩ := Kd.dM HR1.out A2 A5 A6
      cases B0
      replace A5 := eq_true A5
      replace A6 := eq_true A6
      go_wp2
      repeat (go_quiet (fail); try go_wp2)
      go_roundg k1
      case measure => have := HK1.out; omega
      case rel => exact ⟨(wrap64 (A2 + 1)), bZ, H', ⟨jR⟩, eQ⟩
     rw [if_neg c7] at H
     have C3 : ((rd l0 A2) == (rd l1 A2)) = false := beq_eq_false_iff_ne.mpr c7
     have C4 : ((rd l0 A2) != (rd l1 A2)) = true := bne_iff_ne.mpr c7
     obtain rfl := Option.some.inj H
     have A3 : 0 ≤ (A2 : Int) := of_decide_eq_true aG
     have A4 : A2 < (l0.length : Int) := of_decide_eq_true aG
     obtain ⟨C0, A9, A7⟩ := Kd.dM HR0.out A2 A3 A4
     cases A9
     replace A3 := eq_true A3
     replace A4 := eq_true A4
     have A5 : 0 ≤ (A2 : Int) := of_decide_eq_true aG
     have A6 : A2 < (l1.length : Int) := of_decide_eq_true aG
     obtain ⟨C1, B0, A8⟩ := Kd.dM HR1.out A2 A5 A6
     cases B0
     replace A5 := eq_true A5
     replace A6 := eq_true A6
     go_wp2
     repeat (go_quiet (fail); try go_wp2)
     go_ret
     exact ⟨fT, eQ⟩
    rw [if_neg c4] at H
    have C2 := decide_eq_false c4
    clear c4
    obtain rfl := Option.some.inj H
    go_wp2
    repeat (go_quiet (fail); try go_wp2)
    go_ret
    exact ⟨fT, eQ⟩
 rw [if_neg c3] at H
 have B3 : ((l0.length : Int) == (l1.length : Int)) = false := beq_eq_false_iff_ne.mpr c3
 have B4 : ((l0.length : Int) != (l1.length : Int)) = true := bne_iff_ne.mpr c3
 have B7 : (l0.length == l1.length) = false := by first | simpa using c3 | (simp at c3 ⊢; omega)
 obtain rfl := Option.some.inj H
 go_enter Tryz.func28, Tryz.ntmps28
 go_wp2
 repeat (go_quiet (fail); try go_wp2)
 go_ret
 exact ⟨fT, eQ⟩
def bP.l0 : Nat → List ByteArray → List ByteArray → Int → Option (Bool)
 | 0, _, _, _ => none
 | k + 1, x0, x1, x5 => if x5 < (x0.length : Int) then (if 0 ≤ x5 then (if x5 < (x1.length : Int) then (if (iJ ByteArray.empty x0 x5).toList = (iJ ByteArray.empty x1 x5).toList then (bP.l0 k x0 x1 (wrap64 (x5 + 1))) else (some false)) else (none)) else (none)) else (some true)
def bP.f (k : Nat) (l0 : List ByteArray) (l1 : List ByteArray) : Option (Bool) := if (l0.length : Int) = (l1.length : Int) then (bP.l0 k l0 l1 0) else (some false)
theorem bP.di : ∀ k, (∀ y0 y1 y2, LeO (bP.l0 k y0 y1 y2) (bP.l0 (k + 1) y0 y1 y2))
 | 0 => fun _ _ _ r h => by simp [bP.l0] at h
 | k + 1 => by
  have ih0 := bP.di k
  ·intro y0 y1 y2
   unfold bP.l0
   repeat' first | (with_reducible first | exact ih0 .. | exact LeO.refl .. | exact LeO.none .. | refine LeO.ite ?_ ?_ | refine LeO.bind ?_ (fun _ => ?_))
theorem bP.mono : ∀ a0 a1 k, LeO (bP.f k a0 a1) (bP.f (k + 1) a0 a1) := by
 intro a0 a1 k
 have ih0 := bP.di k
 unfold bP.f
 repeat' first | (with_reducible first | exact ih0 .. | exact LeO.refl .. | exact LeO.none .. | refine LeO.ite ?_ ?_ | refine LeO.bind ?_ (fun _ => ?_))
theorem bP.calls (k : Nat) (A0 : Option Addr) (c0 : Nat) (l0 : List ByteArray) (A1 : Option Addr) (c1 : Nat) (l1 : List ByteArray) (r : Bool) (w : World) (hr0 : Kd.C Kd.string w A0 l0.length l0) (hc0 : l0.length ≤ c0) (hr1 : Kd.C Kd.string w A1 l1.length l1) (hc1 : l1.length ≤ c1) (h : bP.f k l0 l1 = some r) :
  Calls Tryz.prog 29 #[.slice A0 l0.length c0, .slice A1 l1.length c1] w fun e w' => e = .returned (.bool r) ∧ eY w w' := by
 have HR0 := a_ hr0
 have C7 := a_ hc0
 clear hr0 hc0
 have HR1 := a_ hr1
 have C8 := a_ hc1
 clear hr1 hc1
 have H : (if (l0.length : Int) = (l1.length : Int) then (bP.l0 k l0 l1 0) else (some false)) = some r := h
 clear h
 by_cases c3 : (l0.length : Int) = (l1.length : Int)
 ·rw [if_pos c3] at H
  have B3 : ((l0.length : Int) == (l1.length : Int)) = true := beq_iff_eq.mpr c3
  have B4 : ((l0.length : Int) != (l1.length : Int)) = false := bne_eq_false_iff_eq.mpr c3
  have B7 : (l0.length == l1.length) = true := by first | simpa using c3 | (simp at c3 ⊢; omega)
  clear c3
  have H' := a_ H
  clear H
  go_enter Tryz.func29, Tryz.ntmps29
  go_wp2
  repeat (go_quiet (fail); try go_wp2)
  go_loopg [5] k (fun kq v5 w' => ∃ (A2 : Int), v5 = .int .i64 A2 ∧ ah (bP.l0 kq l0 l1 A2 = some r) ∧ ah (kq ≤ k) ∧ eY w w')
  case atStart => exact ⟨(0), bZ, H', ⟨Nat.le_refl _⟩, eQ⟩
  case round =>
   clear H'
   try clear c1; try clear B3; try clear B4; try clear B7
   obtain ⟨A2, rfl, HA, HK1, ⟨m1, rfl⟩⟩ := hrel
   cases gk with
   | zero => exact absurd HA.out (by simp [bP.l0])
   | succ k1 =>
    have H := HA.out
    clear HA
    simp only [bP.l0] at H
    by_cases c4 : A2 < (l0.length : Int)
    ·rw [if_pos c4] at H
     have C2 := decide_eq_true c4
     clear c4
     replace H := ig_ H; obtain ⟨c5, H⟩ := H
     have C5 := decide_eq_true c5
     clear c5
     replace H := ig_ H; obtain ⟨c6, H⟩ := H
     have C6 := decide_eq_true c6
     clear c6
     by_cases c7 : (iJ ByteArray.empty l0 A2).toList = (iJ ByteArray.empty l1 A2).toList
     ·rw [if_pos c7] at H
      have C3 : ((iJ ByteArray.empty l0 A2).toList == (iJ ByteArray.empty l1 A2).toList) = true := beq_iff_eq.mpr c7
      have C4 : ((iJ ByteArray.empty l0 A2).toList != (iJ ByteArray.empty l1 A2).toList) = false := bne_eq_false_iff_eq.mpr c7
      clear c7
      have H' := a_ H
      clear H
      have A3 : 0 ≤ (A2 : Int) := of_decide_eq_true aG
      have A4 : A2 < (l0.length : Int) := of_decide_eq_true aG
      obtain ⟨C0, A9, A7⟩ := Kd.jd HR0.out A2 A3 A4
      cases A9
      replace A3 := eq_true A3
      replace A4 := eq_true A4
      have A5 : 0 ≤ (A2 : Int) := of_decide_eq_true aG
      have A6 : A2 < (l1.length : Int) := of_decide_eq_true aG
      obtain ⟨C1, B0, A8⟩ := Kd.jd HR1.out A2 A5 A6
      cases B0
      replace A5 := eq_true A5
      replace A6 := eq_true A6
      go_wp2
      repeat (go_quiet (fail); try go_wp2)
      go_roundg k1
      case measure => have := HK1.out; omega
      case rel => exact ⟨(wrap64 (A2 + 1)), bZ, H', ⟨jR⟩, eQ⟩
     rw [if_neg c7] at H
     have C3 : ((iJ ByteArray.empty l0 A2).toList == (iJ ByteArray.empty l1 A2).toList) = false := beq_eq_false_iff_ne.mpr c7
     have C4 : ((iJ ByteArray.empty l0 A2).toList != (iJ ByteArray.empty l1 A2).toList) = true := bne_iff_ne.mpr c7
     obtain rfl := Option.some.inj H
     have A3 : 0 ≤ (A2 : Int) := of_decide_eq_true aG
     have A4 : A2 < (l0.length : Int) := of_decide_eq_true aG
     obtain ⟨C0, A9, A7⟩ := Kd.jd HR0.out A2 A3 A4
     cases A9
     replace A3 := eq_true A3
     replace A4 := eq_true A4
     have A5 : 0 ≤ (A2 : Int) := of_decide_eq_true aG
     have A6 : A2 < (l1.length : Int) := of_decide_eq_true aG
     obtain ⟨C1, B0, A8⟩ := Kd.jd HR1.out A2 A5 A6
     cases B0
     replace A5 := eq_true A5
     replace A6 := eq_true A6
     go_wp2
     repeat (go_quiet (fail); try go_wp2)
     go_ret
     exact ⟨fT, eQ⟩
    rw [if_neg c4] at H
    have C2 := decide_eq_false c4
    clear c4
    obtain rfl := Option.some.inj H
    go_wp2
    repeat (go_quiet (fail); try go_wp2)
    go_ret
    exact ⟨fT, eQ⟩
 rw [if_neg c3] at H
 have B3 : ((l0.length : Int) == (l1.length : Int)) = false := beq_eq_false_iff_ne.mpr c3
 have B4 : ((l0.length : Int) != (l1.length : Int)) = true := bne_iff_ne.mpr c3
 have B7 : (l0.length == l1.length) = false := by first | simpa using c3 | (simp at c3 ⊢; omega)
 obtain rfl := Option.some.inj H
 go_enter Tryz.func29, Tryz.ntmps29
 go_wp2
 repeat (go_quiet (fail); try go_wp2)
 go_ret
 exact ⟨fT, eQ⟩
def cu.l0 : Nat → List Int → Int → Int → Option (Bool)
 | 0, _, _, _ => none
 | k + 1, x0, x1, x5 => if x5 < (x0.length : Int) then (if 0 ≤ x5 then (if (rd x0 x5) = x1 then (some true) else (cu.l0 k x0 x1 (wrap64 (x5 + 1)))) else (none)) else (some false)
def cu.f (k : Nat) (l0 : List Int) (a1 : Int) : Option (Bool) := cu.l0 k l0 a1 0
theorem cu.di : ∀ k, (∀ y0 y1 y2, LeO (cu.l0 k y0 y1 y2) (cu.l0 (k + 1) y0 y1 y2))
 | 0 => fun _ _ _ r h => by simp [cu.l0] at h
 | k + 1 => by
  have ih0 := cu.di k
  ·intro y0 y1 y2
   unfold cu.l0
   repeat' first | (with_reducible first | exact ih0 .. | exact LeO.refl .. | exact LeO.none .. | refine LeO.ite ?_ ?_ | refine LeO.bind ?_ (fun _ => ?_))
theorem cu.mono : ∀ a0 a1 k, LeO (cu.f k a0 a1) (cu.f (k + 1) a0 a1) := by
 intro a0 a1 k
 have ih0 := cu.di k
 unfold cu.f
 repeat' first | (with_reducible first | exact ih0 .. | exact LeO.refl .. | exact LeO.none .. | refine LeO.ite ?_ ?_ | refine LeO.bind ?_ (fun _ => ?_))
theorem cu.calls (k : Nat) (A0 : Option Addr) (c0 : Nat) (l0 : List Int) (a1 : Int) (r : Bool) (w : World) (hr0 : Kd.C (Kd.int .i64) w A0 l0.length l0) (hc0 : l0.length ≤ c0) (h : cu.f k l0 a1 = some r) :
  Calls Tryz.prog 30 #[.slice A0 l0.length c0, .int .i64 a1] w fun e w' => e = .returned (.bool r) ∧ eY w w' := by
 have HR0 := a_ hr0
 have B3 := a_ hc0
 clear hr0 hc0
 have H : (cu.l0 k l0 a1 0) = some r := h
 clear h
 have H' := a_ H
 clear H
 go_enter Tryz.func30, Tryz.ntmps30
 go_wp2
 go_loopg [5] k (fun kq v5 w' => ∃ (A1 : Int), v5 = .int .i64 A1 ∧ ah (cu.l0 kq l0 a1 A1 = some r) ∧ ah (kq ≤ k) ∧ eY w w')
 case atStart => exact ⟨(0), bZ, H', ⟨Nat.le_refl _⟩, eQ⟩
 case round =>
  clear H'
  obtain ⟨A1, rfl, HA, HK1, ⟨m1, rfl⟩⟩ := hrel
  cases gk with
  | zero => exact absurd HA.out (by simp [cu.l0])
  | succ k1 =>
   have H := HA.out
   clear HA
   simp only [cu.l0] at H
   by_cases c3 : A1 < (l0.length : Int)
   ·rw [if_pos c3] at H
    have A7 := decide_eq_true c3
    clear c3
    replace H := ig_ H; obtain ⟨c4, H⟩ := H
    have B0 := decide_eq_true c4
    clear c4
    by_cases c5 : (rd l0 A1) = a1
    ·rw [if_pos c5] at H
     have A8 : ((rd l0 A1) == a1) = true := beq_iff_eq.mpr c5
     have A9 : ((rd l0 A1) != a1) = false := bne_eq_false_iff_eq.mpr c5
     clear c5
     obtain rfl := Option.some.inj H
     have A2 : 0 ≤ (A1 : Int) := of_decide_eq_true aG
     have A3 : A1 < (l0.length : Int) := of_decide_eq_true aG
     obtain ⟨A6, A5, A4⟩ := Kd.dM HR0.out A1 A2 A3
     cases A5
     replace A2 := eq_true A2
     replace A3 := eq_true A3
     go_wp2
     go_ret
     exact ⟨fT, eQ⟩
    rw [if_neg c5] at H
    have A8 : ((rd l0 A1) == a1) = false := beq_eq_false_iff_ne.mpr c5
    have A9 : ((rd l0 A1) != a1) = true := bne_iff_ne.mpr c5
    have H' := a_ H
    clear H
    have A2 : 0 ≤ (A1 : Int) := of_decide_eq_true aG
    have A3 : A1 < (l0.length : Int) := of_decide_eq_true aG
    obtain ⟨A6, A5, A4⟩ := Kd.dM HR0.out A1 A2 A3
    cases A5
    replace A2 := eq_true A2
    replace A3 := eq_true A3
    go_wp2
    go_roundg k1
    case measure => have := HK1.out; omega
    case rel => exact ⟨(wrap64 (A1 + 1)), bZ, H', ⟨jR⟩, eQ⟩
   rw [if_neg c3] at H
   have A7 := decide_eq_false c3
   clear c3
   obtain rfl := Option.some.inj H
   go_wp2
   go_ret
   exact ⟨fT, eQ⟩
end Go.Proofs.YtkpidjmhdagkfaaGreatDoor.QFnReadForms
