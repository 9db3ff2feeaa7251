-- Written by own_print.py of this session's repo over the kit's print (its output, turned at some places).
import Derived.Test.YtkpidjmhdagkfaaGreatDoorQFnReadFormsx0
import Derived.Test.YtkpidjmhdagkfaaGreatDoorQFnReadFormsx1
import Derived.Test.YtkpidjmhdagkfaaGreatDoorQFnReadFormsx2
namespace Go.Proofs.YtkpidjmhdagkfaaGreatDoor.QFnReadForms
open Go.RowKit Go.Proofs.YtkpidjmhdagkfaaGreatDoorW.PrintWords Go.Proofs.YtkpidjmhdagkfaaGreatDoorW.PrintLast Go.Proofs.YtkpidjmhdagkfaaGreatDoorW.PrintMore
attribute [local go_sem] ik iq iR iT gD gF il iw
set_option maxHeartbeats 8000000
set_option maxRecDepth 100000
set_option linter.unusedVariables false
set_option linter.unusedSimpArgs false
mutual
def aJ.l0 : Nat → ByteArray → List (List (List (S64))) → Int → Option ((List (S64)))
 | 0, _, _, _ => none
 | k + 1, x2, x7, x8 => if x8 < (x2.size : Int) then (if 0 ≤ x8 then (if (bt x2 x8) = 76 then (aJ.j1 k x2 x7 x8 true) else (aJ.j1 k x2 x7 x8 ((bt x2 x8) == 82))) else (none)) else (if 0 < (x7.length : Int) then (if 0 < ((bJ x7 0).length : Int) then (some (dY (bJ x7 0) 0)) else (none)) else (none))
def aJ.j1 : Nat → ByteArray → List (List (List (S64))) → Int → Bool → Option ((List (S64)))
 | 0, _, _, _, _ => none
 | k + 1, x2, x7, x8, x27 => if x27 = true then (if 0 ≤ x8 then (if x8 < (x2.size : Int) then ((aI.f k x7 (bt x2 x8)).bind fun t240 => (aJ.l0 k x2 t240 (wrap64 (x8 + 1)))) else (none)) else (none)) else (if 0 ≤ x8 then (if x8 < (x2.size : Int) then ((ak.f k x7 (bt x2 x8)).bind fun t243 => (aJ.l0 k x2 t243 (wrap64 (x8 + 1)))) else (none)) else (none))
end
def aJ.f (k : Nat) (a0 : Int) (a1 : Int) (a2 : ByteArray) : Option ((List (S64))) := (bD.f k a0 a1).bind fun t235 => (aJ.l0 k a2 t235 0)
theorem aJ.di : ∀ k, (∀ y0 y1 y2, LeO (aJ.l0 k y0 y1 y2) (aJ.l0 (k + 1) y0 y1 y2)) ∧ (∀ y0 y1 y2 y3, LeO (aJ.j1 k y0 y1 y2 y3) (aJ.j1 (k + 1) y0 y1 y2 y3))
 | 0 => ⟨fun _ _ _ r h => by simp [aJ.l0] at h, fun _ _ _ _ r h => by simp [aJ.j1] at h⟩
 | k + 1 => by
  obtain ⟨ih0, ih1⟩ := aJ.di k
  refine ⟨?_, ?_⟩ <;> intros <;> (first | unfold aJ.l0 | unfold aJ.j1) <;> (repeat' first | (with_reducible first | exact ih0 .. | exact ih1 .. | exact ak.mono .. | exact aI.mono .. | exact bD.mono .. | exact LeO.refl .. | exact LeO.none .. | refine LeO.ite ?_ ?_ | refine LeO.bind ?_ (fun _ => ?_)))
theorem aJ.mono : ∀ a0 a1 a2 k, LeO (aJ.f k a0 a1 a2) (aJ.f (k + 1) a0 a1 a2) := by
 intro a0 a1 a2 k
 obtain ⟨ih0, ih1⟩ := aJ.di k
 unfold aJ.f
 repeat' first | (with_reducible first | exact ih0 .. | exact ih1 .. | exact ak.mono .. | exact aI.mono .. | exact bD.mono .. | exact LeO.refl .. | exact LeO.none .. | refine LeO.ite ?_ ?_ | refine LeO.bind ?_ (fun _ => ?_))
theorem aJ.calls (k : Nat) (a0 : Int) (a1 : Int) (a2 : ByteArray) (r : List (S64)) (w : World) (h : aJ.f k a0 a1 a2 = some r) :
  Calls Tryz.prog 82 #[.int .i64 a0, .int .i64 a1, .string a2] w fun e w' => ∃ v0_ : Value, e = .returned (v0_) ∧ Kd.R k64 64 w' w.heap.size (fun _ => True) v0_ r ∧ Below w.heap.size w w' := by
 have HB := a_ (Below.refl w.heap.size w)
 have H : ((bD.f k a0 a1).bind fun B4 => (aJ.l0 k a2 B4 0)) = some r := h
 clear h
 replace H := bo_ H; obtain ⟨B4, A4, H⟩ := H; (try dsimp only at H)
 have H' := a_ H
 clear H
 go_enter Tryz.func82, Tryz.ntmps82
 go_wp2_with (first | ((with_reducible refine av (f := 97) rfl ?_); refine bI (some 11) rfl rfl Tryz.func97 (by kernel_rfl) rfl #[.int .i64 a0, .int .i64 a1] rfl dL ?_; (with_reducible refine (bD.calls k a0 a1 B4 _ A4.out).mono ?_); rintro e w5 ⟨G7, rfl, ho0, hb⟩; refine ⟨_, rfl, ?_⟩; have C6 := a_ (Kd.bu ho0 (af bO)); replace HB := df bO hb; (try clear hb); (try clear ho0)))
 go_loopg [7, 8] k (fun kq v7 v8 w' => ∃ (A2 : List (List (List (S64)))) (A1 : Int), v8 = .int .i64 A1 ∧ ah (aJ.l0 kq a2 A2 A1 = some r) ∧ ah (kq ≤ k) ∧ ah (Kd.R (Kd.slice 61 (Kd.slice 64 k64)) 96 w' w.heap.size (fun _ => True) v7 A2) ∧ ah (Below w.heap.size w w'))
 case atStart => exact ⟨(B4), (0), bZ, H', ⟨Nat.le_refl _⟩, ⟨by (with_reducible repeat (first | apply Kd.aC | apply Kd.aD | apply Kd.az)); exact C6.out⟩, ⟨bO⟩⟩
 case round =>
  clear H'
  obtain ⟨A2, A1, rfl, HA, HK1, HO_7, HB⟩ := hrel
  cases gk with
  | zero => exact absurd HA.out (by simp [aJ.l0])
  | succ k1 =>
   have H := HA.out
   clear HA
   simp only [aJ.l0] at H
   by_cases c6 : A1 < (a2.size : Int)
   ·rw [if_pos c6] at H
    have C7 := decide_eq_true c6
    clear c6
    have D7 := a_ H
    clear H
    go_upto_region 5 with (fail)
    go_cut [27] (fun v27 wc => ∃ (kq : Nat) (A6 : Bool), v27 = .bool A6 ∧ ah (aJ.j1 kq a2 A2 A1 A6 = some r) ∧ ah (kq ≤ k1) ∧ ah (Kd.R (Kd.slice 61 (Kd.slice 64 k64)) 96 wc w.heap.size (fun _ => True) u7 A2) ∧ ah (Below w.heap.size w wc))
    case first =>
     have H := D7.out
     clear D7
     replace H := ig_ H; obtain ⟨c8, H⟩ := H
     have C8 := decide_eq_true c8
     clear c8
     (first | rw [C8] | (simp only [eU, gX]; rw [C8]) | skip)
     by_cases c10 : (bt a2 A1) = 76
     ·rw [if_pos c10] at H
      have C9 : ((bt a2 A1) == 76) = true := beq_iff_eq.mpr c10
      have D0 : ((bt a2 A1) != 76) = false := bne_eq_false_iff_eq.mpr c10
      clear c10
      have H' := a_ H
      clear H
      have p9 : 0 ≤ (A1 : Int) := of_decide_eq_true aG
      have q9 : A1 < (a2.size : Int) := of_decide_eq_true aG
      have hx9 := jI a2 A1
      replace p9 := eq_true p9
      replace q9 := eq_true q9
      go_wp2
      go_meet
      case rel => exact ⟨_, (true), bZ, H', ⟨nO⟩, ⟨xn⟩, ⟨bO⟩⟩
     rw [if_neg c10] at H
     have C9 : ((bt a2 A1) == 76) = false := beq_eq_false_iff_ne.mpr c10
     have D0 : ((bt a2 A1) != 76) = true := bne_iff_ne.mpr c10
     have H' := a_ H
     clear H
     have p9 : 0 ≤ (A1 : Int) := of_decide_eq_true aG
     have q9 : A1 < (a2.size : Int) := of_decide_eq_true aG
     have hx9 := jI a2 A1
     replace p9 := eq_true p9
     replace q9 := eq_true q9
     have F1 : 0 ≤ (A1 : Int) := of_decide_eq_true aG
     have F2 : A1 < (a2.size : Int) := of_decide_eq_true aG
     have hx11 := jI a2 A1
     replace F1 := eq_true F1
     replace F2 := eq_true F2
     go_wp2
     go_meet
     case rel => exact ⟨_, (((bt a2 A1) == 82)), bZ, H', ⟨nO⟩, ⟨xn⟩, ⟨bO⟩⟩
    case rest =>
     clear D7; try clear C7
     obtain ⟨kq, A6, rfl, HA, D3, HO_7, HB⟩ := hcut
     cases kq with
     | zero => exact absurd HA.out (by simp [aJ.j1])
     | succ C5 =>
      have H := HA.out
      clear HA
      simp only [aJ.j1] at H
      by_cases c12 : A6 = true
      ·subst c12
       have H1 : (if 0 ≤ A1 then (if A1 < (a2.size : Int) then ((aI.f C5 A2 (bt a2 A1)).bind fun B7 => (aJ.l0 C5 a2 B7 (wrap64 (A1 + 1)))) else (none)) else (none)) = some r := by rw [if_pos rfl] at H; exact H
       clear H
       have H := H1
       clear H1
       replace H := ig_ H; obtain ⟨c13, H⟩ := H
       have F3 := decide_eq_true c13
       clear c13
       replace H := ig_ H; obtain ⟨c14, H⟩ := H
       have F4 := decide_eq_true c14
       clear c14
       replace H := bo_ H; obtain ⟨B7, G8, H⟩ := H; (try dsimp only at H)
       have H' := a_ H
       clear H
       have F5 : 0 ≤ (A1 : Int) := of_decide_eq_true aG
       have F6 : A1 < (a2.size : Int) := of_decide_eq_true aG
       have hx15 := jI a2 A1
       replace F5 := eq_true F5
       replace F6 := eq_true F6
       obtain ⟨D8, D9, E0⟩ := Kd.bg HO_7.out
       subst E0
       go_wp2_with (first | ((with_reducible refine av (f := 98) rfl ?_); refine bI (some 32) rfl rfl Tryz.func98 (by kernel_rfl) rfl #[.slice D8 A2.length D9, .int .u8 (bt a2 A1)] rfl dL ?_; (with_reducible refine (aI.calls C5 _ _ A2 (bt a2 A1) B7 _ ?side1 ?side2 G8.out).mono ?_); (case side1 => exact xS); (case side2 => exact (Kd.aH HO_7.out).2.1); rintro e H5 ⟨G9, rfl, ho0, hb⟩; refine ⟨_, rfl, ?_⟩; have D1 := a_ (Kd.bu (Kd.dF ho0 (Kd.dR (ra_ HO_7.out))) (af bO)); replace HO_7 := a_ (Kd.bB (ra_ HO_7.out) (Kd.bN ho0) hb); replace HB := df bO hb; (try clear hb); (try clear ho0)))
       go_roundg C5
       case measure => have := HK1.out; have := D3.out; omega
       case rel => exact ⟨(B7), (wrap64 (A1 + 1)), bZ, H', ⟨by have := HK1.out; have := D3.out; omega⟩, ⟨by (with_reducible repeat (first | apply Kd.aC | apply Kd.aD | apply Kd.az)); exact Kd.ae D1.out (fun _ hk => trivial)⟩, ⟨bO⟩⟩
      ·replace c12 := Bool.eq_false_iff.mpr c12
       subst c12
       have H1 : (if 0 ≤ A1 then (if A1 < (a2.size : Int) then ((ak.f C5 A2 (bt a2 A1)).bind fun C0 => (aJ.l0 C5 a2 C0 (wrap64 (A1 + 1)))) else (none)) else (none)) = some r := by rw [if_neg (show ¬ (false = true) by decide)] at H; exact H
       clear H
       have H := H1
       clear H1
       replace H := ig_ H; obtain ⟨c19, H⟩ := H
       have F7 := decide_eq_true c19
       clear c19
       replace H := ig_ H; obtain ⟨c20, H⟩ := H
       have F8 := decide_eq_true c20
       clear c20
       replace H := bo_ H; obtain ⟨C0, H0, H⟩ := H; (try dsimp only at H)
       have H' := a_ H
       clear H
       have F9 : 0 ≤ (A1 : Int) := of_decide_eq_true aG
       have G0 : A1 < (a2.size : Int) := of_decide_eq_true aG
       have hx21 := jI a2 A1
       replace F9 := eq_true F9
       replace G0 := eq_true G0
       obtain ⟨E1, E2, E3⟩ := Kd.bg HO_7.out
       subst E3
       go_wp2_with (first | ((with_reducible refine av (f := 99) rfl ?_); refine bI (some 37) rfl rfl Tryz.func99 (by kernel_rfl) rfl #[.slice E1 A2.length E2, .int .u8 (bt a2 A1)] rfl dL ?_; (with_reducible refine (ak.calls C5 _ _ A2 (bt a2 A1) C0 _ ?side1 ?side2 H0.out).mono ?_); (case side1 => exact xS); (case side2 => exact (Kd.aH HO_7.out).2.1); rintro e H6 ⟨H2, rfl, ho0, hb⟩; refine ⟨_, rfl, ?_⟩; have D2 := a_ (Kd.bu (Kd.dF ho0 (Kd.dR (ra_ HO_7.out))) (af bO)); replace HO_7 := a_ (Kd.bB (ra_ HO_7.out) (Kd.bN ho0) hb); replace HB := df bO hb; (try clear hb); (try clear ho0)))
       go_roundg C5
       case measure => have := HK1.out; have := D3.out; omega
       case rel => exact ⟨(C0), (wrap64 (A1 + 1)), bZ, H', ⟨by have := HK1.out; have := D3.out; omega⟩, ⟨by (with_reducible repeat (first | apply Kd.aC | apply Kd.aD | apply Kd.az)); exact Kd.ae D2.out (fun _ hk => trivial)⟩, ⟨bO⟩⟩
   rw [if_neg c6] at H
   have C7 := decide_eq_false c6
   clear c6
   replace H := ig_ H; obtain ⟨c25, H⟩ := H
   have G1 := decide_eq_true c25
   have G2 : decide (0 < A2.length) = true := decide_eq_true (by omega)
   clear c25
   replace H := ig_ H; obtain ⟨c26, H⟩ := H
   have G3 := decide_eq_true c26
   have G4 : decide (0 < (bJ A2 0).length) = true := decide_eq_true (by omega)
   clear c26
   obtain rfl := Option.some.inj H
   obtain ⟨H3, H4, E4⟩ := Kd.bg HO_7.out
   subst E4
   have C1 : 0 ≤ (0 : Int) := (by omega)
   have C2 : 0 < (A2.length : Int) := of_decide_eq_true aG
   obtain ⟨G5, E5, E6, E7, A3, A7, A8⟩ := kD (Kd.aH HO_7.out).2.2 0 C1 C2
   cases E7
   obtain ⟨ce238, hce238, hMe238, hcc238⟩ := Kd.wU HO_7.out [] 0 C1 (by first | exact C2 | exact of_decide_eq_true aG | (have e_ := (Kd.aH HO_7.out).1; omega))
   obtain ⟨ve238_0, rfl, ge238_0⟩ := hMe238
   have hv238_0 := hcc238 0 _ rfl
   rw [Nat.add_zero, show ((Kd.slice 61 (Kd.slice 64 k64))).sz = 1 from rfl, Nat.mul_one] at hv238_0
   replace hv238_0 := Option.some.inj (hv238_0.symm.trans A3)
   rw [hv238_0] at ge238_0
   have HL238_0 := a_ (show Kd.R (Kd.slice 64 k64) 61 _ _ _ _ (bJ A2 0) from ge238_0)
   clear hv238_0 ge238_0
   clear hcc238 hce238
   have qi238 : (0 < A2.length) = True := eq_true (by omega)
   (try rw [show ((0 : Int)).toNat = 0 from rfl] at A3)
   (try rw [Addr.add_zero'] at A3)
   have A9 := a_ A8
   have D4 := a_ A7
   clear A8 A7
   replace C1 := eq_true C1
   replace C2 := eq_true C2
   have C3 : 0 ≤ (0 : Int) := (by omega)
   have C4 : 0 < ((bJ A2 0).length : Int) := of_decide_eq_true aG
   obtain ⟨G6, E8, E9, F0, A5, B0, B3⟩ := kT (by repeat (first | (with_reducible exact A9.out) | (with_reducible refine Kd.dH ?_ _) | (with_reducible refine Kd.dJ ?_ _) | (with_reducible refine Kd.dX ?_) | exact A9.out)) 0 C3 C4
   cases F0
   obtain ⟨ce239, hce239, hMe239, hcc239⟩ := Kd.wU HL238_0.out [] 0 C3 (by first | exact C4 | exact of_decide_eq_true aG | (have e_ := (Kd.aH HL238_0.out).1; omega))
   obtain ⟨ve239_0, rfl, ge239_0⟩ := hMe239
   have hv239_0 := hcc239 0 _ rfl
   rw [Nat.add_zero, show ((Kd.slice 64 k64)).sz = 1 from rfl, Nat.mul_one] at hv239_0
   replace hv239_0 := Option.some.inj (hv239_0.symm.trans A5)
   rw [hv239_0] at ge239_0
   have HL239_0 := a_ (show Kd.R k64 64 _ _ _ _ (dY (bJ A2 0) 0) from ge239_0)
   clear hv239_0 ge239_0
   clear hcc239 hce239
   have qi239 : (0 < (bJ A2 0).length) = True := eq_true (by omega)
   (try rw [show ((0 : Int)).toNat = 0 from rfl] at A5)
   (try rw [Addr.add_zero'] at A5)
   have D5 := a_ B3
   have D6 := a_ B0
   clear B3 B0
   replace C3 := eq_true C3
   replace C4 := eq_true C4
   go_wp2
   go_ret
   exact ⟨_, fO, by (with_reducible repeat (first | apply Kd.aC | apply Kd.aD | apply Kd.az)); exact Kd.ae HL239_0.out (fun _ hk => trivial), bO⟩
def fJ.f (a0_0 : Int) (a0_1 : Int) (a0_2 : Bool) (a0_3 : Bool) : Option (Bool) := some (a0_2 != a0_3)
theorem fJ.calls (a0_0 : Int) (a0_1 : Int) (a0_2 : Bool) (a0_3 : Bool) (r : Bool) (w : World) (h : fJ.f a0_0 a0_1 a0_2 a0_3 = some r) :
  Calls Tryz.prog 83 #[.agg #[.int .i64 a0_0, .int .i64 a0_1, .bool a0_2, .bool a0_3]] w fun e w' => e = .returned (.bool r) ∧ Below w.heap.size w w' := by
 have hu64 := Tryz.underlying64
 have HB := a_ (Below.refl w.heap.size w)
 have H : (some (a0_2 != a0_3)) = some r := h
 clear h
 obtain rfl := Option.some.inj H
 go_enter Tryz.func83, Tryz.ntmps83
 go_wp2_with (first | ((with_reducible refine bf (N := 1) rfl ?_); refine cz ?hg (N := 1) ?hd (cs := #[.int .i64 a0_0, .int .i64 a0_1, .bool a0_2, .bool a0_3]) (t := 64) ?hr ?_; (case hd => rfl); (case hg => rfl); (case hr => first | (go_simp; done) | (go_simp; rfl)); intro A1 hg w2 hbox hb; have A2 := a_ (hbox); have B4 := a_ ((fG : w.heap.size ≤ A1)); have A3 := a_ ((fG : w.heap.size ≤ A1)); replace HB := df bO hb; clear hb hbox hg; obtain ⟨A4, A5, A6, A7, A8, A9, B0, B3⟩ := oz (w := w2) A2.out))
 go_ret
 exact ⟨fO, by repeat (first | (with_reducible first | exact HB.out | apply aW | apply aN | apply aU | refine bi ?_ A3.out) | exact HB.out)⟩
mutual
def bn.l0 : Nat → List (S64) → List Int → Int → Int → Int → List Int → List Int → List Int → Option (List Int)
 | 0, _, _, _, _, _, _, _, _ => none
 | k + 1, x5, x6, x7, x248000, x248001, x248002, x248003, x248004 => if x7 < (x5.length : Int) then (if 0 ≤ x7 then (if 0 ≤ (wrap64 ((wrap64 (((aa x5 x7).f1) * x248000)) + ((aa x5 x7).f0))) then (if (wrap64 ((wrap64 (((aa x5 x7).f1) * x248000)) + ((aa x5 x7).f0))) < (x248002.length : Int) then (if 0 ≤ (wrap64 ((wrap64 ((wrap64 ((wrap64 (((aa x5 x7).f1) * x248000)) + x248000)) - 1)) - ((aa x5 x7).f0))) then (if (wrap64 ((wrap64 ((wrap64 ((wrap64 (((aa x5 x7).f1) * x248000)) + x248000)) - 1)) - ((aa x5 x7).f0))) < (x248003.length : Int) then ((fJ.f ((aa x5 x7).f0) ((aa x5 x7).f1) ((aa x5 x7).f2) ((aa x5 x7).f3)).bind fun t258 => (if t258 = true then (bn.j1 k x5 x6 x7 (wrap64 ((wrap64 (((aa x5 x7).f1) * x248000)) + ((aa x5 x7).f0))) (rd x248003 (wrap64 ((wrap64 ((wrap64 ((wrap64 (((aa x5 x7).f1) * x248000)) + x248000)) - 1)) - ((aa x5 x7).f0)))) (rd x248002 (wrap64 ((wrap64 (((aa x5 x7).f1) * x248000)) + ((aa x5 x7).f0)))) x248000 x248001 x248002 x248003 x248004 ((aa x5 x7).f0) ((aa x5 x7).f1) ((aa x5 x7).f2) ((aa x5 x7).f3)) else (bn.j1 k x5 x6 x7 (wrap64 ((wrap64 (((aa x5 x7).f1) * x248000)) + ((aa x5 x7).f0))) (rd x248002 (wrap64 ((wrap64 (((aa x5 x7).f1) * x248000)) + ((aa x5 x7).f0)))) (rd x248003 (wrap64 ((wrap64 ((wrap64 ((wrap64 (((aa x5 x7).f1) * x248000)) + x248000)) - 1)) - ((aa x5 x7).f0)))) x248000 x248001 x248002 x248003 x248004 ((aa x5 x7).f0) ((aa x5 x7).f1) ((aa x5 x7).f2) ((aa x5 x7).f3)))) else (none)) else (none)) else (none)) else (none)) else (none)) else (some x6)
def bn.j1 : Nat → List (S64) → List Int → Int → Int → Int → Int → Int → Int → List Int → List Int → List Int → Int → Int → Bool → Bool → Option (List Int)
 | 0, _, _, _, _, _, _, _, _, _, _, _, _, _, _, _ => none
 | k + 1, x5, x6, x7, x9, x10, x11, x248000, x248001, x248002, x248003, x248004, x256000, x256001, x256002, x256003 => if 0 ≤ x9 then (if x9 < (x248004.length : Int) then (if (x256003 != ((rd x248004 x9) == 1)) = true then ((some (([wrap64 (-x10), wrap64 (-x11)] : List Int) : List Int)).bind fun y260 => (if x6.length + y260.length < 17592186044416 then (bn.l0 k x5 (x6 ++ y260) (wrap64 (x7 + 1)) x248000 x248001 x248002 x248003 x248004) else (none))) else ((some (([x10, x11] : List Int) : List Int)).bind fun y266 => (if x6.length + y266.length < 17592186044416 then (bn.l0 k x5 (x6 ++ y266) (wrap64 (x7 + 1)) x248000 x248001 x248002 x248003 x248004) else (none)))) else (none)) else (none)
end
def bn.f (k : Nat) (a0_0 : Int) (a0_1 : Int) (l0_2 : List Int) (l0_3 : List Int) (l0_4 : List Int) (a1 : ByteArray) : Option (List Int) := (aJ.f k a0_0 a0_1 a1).bind fun t248 => (bn.l0 k t248 (([] : List Int)) 0 a0_0 a0_1 l0_2 l0_3 l0_4)
theorem bn.di : ∀ k, (∀ y0 y1 y2 y3 y4 y5 y6 y7, LeO (bn.l0 k y0 y1 y2 y3 y4 y5 y6 y7) (bn.l0 (k + 1) y0 y1 y2 y3 y4 y5 y6 y7)) ∧ (∀ y0 y1 y2 y3 y4 y5 y6 y7 y8 y9 y10 y11 y12 y13 y14, LeO (bn.j1 k y0 y1 y2 y3 y4 y5 y6 y7 y8 y9 y10 y11 y12 y13 y14) (bn.j1 (k + 1) y0 y1 y2 y3 y4 y5 y6 y7 y8 y9 y10 y11 y12 y13 y14))
 | 0 => ⟨fun _ _ _ _ _ _ _ _ r h => by simp [bn.l0] at h, fun _ _ _ _ _ _ _ _ _ _ _ _ _ _ _ r h => by simp [bn.j1] at h⟩
 | k + 1 => by
  obtain ⟨ih0, ih1⟩ := bn.di k
  refine ⟨?_, ?_⟩ <;> intros <;> (first | unfold bn.l0 | unfold bn.j1) <;> (repeat' first | (with_reducible first | exact ih0 .. | exact ih1 .. | exact aJ.mono .. | exact LeO.refl .. | exact LeO.none .. | refine LeO.ite ?_ ?_ | refine LeO.bind ?_ (fun _ => ?_)))
theorem bn.mono : ∀ a0 a1 a2 a3 a4 a5 k, LeO (bn.f k a0 a1 a2 a3 a4 a5) (bn.f (k + 1) a0 a1 a2 a3 a4 a5) := by
 intro a0 a1 a2 a3 a4 a5 k
 obtain ⟨ih0, ih1⟩ := bn.di k
 unfold bn.f
 repeat' first | (with_reducible first | exact ih0 .. | exact ih1 .. | exact aJ.mono .. | exact LeO.refl .. | exact LeO.none .. | refine LeO.ite ?_ ?_ | refine LeO.bind ?_ (fun _ => ?_))
theorem bn.calls (k : Nat) (a0_0 : Int) (a0_1 : Int) (I2 : Option Addr) (D3 : Nat) (l0_2 : List Int) (I3 : Option Addr) (D4 : Nat) (l0_3 : List Int) (D5 : Option Addr) (D6 : Nat) (l0_4 : List Int) (a1 : ByteArray) (r : List Int) (w : World) (hr0_2 : Kd.C (Kd.int .i64) w I2 l0_2.length l0_2) (hc0_2 : l0_2.length ≤ D3) (hr0_3 : Kd.C (Kd.int .i64) w I3 l0_3.length l0_3) (hc0_3 : l0_3.length ≤ D4) (hr0_4 : Kd.C (Kd.int .i64) w D5 l0_4.length l0_4) (hc0_4 : l0_4.length ≤ D6) (h : bn.f k a0_0 a0_1 l0_2 l0_3 l0_4 a1 = some r) :
  Calls Tryz.prog 72 #[.agg #[.int .i64 a0_0, .int .i64 a0_1, .slice I2 l0_2.length D3, .slice I3 l0_3.length D4, .slice D5 l0_4.length D6], .string a1] w fun e w' => ∃ v0_ : Value, e = .returned (v0_) ∧ Kd.R (Kd.int .i64) 2 w' w.heap.size (fun _ => True) v0_ r ∧ Below w.heap.size w w' := by
 have hu28 := Tryz.underlying28
 have hu64 := Tryz.underlying64
 have I5 := a_ hr0_2
 have R3 := a_ hc0_2
 clear hr0_2 hc0_2
 have I6 := a_ hr0_3
 have R4 := a_ hc0_3
 clear hr0_3 hc0_3
 have HR0_4 := a_ hr0_4
 have R5 := a_ hc0_4
 clear hr0_4 hc0_4
 have HB := a_ (Below.refl w.heap.size w)
 have H : ((aJ.f k a0_0 a0_1 a1).bind fun A2 => (bn.l0 k A2 (([] : List Int)) 0 a0_0 a0_1 l0_2 l0_3 l0_4)) = some r := h
 clear h
 replace H := bo_ H; obtain ⟨A2, A3, H⟩ := H; (try dsimp only at H)
 obtain ⟨L3, I7⟩ : ∃ y_ : List Int, y_ = (([] : List Int)) := ⟨_, rfl⟩
 replace H : (bn.l0 k A2 L3 0 a0_0 a0_1 l0_2 l0_3 l0_4) = some r := rh_ I7 H
 have D7 := a_ I7
 clear I7
 have H' := a_ H
 clear H
 go_enter Tryz.func72, Tryz.ntmps72
 go_wp2_with (first | ((with_reducible refine bf (N := 2) rfl ?_); refine cz ?hg (N := 2) ?hd (cs := #[.int .i64 a0_0, .int .i64 a0_1, .slice I2 l0_2.length D3, .slice I3 l0_3.length D4, .slice D5 l0_4.length D6]) (t := 28) ?hr ?_; (case hd => rfl); (case hg => rfl); (case hr => first | (go_simp; done) | (go_simp; rfl)); intro A8 hg w4 hbox hb; have BK247 := a_ (hbox); have K9 := a_ ((fG : w.heap.size ≤ A8)); have GE247 := a_ ((fG : w.heap.size ≤ A8)); replace HB := df bO hb; clear hb hbox hg; obtain ⟨G6, G7, G8, G9, H0, H2, H3, H4, H5, H6⟩ := eH (w := w4) BK247.out) | (go_at_call 82; (with_reducible refine (aJ.calls k a0_0 a0_1 a1 A2 _ A3.out).mono ?_); rintro e w6 ⟨L0, rfl, ho0, hb⟩; have C7 := a_ (Kd.bu ho0 (af mM)); replace BK247 := bb_ A8 BK247 hb; replace HB := df mM hb; (try clear hb); (try clear ho0)) | ((with_reducible refine bf (N := 18) rfl ?_); refine Kd.fU (Kd.int .i64) _ 2 ?hg (N := 18) ?hd (xs := ([] : List Int)) (inner := []) (ok := fun _ => True) (okp := fun _ => True) ?hr ?hp (fun _ hk => hk) trivial (Below.refl _ _) (Nat.le_refl _) (by simp) ?_; (case hd => rfl); (case hg => rfl); (case hr => first | (go_simp; done) | (go_simp; rfl)); (case hp => exact (dm.none _ _)); intro L4 w7 ho8 hb hg_ hnew_; clear hg_ hnew_; (first | rw [← D7.out] at ho8 | (simp only [Int.reduceToNat] at ho8; rw [← D7.out] at ho8)); replace C7 := rl_ C7 hb; have I8 := a_ (Kd.bu ho8 (af mM)); replace BK247 := bb_ A8 BK247 hb; replace HB := df mM hb; clear hb ho8))
 repeat (go_quiet (first | ((with_reducible refine bf (N := 2) rfl ?_); refine cz ?hg (N := 2) ?hd (cs := #[.int .i64 a0_0, .int .i64 a0_1, .slice I2 l0_2.length D3, .slice I3 l0_3.length D4, .slice D5 l0_4.length D6]) (t := 28) ?hr ?_; (case hd => rfl); (case hg => rfl); (case hr => first | (go_simp; done) | (go_simp; rfl)); intro A8 hg w4 hbox hb; have BK247 := a_ (hbox); have K9 := a_ ((fG : w.heap.size ≤ A8)); have GE247 := a_ ((fG : w.heap.size ≤ A8)); replace HB := df bO hb; clear hb hbox hg; obtain ⟨G6, G7, G8, G9, H0, H2, H3, H4, H5, H6⟩ := eH (w := w4) BK247.out) | (go_at_call 82; (with_reducible refine (aJ.calls k a0_0 a0_1 a1 A2 _ A3.out).mono ?_); rintro e w6 ⟨L0, rfl, ho0, hb⟩; have C7 := a_ (Kd.bu ho0 (af mM)); replace BK247 := bb_ A8 BK247 hb; replace HB := df mM hb; (try clear hb); (try clear ho0)) | ((with_reducible refine bf (N := 18) rfl ?_); refine Kd.fU (Kd.int .i64) _ 2 ?hg (N := 18) ?hd (xs := ([] : List Int)) (inner := []) (ok := fun _ => True) (okp := fun _ => True) ?hr ?hp (fun _ hk => hk) trivial (Below.refl _ _) (Nat.le_refl _) (by simp) ?_; (case hd => rfl); (case hg => rfl); (case hr => first | (go_simp; done) | (go_simp; rfl)); (case hp => exact (dm.none _ _)); intro L4 w7 ho8 hb hg_ hnew_; clear hg_ hnew_; (first | rw [← D7.out] at ho8 | (simp only [Int.reduceToNat] at ho8; rw [← D7.out] at ho8)); replace C7 := rl_ C7 hb; have I8 := a_ (Kd.bu ho8 (af mM)); replace BK247 := bb_ A8 BK247 hb; replace HB := df mM hb; clear hb ho8)); try go_wp2_with (first | ((with_reducible refine bf (N := 2) rfl ?_); refine cz ?hg (N := 2) ?hd (cs := #[.int .i64 a0_0, .int .i64 a0_1, .slice I2 l0_2.length D3, .slice I3 l0_3.length D4, .slice D5 l0_4.length D6]) (t := 28) ?hr ?_; (case hd => rfl); (case hg => rfl); (case hr => first | (go_simp; done) | (go_simp; rfl)); intro A8 hg w4 hbox hb; have BK247 := a_ (hbox); have K9 := a_ ((fG : w.heap.size ≤ A8)); have GE247 := a_ ((fG : w.heap.size ≤ A8)); replace HB := df bO hb; clear hb hbox hg; obtain ⟨G6, G7, G8, G9, H0, H2, H3, H4, H5, H6⟩ := eH (w := w4) BK247.out) | (go_at_call 82; (with_reducible refine (aJ.calls k a0_0 a0_1 a1 A2 _ A3.out).mono ?_); rintro e w6 ⟨L0, rfl, ho0, hb⟩; have C7 := a_ (Kd.bu ho0 (af mM)); replace BK247 := bb_ A8 BK247 hb; replace HB := df mM hb; (try clear hb); (try clear ho0)) | ((with_reducible refine bf (N := 18) rfl ?_); refine Kd.fU (Kd.int .i64) _ 2 ?hg (N := 18) ?hd (xs := ([] : List Int)) (inner := []) (ok := fun _ => True) (okp := fun _ => True) ?hr ?hp (fun _ hk => hk) trivial (Below.refl _ _) (Nat.le_refl _) (by simp) ?_; (case hd => rfl); (case hg => rfl); (case hr => first | (go_simp; done) | (go_simp; rfl)); (case hp => exact (dm.none _ _)); intro L4 w7 ho8 hb hg_ hnew_; clear hg_ hnew_; (first | rw [← D7.out] at ho8 | (simp only [Int.reduceToNat] at ho8; rw [← D7.out] at ho8)); replace C7 := rl_ C7 hb; have I8 := a_ (Kd.bu ho8 (af mM)); replace BK247 := bb_ A8 BK247 hb; replace HB := df mM hb; clear hb ho8)))
 go_loopg [6, 7] k (fun kq v6 v7 w' => ∃ (C3 : List Int) (A4 : Int), v7 = .int .i64 A4 ∧ ah (bn.l0 kq A2 C3 A4 a0_0 a0_1 l0_2 l0_3 l0_4 = some r) ∧ ah (kq ≤ k) ∧ ah (Kd.R k64 64 w' w.heap.size (fun _ => True) L0 A2) ∧ ah (Kd.R (Kd.int .i64) 2 w' w.heap.size (fun _ => True) v6 C3) ∧ ah (w'.heap[A8]? = some (.cells #[.int .i64 a0_0, .int .i64 a0_1, (.slice I2 l0_2.length D3), (.slice I3 l0_3.length D4), (.slice D5 l0_4.length D6)] 28 (0, 0))) ∧ ah (Below w.heap.size w w'))
 case atStart => exact ⟨(L3), (0), bZ, H', ⟨Nat.le_refl _⟩, ⟨by (with_reducible repeat (first | apply Kd.aC | apply Kd.aD | apply Kd.az)); exact C7.out⟩, ⟨by (with_reducible repeat (first | apply Kd.aC | apply Kd.aD | apply Kd.az)); exact I8.out⟩, ⟨zn⟩, ⟨mM⟩⟩
 case round =>
  clear H'
  try clear G6 G7 G8 G9 H0; try clear H2 H3 H4 H5 H6
  obtain ⟨C3, A4, rfl, HA, HK1, HO_5, HO_6, BK247, HB⟩ := hrel
  cases gk with
  | zero => exact absurd HA.out (by simp [bn.l0])
  | succ k1 =>
   have H := HA.out
   clear HA
   simp only [bn.l0] at H
   by_cases c9 : A4 < (A2.length : Int)
   ·rw [if_pos c9] at H
    have L5 := decide_eq_true c9
    clear c9
    replace H := ig_ H; obtain ⟨c10, H⟩ := H
    have L6 := decide_eq_true c10
    clear c10
    obtain ⟨B0, G1⟩ : ∃ j_ : Int, (wrap64 ((wrap64 (((aa A2 A4).f1) * a0_0)) + ((aa A2 A4).f0))) = j_ := ⟨_, rfl⟩
    replace H : (if 0 ≤ (B0) then (if (B0) < (l0_2.length : Int) then (if 0 ≤ (wrap64 ((wrap64 ((wrap64 ((wrap64 (((aa A2 A4).f1) * a0_0)) + a0_0)) - 1)) - ((aa A2 A4).f0))) then (if (wrap64 ((wrap64 ((wrap64 ((wrap64 (((aa A2 A4).f1) * a0_0)) + a0_0)) - 1)) - ((aa A2 A4).f0))) < (l0_3.length : Int) then ((fJ.f ((aa A2 A4).f0) ((aa A2 A4).f1) ((aa A2 A4).f2) ((aa A2 A4).f3)).bind fun G2 => (if G2 = true then (bn.j1 k1 A2 C3 A4 B0 (rd l0_3 (wrap64 ((wrap64 ((wrap64 ((wrap64 (((aa A2 A4).f1) * a0_0)) + a0_0)) - 1)) - ((aa A2 A4).f0)))) (rd l0_2 (B0)) a0_0 a0_1 l0_2 l0_3 l0_4 ((aa A2 A4).f0) ((aa A2 A4).f1) ((aa A2 A4).f2) ((aa A2 A4).f3)) else (bn.j1 k1 A2 C3 A4 B0 (rd l0_2 (B0)) (rd l0_3 (wrap64 ((wrap64 ((wrap64 ((wrap64 (((aa A2 A4).f1) * a0_0)) + a0_0)) - 1)) - ((aa A2 A4).f0)))) a0_0 a0_1 l0_2 l0_3 l0_4 ((aa A2 A4).f0) ((aa A2 A4).f1) ((aa A2 A4).f2) ((aa A2 A4).f3)))) else (none)) else (none)) else (none)) else (none)) = some r := by first | (rw [G1] at H; exact H) | (simp only [G1] at H ⊢; exact H)
    have hji11w : (IntKind.i64.wrap ((wrap64 (((aa A2 A4).f1) * a0_0)) + ((aa A2 A4).f0))) = B0 := (eU _).trans G1
    replace H := ig_ H; obtain ⟨c12, H⟩ := H
    have L7 := decide_eq_true c12
    clear c12
    replace H := ig_ H; obtain ⟨c13, H⟩ := H
    have L8 := decide_eq_true c13
    clear c13
    obtain ⟨C5, G3⟩ : ∃ j_ : Int, (wrap64 ((wrap64 ((wrap64 ((wrap64 (((aa A2 A4).f1) * a0_0)) + a0_0)) - 1)) - ((aa A2 A4).f0))) = j_ := ⟨_, rfl⟩
    replace H : (if 0 ≤ (C5) then (if (C5) < (l0_3.length : Int) then ((fJ.f ((aa A2 A4).f0) ((aa A2 A4).f1) ((aa A2 A4).f2) ((aa A2 A4).f3)).bind fun G2 => (if G2 = true then (bn.j1 k1 A2 C3 A4 B0 (rd l0_3 (C5)) (rd l0_2 (B0)) a0_0 a0_1 l0_2 l0_3 l0_4 ((aa A2 A4).f0) ((aa A2 A4).f1) ((aa A2 A4).f2) ((aa A2 A4).f3)) else (bn.j1 k1 A2 C3 A4 B0 (rd l0_2 (B0)) (rd l0_3 (C5)) a0_0 a0_1 l0_2 l0_3 l0_4 ((aa A2 A4).f0) ((aa A2 A4).f1) ((aa A2 A4).f2) ((aa A2 A4).f3)))) else (none)) else (none)) = some r := by first | (rw [G3] at H; exact H) | (simp only [G3] at H ⊢; exact H)
    have hji14w : (IntKind.i64.wrap ((wrap64 ((wrap64 ((wrap64 (((aa A2 A4).f1) * a0_0)) + a0_0)) - 1)) - ((aa A2 A4).f0))) = C5 := (eU _).trans G3
    replace H := ig_ H; obtain ⟨c15, H⟩ := H
    have L9 := decide_eq_true c15
    clear c15
    replace H := ig_ H; obtain ⟨c16, H⟩ := H
    have M0 := decide_eq_true c16
    clear c16
    replace H := bo_ H; obtain ⟨G2, Q8, H⟩ := H; (try dsimp only at H)
    have L1 := a_ H
    clear H
    obtain ⟨S2, Q9, R0⟩ := Kd.bg HO_5.out
    subst R0
    have K0 : 0 ≤ (A4 : Int) := of_decide_eq_true aG
    have K1 : A4 < (A2.length : Int) := of_decide_eq_true aG
    obtain ⟨M1, R1, K2, K3, K4, K5⟩ := qP (Kd.aH HO_5.out).2.2 A4 K0 K1
    cases R1
    replace K0 := eq_true K0
    replace K1 := eq_true K1
    go_upto_if 59 with (first | ((with_reducible refine bf (N := 8) rfl ?_); refine cz ?hg (N := 8) ?hd (cs := #[.int .i64 0, .int .i64 0, .bool false, .bool false]) (t := 64) ?hr ?_; (case hd => rfl); (case hg => rfl); (case hr => first | (go_simp; done) | (go_simp; rfl)); intro A1 hg H9 hbox hb; replace HO_5 := a_ (Kd.dN (Kd.jL (ra_ HO_5.out) A1 (Nat.le_of_eq hg.symm)) hb); replace HO_6 := rl_ HO_6 hb; have A5 := a_ (hbox); have B3 := a_ ((xQ : w.heap.size ≤ A1)); have GE255 := a_ ((xQ : w.heap.size ≤ A1)); replace HB := df mM hb; have B4 := a_ ((by rw [hg]; exact Nat.ne_of_lt (fF (g := A8) (rb_ BK247.out)) : A8 ≠ A1)); have C1 := a_ ((by rw [hg]; exact Nat.ne_of_gt (fF (g := A8) (rb_ BK247.out)) : A1 ≠ A8)); replace BK247 := bb_ A8 BK247 hb; clear hb hbox hg; have hnb21 := C1.out; have hnc21 := B4.out; obtain ⟨D9, E0, E1, E2, E3, E4, E5, E6⟩ := oz (w := H9) A5.out; obtain ⟨E7, E8, E9, F0, F1, F2, F3, F4, F5, F6⟩ := eH (w := H9) BK247.out; have C9 : 0 ≤ ((B0) : Int) := of_decide_eq_true aG; have D0 : (B0) < (l0_2.length : Int) := of_decide_eq_true aG; obtain ⟨B7, I9, hx256_0⟩ := Kd.dM I5.out (B0) C9 D0; cases I9; have hn256_0 : B7.block ≠ A1 := Nat.ne_of_lt (Nat.lt_of_lt_of_le lU B3.out); have hn256_1 : B7.block ≠ A1 := Nat.ne_of_lt (Nat.lt_of_lt_of_le lU B3.out); have hn256_2 : B7.block ≠ A1 := Nat.ne_of_lt (Nat.lt_of_lt_of_le lU B3.out); have hn256_3 : B7.block ≠ A1 := Nat.ne_of_lt (Nat.lt_of_lt_of_le lU B3.out); replace hx256_0 := (HB.out.cell (World.block_lt_of_cell? _ _ hx256_0)).trans hx256_0; replace hx256_0 := (cell_far (p := ⟨A1, 0, none⟩) Bz (.int .i64 ((aa A2 A4).f0))).trans hx256_0; replace hx256_0 := (cell_far (p := ⟨A1, 1, none⟩) BA (.int .i64 ((aa A2 A4).f1))).trans hx256_0; replace hx256_0 := (cell_far (p := ⟨A1, 2, none⟩) BB (.bool ((aa A2 A4).f2))).trans hx256_0; replace hx256_0 := (cell_far (p := ⟨A1, 3, none⟩) BC (.bool ((aa A2 A4).f3))).trans hx256_0; (try have I0 := fun (n_ : Nat) => (show ((((((H9.drewN n_).setCell ⟨A1, 0, none⟩ (.int .i64 ((aa A2 A4).f0))).setCell ⟨A1, 1, none⟩ (.int .i64 ((aa A2 A4).f1))).setCell ⟨A1, 2, none⟩ (.bool ((aa A2 A4).f2))).setCell ⟨A1, 3, none⟩ (.bool ((aa A2 A4).f3)))).cell? _ = some _ from hx256_0)); clear hn256_0; clear hn256_1; clear hn256_2; clear hn256_3; replace C9 := eq_true C9; replace D0 := eq_true D0; have D1 : 0 ≤ ((C5) : Int) := of_decide_eq_true aG; have D2 : (C5) < (l0_3.length : Int) := of_decide_eq_true aG; obtain ⟨C0, J0, hx257_0⟩ := Kd.dM I6.out (C5) D1 D2; cases J0; have hn257_0 : C0.block ≠ A1 := Nat.ne_of_lt (Nat.lt_of_lt_of_le lV B3.out); have hn257_1 : C0.block ≠ A1 := Nat.ne_of_lt (Nat.lt_of_lt_of_le lV B3.out); have hn257_2 : C0.block ≠ A1 := Nat.ne_of_lt (Nat.lt_of_lt_of_le lV B3.out); have hn257_3 : C0.block ≠ A1 := Nat.ne_of_lt (Nat.lt_of_lt_of_le lV B3.out); replace hx257_0 := (HB.out.cell (World.block_lt_of_cell? _ _ hx257_0)).trans hx257_0; replace hx257_0 := (cell_far (p := ⟨A1, 0, none⟩) BD (.int .i64 ((aa A2 A4).f0))).trans hx257_0; replace hx257_0 := (cell_far (p := ⟨A1, 1, none⟩) BF (.int .i64 ((aa A2 A4).f1))).trans hx257_0; replace hx257_0 := (cell_far (p := ⟨A1, 2, none⟩) BG (.bool ((aa A2 A4).f2))).trans hx257_0; replace hx257_0 := (cell_far (p := ⟨A1, 3, none⟩) BH (.bool ((aa A2 A4).f3))).trans hx257_0; (try have I1 := fun (n_ : Nat) => (show ((((((H9.drewN n_).setCell ⟨A1, 0, none⟩ (.int .i64 ((aa A2 A4).f0))).setCell ⟨A1, 1, none⟩ (.int .i64 ((aa A2 A4).f1))).setCell ⟨A1, 2, none⟩ (.bool ((aa A2 A4).f2))).setCell ⟨A1, 3, none⟩ (.bool ((aa A2 A4).f3)))).cell? _ = some _ from hx257_0)); clear hn257_0; clear hn257_1; clear hn257_2; clear hn257_3; replace D1 := eq_true D1; replace D2 := eq_true D2) | (go_at_call 83; (with_reducible refine (fJ.calls ((aa A2 A4).f0) ((aa A2 A4).f1) ((aa A2 A4).f2) ((aa A2 A4).f3) G2 _ Q8.out).mono ?_); rintro e R6 ⟨rfl, hb⟩; replace HO_5 := a_ (Kd.dN (rc_ (h := by exact Kd.ae (Kd.bV (p := ⟨A1, 3, none⟩) (Kd.bV (p := ⟨A1, 2, none⟩) (Kd.bV (p := ⟨A1, 1, none⟩) (Kd.bV (p := ⟨A1, 0, none⟩) (Kd.ae HO_5.out (fun k_ hk => (⟨hk, hk.2⟩ : _ ∧ k_ ≠ A1))) (fun _ hk => hk.2) (.int .i64 ((aa A2 A4).f0))) (fun _ hk => hk.2) (.int .i64 ((aa A2 A4).f1))) (fun _ hk => hk.2) (.bool ((aa A2 A4).f2))) (fun _ hk => hk.2) (.bool ((aa A2 A4).f3))) (fun _ h_ => h_.1))) hb); replace HO_6 := a_ (Kd.dN (rc_ (h := by exact Kd.ae (uF HO_6.out A5.out) (fun _ h_ => h_.1))) hb); replace BK247 := a_ (dS (g := A8) (o := .cells #[.int .i64 a0_0, .int .i64 a0_1, .slice (some B7) l0_2.length D3, .slice (some C0) l0_3.length D4, .slice D5 l0_4.length D6] 28 (0, 0)) (iI (h := by exact uP B4.out BK247.out)) hb); replace A5 := a_ (dS (g := A1) (o := .cells #[.int .i64 ((aa A2 A4).f0), .int .i64 ((aa A2 A4).f1), .bool ((aa A2 A4).f2), .bool ((aa A2 A4).f3)] 64 (0, 0)) (iI (h := by exact nS A5.out)) hb); replace HB := df iZ hb; (try clear hb); (try clear hk)))
    repeat (go_quiet (first | ((with_reducible refine bf (N := 8) rfl ?_); refine cz ?hg (N := 8) ?hd (cs := #[.int .i64 0, .int .i64 0, .bool false, .bool false]) (t := 64) ?hr ?_; (case hd => rfl); (case hg => rfl); (case hr => first | (go_simp; done) | (go_simp; rfl)); intro A1 hg H9 hbox hb; replace HO_5 := a_ (Kd.dN (Kd.jL (ra_ HO_5.out) A1 (Nat.le_of_eq hg.symm)) hb); replace HO_6 := rl_ HO_6 hb; have A5 := a_ (hbox); have B3 := a_ ((xQ : w.heap.size ≤ A1)); have GE255 := a_ ((xQ : w.heap.size ≤ A1)); replace HB := df mM hb; have B4 := a_ ((by rw [hg]; exact Nat.ne_of_lt (fF (g := A8) (rb_ BK247.out)) : A8 ≠ A1)); have C1 := a_ ((by rw [hg]; exact Nat.ne_of_gt (fF (g := A8) (rb_ BK247.out)) : A1 ≠ A8)); replace BK247 := bb_ A8 BK247 hb; clear hb hbox hg; have hnb21 := C1.out; have hnc21 := B4.out; obtain ⟨D9, E0, E1, E2, E3, E4, E5, E6⟩ := oz (w := H9) A5.out; obtain ⟨E7, E8, E9, F0, F1, F2, F3, F4, F5, F6⟩ := eH (w := H9) BK247.out; have C9 : 0 ≤ ((B0) : Int) := of_decide_eq_true aG; have D0 : (B0) < (l0_2.length : Int) := of_decide_eq_true aG; obtain ⟨B7, I9, hx256_0⟩ := Kd.dM I5.out (B0) C9 D0; cases I9; have hn256_0 : B7.block ≠ A1 := Nat.ne_of_lt (Nat.lt_of_lt_of_le lU B3.out); have hn256_1 : B7.block ≠ A1 := Nat.ne_of_lt (Nat.lt_of_lt_of_le lU B3.out); have hn256_2 : B7.block ≠ A1 := Nat.ne_of_lt (Nat.lt_of_lt_of_le lU B3.out); have hn256_3 : B7.block ≠ A1 := Nat.ne_of_lt (Nat.lt_of_lt_of_le lU B3.out); replace hx256_0 := (HB.out.cell (World.block_lt_of_cell? _ _ hx256_0)).trans hx256_0; replace hx256_0 := (cell_far (p := ⟨A1, 0, none⟩) Bz (.int .i64 ((aa A2 A4).f0))).trans hx256_0; replace hx256_0 := (cell_far (p := ⟨A1, 1, none⟩) BA (.int .i64 ((aa A2 A4).f1))).trans hx256_0; replace hx256_0 := (cell_far (p := ⟨A1, 2, none⟩) BB (.bool ((aa A2 A4).f2))).trans hx256_0; replace hx256_0 := (cell_far (p := ⟨A1, 3, none⟩) BC (.bool ((aa A2 A4).f3))).trans hx256_0; (try have I0 := fun (n_ : Nat) => (show ((((((H9.drewN n_).setCell ⟨A1, 0, none⟩ (.int .i64 ((aa A2 A4).f0))).setCell ⟨A1, 1, none⟩ (.int .i64 ((aa A2 A4).f1))).setCell ⟨A1, 2, none⟩ (.bool ((aa A2 A4).f2))).setCell ⟨A1, 3, none⟩ (.bool ((aa A2 A4).f3)))).cell? _ = some _ from hx256_0)); clear hn256_0; clear hn256_1; clear hn256_2; clear hn256_3; replace C9 := eq_true C9; replace D0 := eq_true D0; have D1 : 0 ≤ ((C5) : Int) := of_decide_eq_true aG; have D2 : (C5) < (l0_3.length : Int) := of_decide_eq_true aG; obtain ⟨C0, J0, hx257_0⟩ := Kd.dM I6.out (C5) D1 D2; cases J0; have hn257_0 : C0.block ≠ A1 := Nat.ne_of_lt (Nat.lt_of_lt_of_le lV B3.out); have hn257_1 : C0.block ≠ A1 := Nat.ne_of_lt (Nat.lt_of_lt_of_le lV B3.out); have hn257_2 : C0.block ≠ A1 := Nat.ne_of_lt (Nat.lt_of_lt_of_le lV B3.out); have hn257_3 : C0.block ≠ A1 := Nat.ne_of_lt (Nat.lt_of_lt_of_le lV B3.out); replace hx257_0 := (HB.out.cell (World.block_lt_of_cell? _ _ hx257_0)).trans hx257_0; replace hx257_0 := (cell_far (p := ⟨A1, 0, none⟩) BD (.int .i64 ((aa A2 A4).f0))).trans hx257_0; replace hx257_0 := (cell_far (p := ⟨A1, 1, none⟩) BF (.int .i64 ((aa A2 A4).f1))).trans hx257_0; replace hx257_0 := (cell_far (p := ⟨A1, 2, none⟩) BG (.bool ((aa A2 A4).f2))).trans hx257_0; replace hx257_0 := (cell_far (p := ⟨A1, 3, none⟩) BH (.bool ((aa A2 A4).f3))).trans hx257_0; (try have I1 := fun (n_ : Nat) => (show ((((((H9.drewN n_).setCell ⟨A1, 0, none⟩ (.int .i64 ((aa A2 A4).f0))).setCell ⟨A1, 1, none⟩ (.int .i64 ((aa A2 A4).f1))).setCell ⟨A1, 2, none⟩ (.bool ((aa A2 A4).f2))).setCell ⟨A1, 3, none⟩ (.bool ((aa A2 A4).f3)))).cell? _ = some _ from hx257_0)); clear hn257_0; clear hn257_1; clear hn257_2; clear hn257_3; replace D1 := eq_true D1; replace D2 := eq_true D2) | (go_at_call 83; (with_reducible refine (fJ.calls ((aa A2 A4).f0) ((aa A2 A4).f1) ((aa A2 A4).f2) ((aa A2 A4).f3) G2 _ Q8.out).mono ?_); rintro e R6 ⟨rfl, hb⟩; replace HO_5 := a_ (Kd.dN (rc_ (h := by exact Kd.ae (Kd.bV (p := ⟨A1, 3, none⟩) (Kd.bV (p := ⟨A1, 2, none⟩) (Kd.bV (p := ⟨A1, 1, none⟩) (Kd.bV (p := ⟨A1, 0, none⟩) (Kd.ae HO_5.out (fun k_ hk => (⟨hk, hk.2⟩ : _ ∧ k_ ≠ A1))) (fun _ hk => hk.2) (.int .i64 ((aa A2 A4).f0))) (fun _ hk => hk.2) (.int .i64 ((aa A2 A4).f1))) (fun _ hk => hk.2) (.bool ((aa A2 A4).f2))) (fun _ hk => hk.2) (.bool ((aa A2 A4).f3))) (fun _ h_ => h_.1))) hb); replace HO_6 := a_ (Kd.dN (rc_ (h := by exact Kd.ae (uF HO_6.out A5.out) (fun _ h_ => h_.1))) hb); replace BK247 := a_ (dS (g := A8) (o := .cells #[.int .i64 a0_0, .int .i64 a0_1, .slice (some B7) l0_2.length D3, .slice (some C0) l0_3.length D4, .slice D5 l0_4.length D6] 28 (0, 0)) (iI (h := by exact uP B4.out BK247.out)) hb); replace A5 := a_ (dS (g := A1) (o := .cells #[.int .i64 ((aa A2 A4).f0), .int .i64 ((aa A2 A4).f1), .bool ((aa A2 A4).f2), .bool ((aa A2 A4).f3)] 64 (0, 0)) (iI (h := by exact nS A5.out)) hb); replace HB := df iZ hb; (try clear hb); (try clear hk))); go_upto_if 59 with (first | ((with_reducible refine bf (N := 8) rfl ?_); refine cz ?hg (N := 8) ?hd (cs := #[.int .i64 0, .int .i64 0, .bool false, .bool false]) (t := 64) ?hr ?_; (case hd => rfl); (case hg => rfl); (case hr => first | (go_simp; done) | (go_simp; rfl)); intro A1 hg H9 hbox hb; replace HO_5 := a_ (Kd.dN (Kd.jL (ra_ HO_5.out) A1 (Nat.le_of_eq hg.symm)) hb); replace HO_6 := rl_ HO_6 hb; have A5 := a_ (hbox); have B3 := a_ ((xQ : w.heap.size ≤ A1)); have GE255 := a_ ((xQ : w.heap.size ≤ A1)); replace HB := df mM hb; have B4 := a_ ((by rw [hg]; exact Nat.ne_of_lt (fF (g := A8) (rb_ BK247.out)) : A8 ≠ A1)); have C1 := a_ ((by rw [hg]; exact Nat.ne_of_gt (fF (g := A8) (rb_ BK247.out)) : A1 ≠ A8)); replace BK247 := bb_ A8 BK247 hb; clear hb hbox hg; have hnb21 := C1.out; have hnc21 := B4.out; obtain ⟨D9, E0, E1, E2, E3, E4, E5, E6⟩ := oz (w := H9) A5.out; obtain ⟨E7, E8, E9, F0, F1, F2, F3, F4, F5, F6⟩ := eH (w := H9) BK247.out; have C9 : 0 ≤ ((B0) : Int) := of_decide_eq_true aG; have D0 : (B0) < (l0_2.length : Int) := of_decide_eq_true aG; obtain ⟨B7, I9, hx256_0⟩ := Kd.dM I5.out (B0) C9 D0; cases I9; have hn256_0 : B7.block ≠ A1 := Nat.ne_of_lt (Nat.lt_of_lt_of_le lU B3.out); have hn256_1 : B7.block ≠ A1 := Nat.ne_of_lt (Nat.lt_of_lt_of_le lU B3.out); have hn256_2 : B7.block ≠ A1 := Nat.ne_of_lt (Nat.lt_of_lt_of_le lU B3.out); have hn256_3 : B7.block ≠ A1 := Nat.ne_of_lt (Nat.lt_of_lt_of_le lU B3.out); replace hx256_0 := (HB.out.cell (World.block_lt_of_cell? _ _ hx256_0)).trans hx256_0; replace hx256_0 := (cell_far (p := ⟨A1, 0, none⟩) Bz (.int .i64 ((aa A2 A4).f0))).trans hx256_0; replace hx256_0 := (cell_far (p := ⟨A1, 1, none⟩) BA (.int .i64 ((aa A2 A4).f1))).trans hx256_0; replace hx256_0 := (cell_far (p := ⟨A1, 2, none⟩) BB (.bool ((aa A2 A4).f2))).trans hx256_0; replace hx256_0 := (cell_far (p := ⟨A1, 3, none⟩) BC (.bool ((aa A2 A4).f3))).trans hx256_0; (try have I0 := fun (n_ : Nat) => (show ((((((H9.drewN n_).setCell ⟨A1, 0, none⟩ (.int .i64 ((aa A2 A4).f0))).setCell ⟨A1, 1, none⟩ (.int .i64 ((aa A2 A4).f1))).setCell ⟨A1, 2, none⟩ (.bool ((aa A2 A4).f2))).setCell ⟨A1, 3, none⟩ (.bool ((aa A2 A4).f3)))).cell? _ = some _ from hx256_0)); clear hn256_0; clear hn256_1; clear hn256_2; clear hn256_3; replace C9 := eq_true C9; replace D0 := eq_true D0; have D1 : 0 ≤ ((C5) : Int) := of_decide_eq_true aG; have D2 : (C5) < (l0_3.length : Int) := of_decide_eq_true aG; obtain ⟨C0, J0, hx257_0⟩ := Kd.dM I6.out (C5) D1 D2; cases J0; have hn257_0 : C0.block ≠ A1 := Nat.ne_of_lt (Nat.lt_of_lt_of_le lV B3.out); have hn257_1 : C0.block ≠ A1 := Nat.ne_of_lt (Nat.lt_of_lt_of_le lV B3.out); have hn257_2 : C0.block ≠ A1 := Nat.ne_of_lt (Nat.lt_of_lt_of_le lV B3.out); have hn257_3 : C0.block ≠ A1 := Nat.ne_of_lt (Nat.lt_of_lt_of_le lV B3.out); replace hx257_0 := (HB.out.cell (World.block_lt_of_cell? _ _ hx257_0)).trans hx257_0; replace hx257_0 := (cell_far (p := ⟨A1, 0, none⟩) BD (.int .i64 ((aa A2 A4).f0))).trans hx257_0; replace hx257_0 := (cell_far (p := ⟨A1, 1, none⟩) BF (.int .i64 ((aa A2 A4).f1))).trans hx257_0; replace hx257_0 := (cell_far (p := ⟨A1, 2, none⟩) BG (.bool ((aa A2 A4).f2))).trans hx257_0; replace hx257_0 := (cell_far (p := ⟨A1, 3, none⟩) BH (.bool ((aa A2 A4).f3))).trans hx257_0; (try have I1 := fun (n_ : Nat) => (show ((((((H9.drewN n_).setCell ⟨A1, 0, none⟩ (.int .i64 ((aa A2 A4).f0))).setCell ⟨A1, 1, none⟩ (.int .i64 ((aa A2 A4).f1))).setCell ⟨A1, 2, none⟩ (.bool ((aa A2 A4).f2))).setCell ⟨A1, 3, none⟩ (.bool ((aa A2 A4).f3)))).cell? _ = some _ from hx257_0)); clear hn257_0; clear hn257_1; clear hn257_2; clear hn257_3; replace D1 := eq_true D1; replace D2 := eq_true D2) | (go_at_call 83; (with_reducible refine (fJ.calls ((aa A2 A4).f0) ((aa A2 A4).f1) ((aa A2 A4).f2) ((aa A2 A4).f3) G2 _ Q8.out).mono ?_); rintro e R6 ⟨rfl, hb⟩; replace HO_5 := a_ (Kd.dN (rc_ (h := by exact Kd.ae (Kd.bV (p := ⟨A1, 3, none⟩) (Kd.bV (p := ⟨A1, 2, none⟩) (Kd.bV (p := ⟨A1, 1, none⟩) (Kd.bV (p := ⟨A1, 0, none⟩) (Kd.ae HO_5.out (fun k_ hk => (⟨hk, hk.2⟩ : _ ∧ k_ ≠ A1))) (fun _ hk => hk.2) (.int .i64 ((aa A2 A4).f0))) (fun _ hk => hk.2) (.int .i64 ((aa A2 A4).f1))) (fun _ hk => hk.2) (.bool ((aa A2 A4).f2))) (fun _ hk => hk.2) (.bool ((aa A2 A4).f3))) (fun _ h_ => h_.1))) hb); replace HO_6 := a_ (Kd.dN (rc_ (h := by exact Kd.ae (uF HO_6.out A5.out) (fun _ h_ => h_.1))) hb); replace BK247 := a_ (dS (g := A8) (o := .cells #[.int .i64 a0_0, .int .i64 a0_1, .slice (some B7) l0_2.length D3, .slice (some C0) l0_3.length D4, .slice D5 l0_4.length D6] 28 (0, 0)) (iI (h := by exact uP B4.out BK247.out)) hb); replace A5 := a_ (dS (g := A1) (o := .cells #[.int .i64 ((aa A2 A4).f0), .int .i64 ((aa A2 A4).f1), .bool ((aa A2 A4).f2), .bool ((aa A2 A4).f3)] 64 (0, 0)) (iI (h := by exact nS A5.out)) hb); replace HB := df iZ hb; (try clear hb); (try clear hk))))
    (try simp only [Act.put, List.setIfInBounds_toArray, List.set_cons_zero, List.set_cons_succ])
    go_cut [10, 11] (fun v10 v11 wc => ∃ (kq : Nat) (A6 : Int) (A7 : Int), v10 = .int .i64 A6 ∧ v11 = .int .i64 A7 ∧ ah (bn.j1 kq A2 C3 A4 B0 A6 A7 a0_0 a0_1 l0_2 l0_3 l0_4 ((aa A2 A4).f0) ((aa A2 A4).f1) ((aa A2 A4).f2) ((aa A2 A4).f3) = some r) ∧ ah (kq ≤ k1) ∧ ah (Kd.R k64 64 wc w.heap.size (fun k_ => k_ ≠ A1) (.slice (some M1) A2.length Q9) A2) ∧ ah (Kd.R (Kd.int .i64) 2 wc w.heap.size (fun _ => True) u6 C3) ∧ ah (wc.heap[A8]? = some (.cells #[.int .i64 a0_0, .int .i64 a0_1, (.slice (some B7) l0_2.length D3), (.slice (some C0) l0_3.length D4), (.slice D5 l0_4.length D6)] 28 (0, 0))) ∧ ah (wc.heap[A1]? = some (.cells #[.int .i64 ((aa A2 A4).f0), .int .i64 ((aa A2 A4).f1), .bool ((aa A2 A4).f2), .bool ((aa A2 A4).f3)] 64 (0, 0))) ∧ ah (Below w.heap.size w wc))
    case first =>
     have H := L1.out
     clear L1
     by_cases c25 : G2 = true
     ·subst c25
      have H1 : (bn.j1 k1 A2 C3 A4 B0 (rd l0_3 (C5)) (rd l0_2 (B0)) a0_0 a0_1 l0_2 l0_3 l0_4 ((aa A2 A4).f0) ((aa A2 A4).f1) ((aa A2 A4).f2) ((aa A2 A4).f3)) = some r := by rw [if_pos rfl] at H; exact H
      clear H
      have H := H1
      clear H1
      have H' := a_ H
      clear H
      go_wp2
      repeat (go_quiet (fail); try go_wp2)
      go_meet
      case rel => exact ⟨_, (rd l0_3 (C5)), (rd l0_2 (B0)), (by first | rfl | (simp; done) | (simp only [← G3] <;> (first | rfl | simp)) | (simp [*]; done)), (by first | rfl | (simp; done) | (simp only [← G1] <;> (first | rfl | simp)) | (simp [*]; done)), H', ⟨nO⟩, ⟨wO⟩, ⟨tQ⟩, ⟨zn⟩, ⟨by (with_reducible repeat (first | refine dz ?_ _ | refine bU ?_ | refine dx ?_ _)); exact A5.out⟩, ⟨iZ⟩⟩
     ·replace c25 := Bool.eq_false_iff.mpr c25
      subst c25
      have H1 : (bn.j1 k1 A2 C3 A4 B0 (rd l0_2 (B0)) (rd l0_3 (C5)) a0_0 a0_1 l0_2 l0_3 l0_4 ((aa A2 A4).f0) ((aa A2 A4).f1) ((aa A2 A4).f2) ((aa A2 A4).f3)) = some r := by rw [if_neg (show ¬ (false = true) by decide)] at H; exact H
      clear H
      have H := H1
      clear H1
      have H' := a_ H
      clear H
      go_wp2
      repeat (go_quiet (fail); try go_wp2)
      go_meet
      case rel => exact ⟨_, (rd l0_2 (B0)), (rd l0_3 (C5)), (by first | rfl | (simp; done) | (simp only [← G1] <;> (first | rfl | simp)) | (simp [*]; done)), (by first | rfl | (simp; done) | (simp only [← G3] <;> (first | rfl | simp)) | (simp [*]; done)), H', ⟨nO⟩, ⟨wO⟩, ⟨tQ⟩, ⟨zn⟩, ⟨by (with_reducible repeat (first | refine dz ?_ _ | refine bU ?_ | refine dx ?_ _)); exact A5.out⟩, ⟨iZ⟩⟩
    case rest =>
     clear L1; try clear L5; try clear L6; try clear L7; try clear L8; try clear L9; try clear M0; try clear D9 E0 E1 E2; try clear E7 E8 E9 F0 F1; try clear E3 E4 E5 E6; try clear F2 F3 F4 F5 F6; try clear K2; try clear K3; try clear K4; try clear K5; try clear hx256_0; try clear hx257_0; try clear K0; try clear C9; try clear D1; try clear K1; try clear D0; try clear D2
     obtain ⟨kq, A6, A7, rfl, rfl, HA, K6, HO_5, HO_6, BK247, A5, HB⟩ := hcut
     cases kq with
     | zero => exact absurd HA.out (by simp [bn.j1])
     | succ I4 =>
      have H := HA.out
      clear HA
      simp only [bn.j1] at H
      replace H := ig_ H; obtain ⟨c26, H⟩ := H
      have R7 := decide_eq_true c26
      clear c26
      replace H := ig_ H; obtain ⟨c27, H⟩ := H
      have R8 := decide_eq_true c27
      clear c27
      by_cases c28 : (((aa A2 A4).f3) != ((rd l0_4 B0) == 1)) = true
      ·rw [if_pos c28] at H
       have M2 : (((aa A2 A4).f3) != ((rd l0_4 B0) == 1)) = true := c28
       (try (have M3 : decide (((aa A2 A4).f3) = ((rd l0_4 B0) == 1)) = false := by simpa using c28))
       (try (have M4 : (((aa A2 A4).f3) == ((rd l0_4 B0) == 1)) = false := by simpa using c28))
       (try (have R9 : ¬ (((aa A2 A4).f3) = ((rd l0_4 B0) == 1)) := by simpa using c28))
       clear c28
       obtain ⟨C8, J1⟩ : ∃ y_ : List Int, y_ = (([wrap64 (-A6), wrap64 (-A7)] : List Int)) := ⟨_, rfl⟩
       replace H : (if C3.length + C8.length < 17592186044416 then (bn.l0 I4 A2 (C3 ++ C8) (wrap64 (A4 + 1)) a0_0 a0_1 l0_2 l0_3 l0_4) else (none)) = some r := rh_ J1 H
       have C6 := a_ J1
       clear J1
       replace H := ig_ H; obtain ⟨c29, H⟩ := H
       have LMc29 := a_ c29
       clear c29
       obtain ⟨M5, J2⟩ : ∃ y_ : List Int, y_ = (C3 ++ C8) := ⟨_, rfl⟩
       replace H : (bn.l0 I4 A2 M5 (wrap64 (A4 + 1)) a0_0 a0_1 l0_2 l0_3 l0_4) = some r := rh_ J2 H
       have G4 := a_ J2
       clear J2
       have H' := a_ H
       clear H
       have hnb30 := C1.out
       have hnc30 := B4.out
       obtain ⟨N0, N1, N2, N3, N4, N5, N6, N7⟩ := oz (w := wc) A5.out
       obtain ⟨N8, N9, O0, O1, O2, O3, O4, O5, O6, O7⟩ := eH (w := wc) BK247.out
       have H7 : 0 ≤ (B0 : Int) := of_decide_eq_true aG
       have H8 : B0 < (l0_4.length : Int) := of_decide_eq_true aG
       obtain ⟨M6, L2, C4⟩ := Kd.dM HR0_4.out B0 H7 H8
       cases L2
       replace C4 := (HB.out.cell (World.block_lt_of_cell? _ _ C4)).trans C4
       replace H7 := eq_true H7
       replace H8 := eq_true H8
       go_wp2_with (first | ((with_reducible refine bf (N := 78) rfl ?_); refine Kd.fU (Kd.int .i64) _ 2 ?hg (N := 78) ?hd (xs := ([wrap64 (-A6), wrap64 (-A7)] : List Int)) (inner := [.int .i64 (wrap64 (-A6)), .int .i64 (wrap64 (-A7))]) (ok := fun _ => True) (okp := fun _ => True) ?hr ?hp (fun _ hk => hk) trivial (Below.refl _ _) (Nat.le_refl _) (by simp) ?_; (case hd => rfl); (case hg => rfl); (case hr => first | (go_simp; done) | (go_simp; rfl)); (case hp => exact (dm.one (show Kd.M (Kd.int .i64) _ _ _ (wrap64 (-A6)) [.int .i64 (wrap64 (-A6))] from rfl) (dm.one (show Kd.M (Kd.int .i64) _ _ _ (wrap64 (-A7)) [.int .i64 (wrap64 (-A7))] from rfl) (dm.none _ _)))); intro K7 O8 ho34 hb hg_ hnew_; clear hg_ hnew_; (first | rw [← C6.out] at ho34 | (simp only [Int.reduceToNat] at ho34; rw [← C6.out] at ho34)); replace HO_5 := rl_ HO_5 hb; have A9 := a_ (Kd.bu (Kd.dF ho34 (Kd.dR (ra_ HO_6.out))) (af iZ)); replace HO_6 := a_ (Kd.bB (ra_ HO_6.out) (Kd.bN ho34) hb); replace BK247 := bb_ A8 BK247 hb; replace A5 := bb_ A1 A5 hb; replace HB := df iZ hb; clear hb ho34; obtain ⟨F7, F8, F9⟩ := Kd.bg A9.out; subst F9) | ((with_reducible refine bF (b := .append) (xs := #[.tmp 75, .tmp 78]) rfl ?_); at_builtin; refine Kd.dO (Kd.int .i64) (w0 := w) w.heap.size rfl (.tmp 75) (.tmp 78) 22 2 (.int .i64 0) 8 rfl Tryz.underlying22 jc rfl (by decide) (by omega) u6 C3 C8 _ _ _ (fun k_ => nb_ k_ F7 C8.length F8) (fun _ => False) rfl rfl ?aO ?aR (fun _ _ h => h) (fun _ h => h.elim) ?aF ?aB ?aS ?aL ?_; (case aR => repeat (first | exact (Kd.aH A9.out).2.2 | (with_reducible refine Kd.dH ?_ _) | (with_reducible refine Kd.dJ ?_ _) | (with_reducible refine Kd.dX ?_))); (case aB => exact iZ); (case aF => exact (fun k_ hk => Kd.fe (Kd.dR (ra_ A9.out)) k_ hk)); (case aO => exact (rc_ (h := by exact Kd.ae HO_6.out (fun _ hk => hk.2)))); (case aS => exact (af iZ)); (case aL => have := LMc29.out; omega); intro K8 O9 ho hb hg hat; rw [← G4.out] at ho; replace HO_5 := a_ (Kd.iH (ra_ HO_5.out) (Kd.fV (ra_ HO_6.out)) (by decide) hg); replace BK247 := a_ (dA (g := A8) (rb_ BK247.out) hg (Kd.gp HO_6.out BK247.out (by decide))); replace A5 := a_ (dA (g := A1) (rb_ A5.out) hg (Kd.gp HO_6.out A5.out (by decide))); replace A9 := a_ (Kd.dn (ok := (fun _ => True)) (ra_ A9.out) hg hat); replace HB := a_ (hb); have G5 := a_ (ho); clear HO_6; clear ho hb hg hat))
       repeat (go_quiet (first | ((with_reducible refine bf (N := 78) rfl ?_); refine Kd.fU (Kd.int .i64) _ 2 ?hg (N := 78) ?hd (xs := ([wrap64 (-A6), wrap64 (-A7)] : List Int)) (inner := [.int .i64 (wrap64 (-A6)), .int .i64 (wrap64 (-A7))]) (ok := fun _ => True) (okp := fun _ => True) ?hr ?hp (fun _ hk => hk) trivial (Below.refl _ _) (Nat.le_refl _) (by simp) ?_; (case hd => rfl); (case hg => rfl); (case hr => first | (go_simp; done) | (go_simp; rfl)); (case hp => exact (dm.one (show Kd.M (Kd.int .i64) _ _ _ (wrap64 (-A6)) [.int .i64 (wrap64 (-A6))] from rfl) (dm.one (show Kd.M (Kd.int .i64) _ _ _ (wrap64 (-A7)) [.int .i64 (wrap64 (-A7))] from rfl) (dm.none _ _)))); intro K7 O8 ho34 hb hg_ hnew_; clear hg_ hnew_; (first | rw [← C6.out] at ho34 | (simp only [Int.reduceToNat] at ho34; rw [← C6.out] at ho34)); replace HO_5 := rl_ HO_5 hb; have A9 := a_ (Kd.bu (Kd.dF ho34 (Kd.dR (ra_ HO_6.out))) (af iZ)); replace HO_6 := a_ (Kd.bB (ra_ HO_6.out) (Kd.bN ho34) hb); replace BK247 := bb_ A8 BK247 hb; replace A5 := bb_ A1 A5 hb; replace HB := df iZ hb; clear hb ho34; obtain ⟨F7, F8, F9⟩ := Kd.bg A9.out; subst F9) | ((with_reducible refine bF (b := .append) (xs := #[.tmp 75, .tmp 78]) rfl ?_); at_builtin; refine Kd.dO (Kd.int .i64) (w0 := w) w.heap.size rfl (.tmp 75) (.tmp 78) 22 2 (.int .i64 0) 8 rfl Tryz.underlying22 jc rfl (by decide) (by omega) u6 C3 C8 _ _ _ (fun k_ => nb_ k_ F7 C8.length F8) (fun _ => False) rfl rfl ?aO ?aR (fun _ _ h => h) (fun _ h => h.elim) ?aF ?aB ?aS ?aL ?_; (case aR => repeat (first | exact (Kd.aH A9.out).2.2 | (with_reducible refine Kd.dH ?_ _) | (with_reducible refine Kd.dJ ?_ _) | (with_reducible refine Kd.dX ?_))); (case aB => exact iZ); (case aF => exact (fun k_ hk => Kd.fe (Kd.dR (ra_ A9.out)) k_ hk)); (case aO => exact (rc_ (h := by exact Kd.ae HO_6.out (fun _ hk => hk.2)))); (case aS => exact (af iZ)); (case aL => have := LMc29.out; omega); intro K8 O9 ho hb hg hat; rw [← G4.out] at ho; replace HO_5 := a_ (Kd.iH (ra_ HO_5.out) (Kd.fV (ra_ HO_6.out)) (by decide) hg); replace BK247 := a_ (dA (g := A8) (rb_ BK247.out) hg (Kd.gp HO_6.out BK247.out (by decide))); replace A5 := a_ (dA (g := A1) (rb_ A5.out) hg (Kd.gp HO_6.out A5.out (by decide))); replace A9 := a_ (Kd.dn (ok := (fun _ => True)) (ra_ A9.out) hg hat); replace HB := a_ (hb); have G5 := a_ (ho); clear HO_6; clear ho hb hg hat)); try go_wp2_with (first | ((with_reducible refine bf (N := 78) rfl ?_); refine Kd.fU (Kd.int .i64) _ 2 ?hg (N := 78) ?hd (xs := ([wrap64 (-A6), wrap64 (-A7)] : List Int)) (inner := [.int .i64 (wrap64 (-A6)), .int .i64 (wrap64 (-A7))]) (ok := fun _ => True) (okp := fun _ => True) ?hr ?hp (fun _ hk => hk) trivial (Below.refl _ _) (Nat.le_refl _) (by simp) ?_; (case hd => rfl); (case hg => rfl); (case hr => first | (go_simp; done) | (go_simp; rfl)); (case hp => exact (dm.one (show Kd.M (Kd.int .i64) _ _ _ (wrap64 (-A6)) [.int .i64 (wrap64 (-A6))] from rfl) (dm.one (show Kd.M (Kd.int .i64) _ _ _ (wrap64 (-A7)) [.int .i64 (wrap64 (-A7))] from rfl) (dm.none _ _)))); intro K7 O8 ho34 hb hg_ hnew_; clear hg_ hnew_; (first | rw [← C6.out] at ho34 | (simp only [Int.reduceToNat] at ho34; rw [← C6.out] at ho34)); replace HO_5 := rl_ HO_5 hb; have A9 := a_ (Kd.bu (Kd.dF ho34 (Kd.dR (ra_ HO_6.out))) (af iZ)); replace HO_6 := a_ (Kd.bB (ra_ HO_6.out) (Kd.bN ho34) hb); replace BK247 := bb_ A8 BK247 hb; replace A5 := bb_ A1 A5 hb; replace HB := df iZ hb; clear hb ho34; obtain ⟨F7, F8, F9⟩ := Kd.bg A9.out; subst F9) | ((with_reducible refine bF (b := .append) (xs := #[.tmp 75, .tmp 78]) rfl ?_); at_builtin; refine Kd.dO (Kd.int .i64) (w0 := w) w.heap.size rfl (.tmp 75) (.tmp 78) 22 2 (.int .i64 0) 8 rfl Tryz.underlying22 jc rfl (by decide) (by omega) u6 C3 C8 _ _ _ (fun k_ => nb_ k_ F7 C8.length F8) (fun _ => False) rfl rfl ?aO ?aR (fun _ _ h => h) (fun _ h => h.elim) ?aF ?aB ?aS ?aL ?_; (case aR => repeat (first | exact (Kd.aH A9.out).2.2 | (with_reducible refine Kd.dH ?_ _) | (with_reducible refine Kd.dJ ?_ _) | (with_reducible refine Kd.dX ?_))); (case aB => exact iZ); (case aF => exact (fun k_ hk => Kd.fe (Kd.dR (ra_ A9.out)) k_ hk)); (case aO => exact (rc_ (h := by exact Kd.ae HO_6.out (fun _ hk => hk.2)))); (case aS => exact (af iZ)); (case aL => have := LMc29.out; omega); intro K8 O9 ho hb hg hat; rw [← G4.out] at ho; replace HO_5 := a_ (Kd.iH (ra_ HO_5.out) (Kd.fV (ra_ HO_6.out)) (by decide) hg); replace BK247 := a_ (dA (g := A8) (rb_ BK247.out) hg (Kd.gp HO_6.out BK247.out (by decide))); replace A5 := a_ (dA (g := A1) (rb_ A5.out) hg (Kd.gp HO_6.out A5.out (by decide))); replace A9 := a_ (Kd.dn (ok := (fun _ => True)) (ra_ A9.out) hg hat); replace HB := a_ (hb); have G5 := a_ (ho); clear HO_6; clear ho hb hg hat)))
       try (have hw1_ := Go.IntWalk.i64_left (-A6); have hw2_ := Go.IntWalk.i64_left (-A7); (go_quiet (first | ((with_reducible refine bf (N := 78) rfl ?_); refine Kd.fU (Kd.int .i64) _ 2 ?hg (N := 78) ?hd (xs := ([wrap64 (-A6), wrap64 (-A7)] : List Int)) (inner := [.int .i64 (wrap64 (-A6)), .int .i64 (wrap64 (-A7))]) (ok := fun _ => True) (okp := fun _ => True) ?hr ?hp (fun _ hk => hk) trivial (Below.refl _ _) (Nat.le_refl _) (by simp) ?_; (case hd => rfl); (case hg => rfl); (case hr => first | (go_simp; done) | (go_simp; rfl)); (case hp => exact (dm.one (show Kd.M (Kd.int .i64) _ _ _ (wrap64 (-A6)) [.int .i64 (wrap64 (-A6))] from rfl) (dm.one (show Kd.M (Kd.int .i64) _ _ _ (wrap64 (-A7)) [.int .i64 (wrap64 (-A7))] from rfl) (dm.none _ _)))); intro K7 O8 ho34 hb hg_ hnew_; clear hg_ hnew_; (first | rw [← C6.out] at ho34 | (simp only [Int.reduceToNat] at ho34; rw [← C6.out] at ho34)); replace HO_5 := rl_ HO_5 hb; have A9 := a_ (Kd.bu (Kd.dF ho34 (Kd.dR (ra_ HO_6.out))) (af iZ)); replace HO_6 := a_ (Kd.bB (ra_ HO_6.out) (Kd.bN ho34) hb); replace BK247 := bb_ A8 BK247 hb; replace A5 := bb_ A1 A5 hb; replace HB := df iZ hb; clear hb ho34; obtain ⟨F7, F8, F9⟩ := Kd.bg A9.out; subst F9) | ((with_reducible refine bF (b := .append) (xs := #[.tmp 75, .tmp 78]) rfl ?_); at_builtin; refine Kd.dO (Kd.int .i64) (w0 := w) w.heap.size rfl (.tmp 75) (.tmp 78) 22 2 (.int .i64 0) 8 rfl Tryz.underlying22 jc rfl (by decide) (by omega) u6 C3 C8 _ _ _ (fun k_ => nb_ k_ F7 C8.length F8) (fun _ => False) rfl rfl ?aO ?aR (fun _ _ h => h) (fun _ h => h.elim) ?aF ?aB ?aS ?aL ?_; (case aR => repeat (first | exact (Kd.aH A9.out).2.2 | (with_reducible refine Kd.dH ?_ _) | (with_reducible refine Kd.dJ ?_ _) | (with_reducible refine Kd.dX ?_))); (case aB => exact iZ); (case aF => exact (fun k_ hk => Kd.fe (Kd.dR (ra_ A9.out)) k_ hk)); (case aO => exact (rc_ (h := by exact Kd.ae HO_6.out (fun _ hk => hk.2)))); (case aS => exact (af iZ)); (case aL => have := LMc29.out; omega); intro K8 O9 ho hb hg hat; rw [← G4.out] at ho; replace HO_5 := a_ (Kd.iH (ra_ HO_5.out) (Kd.fV (ra_ HO_6.out)) (by decide) hg); replace BK247 := a_ (dA (g := A8) (rb_ BK247.out) hg (Kd.gp HO_6.out BK247.out (by decide))); replace A5 := a_ (dA (g := A1) (rb_ A5.out) hg (Kd.gp HO_6.out A5.out (by decide))); replace A9 := a_ (Kd.dn (ok := (fun _ => True)) (ra_ A9.out) hg hat); replace HB := a_ (hb); have G5 := a_ (ho); clear HO_6; clear ho hb hg hat))); (try go_wp2_with (first | ((with_reducible refine bf (N := 78) rfl ?_); refine Kd.fU (Kd.int .i64) _ 2 ?hg (N := 78) ?hd (xs := ([wrap64 (-A6), wrap64 (-A7)] : List Int)) (inner := [.int .i64 (wrap64 (-A6)), .int .i64 (wrap64 (-A7))]) (ok := fun _ => True) (okp := fun _ => True) ?hr ?hp (fun _ hk => hk) trivial (Below.refl _ _) (Nat.le_refl _) (by simp) ?_; (case hd => rfl); (case hg => rfl); (case hr => first | (go_simp; done) | (go_simp; rfl)); (case hp => exact (dm.one (show Kd.M (Kd.int .i64) _ _ _ (wrap64 (-A6)) [.int .i64 (wrap64 (-A6))] from rfl) (dm.one (show Kd.M (Kd.int .i64) _ _ _ (wrap64 (-A7)) [.int .i64 (wrap64 (-A7))] from rfl) (dm.none _ _)))); intro K7 O8 ho34 hb hg_ hnew_; clear hg_ hnew_; (first | rw [← C6.out] at ho34 | (simp only [Int.reduceToNat] at ho34; rw [← C6.out] at ho34)); replace HO_5 := rl_ HO_5 hb; have A9 := a_ (Kd.bu (Kd.dF ho34 (Kd.dR (ra_ HO_6.out))) (af iZ)); replace HO_6 := a_ (Kd.bB (ra_ HO_6.out) (Kd.bN ho34) hb); replace BK247 := bb_ A8 BK247 hb; replace A5 := bb_ A1 A5 hb; replace HB := df iZ hb; clear hb ho34; obtain ⟨F7, F8, F9⟩ := Kd.bg A9.out; subst F9) | ((with_reducible refine bF (b := .append) (xs := #[.tmp 75, .tmp 78]) rfl ?_); at_builtin; refine Kd.dO (Kd.int .i64) (w0 := w) w.heap.size rfl (.tmp 75) (.tmp 78) 22 2 (.int .i64 0) 8 rfl Tryz.underlying22 jc rfl (by decide) (by omega) u6 C3 C8 _ _ _ (fun k_ => nb_ k_ F7 C8.length F8) (fun _ => False) rfl rfl ?aO ?aR (fun _ _ h => h) (fun _ h => h.elim) ?aF ?aB ?aS ?aL ?_; (case aR => repeat (first | exact (Kd.aH A9.out).2.2 | (with_reducible refine Kd.dH ?_ _) | (with_reducible refine Kd.dJ ?_ _) | (with_reducible refine Kd.dX ?_))); (case aB => exact iZ); (case aF => exact (fun k_ hk => Kd.fe (Kd.dR (ra_ A9.out)) k_ hk)); (case aO => exact (rc_ (h := by exact Kd.ae HO_6.out (fun _ hk => hk.2)))); (case aS => exact (af iZ)); (case aL => have := LMc29.out; omega); intro K8 O9 ho hb hg hat; rw [← G4.out] at ho; replace HO_5 := a_ (Kd.iH (ra_ HO_5.out) (Kd.fV (ra_ HO_6.out)) (by decide) hg); replace BK247 := a_ (dA (g := A8) (rb_ BK247.out) hg (Kd.gp HO_6.out BK247.out (by decide))); replace A5 := a_ (dA (g := A1) (rb_ A5.out) hg (Kd.gp HO_6.out A5.out (by decide))); replace A9 := a_ (Kd.dn (ok := (fun _ => True)) (ra_ A9.out) hg hat); replace HB := a_ (hb); have G5 := a_ (ho); clear HO_6; clear ho hb hg hat))))
       go_roundg I4
       case measure => have := HK1.out; have := K6.out; omega
       case rel => exact ⟨(M5), (wrap64 (A4 + 1)), bZ, H', ⟨by have := HK1.out; have := K6.out; omega⟩, ⟨Ac⟩, ⟨by (with_reducible repeat (first | apply Kd.aC | apply Kd.aD | apply Kd.az)); exact Kd.ae G5.out (fun _ hk => trivial)⟩, ⟨zn⟩, ⟨iZ⟩⟩
      rw [if_neg c28] at H
      have M2 : (((aa A2 A4).f3) != ((rd l0_4 B0) == 1)) = false := by simpa using c28
      (try (have M3 : decide (((aa A2 A4).f3) = ((rd l0_4 B0) == 1)) = true := by simpa using c28))
      (try (have M4 : (((aa A2 A4).f3) == ((rd l0_4 B0) == 1)) = true := by simpa using c28))
      clear c28
      obtain ⟨G0, J3⟩ : ∃ y_ : List Int, y_ = (([A6, A7] : List Int)) := ⟨_, rfl⟩
      replace H : (if C3.length + G0.length < 17592186044416 then (bn.l0 I4 A2 (C3 ++ G0) (wrap64 (A4 + 1)) a0_0 a0_1 l0_2 l0_3 l0_4) else (none)) = some r := rh_ J3 H
      have D8 := a_ J3
      clear J3
      replace H := ig_ H; obtain ⟨c37, H⟩ := H
      have LMc37 := a_ c37
      clear c37
      obtain ⟨M7, J4⟩ : ∃ y_ : List Int, y_ = (C3 ++ G0) := ⟨_, rfl⟩
      replace H : (bn.l0 I4 A2 M7 (wrap64 (A4 + 1)) a0_0 a0_1 l0_2 l0_3 l0_4) = some r := rh_ J4 H
      have J5 := a_ J4
      clear J4
      have H' := a_ H
      clear H
      have hnb38 := C1.out
      have hnc38 := B4.out
      obtain ⟨P0, P1, P2, P3, P4, P5, P6, P7⟩ := oz (w := wc) A5.out
      obtain ⟨P8, P9, Q0, Q1, Q2, Q3, Q4, Q5, Q6, Q7⟩ := eH (w := wc) BK247.out
      have H7 : 0 ≤ (B0 : Int) := of_decide_eq_true aG
      have H8 : B0 < (l0_4.length : Int) := of_decide_eq_true aG
      obtain ⟨M6, L2, C4⟩ := Kd.dM HR0_4.out B0 H7 H8
      cases L2
      replace C4 := (HB.out.cell (World.block_lt_of_cell? _ _ C4)).trans C4
      replace H7 := eq_true H7
      replace H8 := eq_true H8
      go_wp2_with (first | ((with_reducible refine bf (N := 78) rfl ?_); refine Kd.fU (Kd.int .i64) _ 2 ?hg (N := 78) ?hd (xs := ([A6, A7] : List Int)) (inner := [.int .i64 A6, .int .i64 A7]) (ok := fun _ => True) (okp := fun _ => True) ?hr ?hp (fun _ hk => hk) trivial (Below.refl _ _) (Nat.le_refl _) (by simp) ?_; (case hd => rfl); (case hg => rfl); (case hr => first | (go_simp; done) | (go_simp; rfl)); (case hp => exact (dm.one (show Kd.M (Kd.int .i64) _ _ _ A6 [.int .i64 A6] from rfl) (dm.one (show Kd.M (Kd.int .i64) _ _ _ A7 [.int .i64 A7] from rfl) (dm.none _ _)))); intro M8 S0 ho42 hb hg_ hnew_; clear hg_ hnew_; (first | rw [← D8.out] at ho42 | (simp only [Int.reduceToNat] at ho42; rw [← D8.out] at ho42)); replace HO_5 := rl_ HO_5 hb; have C2 := a_ (Kd.bu (Kd.dF ho42 (Kd.dR (ra_ HO_6.out))) (af iZ)); replace HO_6 := a_ (Kd.bB (ra_ HO_6.out) (Kd.bN ho42) hb); replace BK247 := bb_ A8 BK247 hb; replace A5 := bb_ A1 A5 hb; replace HB := df iZ hb; clear hb ho42; obtain ⟨J6, J7, J8⟩ := Kd.bg C2.out; subst J8) | ((with_reducible refine bF (b := .append) (xs := #[.tmp 75, .tmp 78]) rfl ?_); at_builtin; refine Kd.dO (Kd.int .i64) (w0 := w) w.heap.size rfl (.tmp 75) (.tmp 78) 22 2 (.int .i64 0) 8 rfl Tryz.underlying22 jc rfl (by decide) (by omega) u6 C3 G0 _ _ _ (fun k_ => nb_ k_ J6 G0.length J7) (fun _ => False) rfl rfl ?aO ?aR (fun _ _ h => h) (fun _ h => h.elim) ?aF ?aB ?aS ?aL ?_; (case aR => repeat (first | exact (Kd.aH C2.out).2.2 | (with_reducible refine Kd.dH ?_ _) | (with_reducible refine Kd.dJ ?_ _) | (with_reducible refine Kd.dX ?_))); (case aB => exact iZ); (case aF => exact (fun k_ hk => Kd.fe (Kd.dR (ra_ C2.out)) k_ hk)); (case aO => exact (rc_ (h := by exact Kd.ae HO_6.out (fun _ hk => hk.2)))); (case aS => exact (af iZ)); (case aL => have := LMc37.out; omega); intro M9 S1 ho hb hg hat; rw [← J5.out] at ho; replace HO_5 := a_ (Kd.iH (ra_ HO_5.out) (Kd.fV (ra_ HO_6.out)) (by decide) hg); replace BK247 := a_ (dA (g := A8) (rb_ BK247.out) hg (Kd.gp HO_6.out BK247.out (by decide))); replace A5 := a_ (dA (g := A1) (rb_ A5.out) hg (Kd.gp HO_6.out A5.out (by decide))); replace C2 := a_ (Kd.dn (ok := (fun _ => True)) (ra_ C2.out) hg hat); replace HB := a_ (hb); have J9 := a_ (ho); clear HO_6; clear ho hb hg hat))
      repeat (go_quiet (first | ((with_reducible refine bf (N := 78) rfl ?_); refine Kd.fU (Kd.int .i64) _ 2 ?hg (N := 78) ?hd (xs := ([A6, A7] : List Int)) (inner := [.int .i64 A6, .int .i64 A7]) (ok := fun _ => True) (okp := fun _ => True) ?hr ?hp (fun _ hk => hk) trivial (Below.refl _ _) (Nat.le_refl _) (by simp) ?_; (case hd => rfl); (case hg => rfl); (case hr => first | (go_simp; done) | (go_simp; rfl)); (case hp => exact (dm.one (show Kd.M (Kd.int .i64) _ _ _ A6 [.int .i64 A6] from rfl) (dm.one (show Kd.M (Kd.int .i64) _ _ _ A7 [.int .i64 A7] from rfl) (dm.none _ _)))); intro M8 S0 ho42 hb hg_ hnew_; clear hg_ hnew_; (first | rw [← D8.out] at ho42 | (simp only [Int.reduceToNat] at ho42; rw [← D8.out] at ho42)); replace HO_5 := rl_ HO_5 hb; have C2 := a_ (Kd.bu (Kd.dF ho42 (Kd.dR (ra_ HO_6.out))) (af iZ)); replace HO_6 := a_ (Kd.bB (ra_ HO_6.out) (Kd.bN ho42) hb); replace BK247 := bb_ A8 BK247 hb; replace A5 := bb_ A1 A5 hb; replace HB := df iZ hb; clear hb ho42; obtain ⟨J6, J7, J8⟩ := Kd.bg C2.out; subst J8) | ((with_reducible refine bF (b := .append) (xs := #[.tmp 75, .tmp 78]) rfl ?_); at_builtin; refine Kd.dO (Kd.int .i64) (w0 := w) w.heap.size rfl (.tmp 75) (.tmp 78) 22 2 (.int .i64 0) 8 rfl Tryz.underlying22 jc rfl (by decide) (by omega) u6 C3 G0 _ _ _ (fun k_ => nb_ k_ J6 G0.length J7) (fun _ => False) rfl rfl ?aO ?aR (fun _ _ h => h) (fun _ h => h.elim) ?aF ?aB ?aS ?aL ?_; (case aR => repeat (first | exact (Kd.aH C2.out).2.2 | (with_reducible refine Kd.dH ?_ _) | (with_reducible refine Kd.dJ ?_ _) | (with_reducible refine Kd.dX ?_))); (case aB => exact iZ); (case aF => exact (fun k_ hk => Kd.fe (Kd.dR (ra_ C2.out)) k_ hk)); (case aO => exact (rc_ (h := by exact Kd.ae HO_6.out (fun _ hk => hk.2)))); (case aS => exact (af iZ)); (case aL => have := LMc37.out; omega); intro M9 S1 ho hb hg hat; rw [← J5.out] at ho; replace HO_5 := a_ (Kd.iH (ra_ HO_5.out) (Kd.fV (ra_ HO_6.out)) (by decide) hg); replace BK247 := a_ (dA (g := A8) (rb_ BK247.out) hg (Kd.gp HO_6.out BK247.out (by decide))); replace A5 := a_ (dA (g := A1) (rb_ A5.out) hg (Kd.gp HO_6.out A5.out (by decide))); replace C2 := a_ (Kd.dn (ok := (fun _ => True)) (ra_ C2.out) hg hat); replace HB := a_ (hb); have J9 := a_ (ho); clear HO_6; clear ho hb hg hat)); try go_wp2_with (first | ((with_reducible refine bf (N := 78) rfl ?_); refine Kd.fU (Kd.int .i64) _ 2 ?hg (N := 78) ?hd (xs := ([A6, A7] : List Int)) (inner := [.int .i64 A6, .int .i64 A7]) (ok := fun _ => True) (okp := fun _ => True) ?hr ?hp (fun _ hk => hk) trivial (Below.refl _ _) (Nat.le_refl _) (by simp) ?_; (case hd => rfl); (case hg => rfl); (case hr => first | (go_simp; done) | (go_simp; rfl)); (case hp => exact (dm.one (show Kd.M (Kd.int .i64) _ _ _ A6 [.int .i64 A6] from rfl) (dm.one (show Kd.M (Kd.int .i64) _ _ _ A7 [.int .i64 A7] from rfl) (dm.none _ _)))); intro M8 S0 ho42 hb hg_ hnew_; clear hg_ hnew_; (first | rw [← D8.out] at ho42 | (simp only [Int.reduceToNat] at ho42; rw [← D8.out] at ho42)); replace HO_5 := rl_ HO_5 hb; have C2 := a_ (Kd.bu (Kd.dF ho42 (Kd.dR (ra_ HO_6.out))) (af iZ)); replace HO_6 := a_ (Kd.bB (ra_ HO_6.out) (Kd.bN ho42) hb); replace BK247 := bb_ A8 BK247 hb; replace A5 := bb_ A1 A5 hb; replace HB := df iZ hb; clear hb ho42; obtain ⟨J6, J7, J8⟩ := Kd.bg C2.out; subst J8) | ((with_reducible refine bF (b := .append) (xs := #[.tmp 75, .tmp 78]) rfl ?_); at_builtin; refine Kd.dO (Kd.int .i64) (w0 := w) w.heap.size rfl (.tmp 75) (.tmp 78) 22 2 (.int .i64 0) 8 rfl Tryz.underlying22 jc rfl (by decide) (by omega) u6 C3 G0 _ _ _ (fun k_ => nb_ k_ J6 G0.length J7) (fun _ => False) rfl rfl ?aO ?aR (fun _ _ h => h) (fun _ h => h.elim) ?aF ?aB ?aS ?aL ?_; (case aR => repeat (first | exact (Kd.aH C2.out).2.2 | (with_reducible refine Kd.dH ?_ _) | (with_reducible refine Kd.dJ ?_ _) | (with_reducible refine Kd.dX ?_))); (case aB => exact iZ); (case aF => exact (fun k_ hk => Kd.fe (Kd.dR (ra_ C2.out)) k_ hk)); (case aO => exact (rc_ (h := by exact Kd.ae HO_6.out (fun _ hk => hk.2)))); (case aS => exact (af iZ)); (case aL => have := LMc37.out; omega); intro M9 S1 ho hb hg hat; rw [← J5.out] at ho; replace HO_5 := a_ (Kd.iH (ra_ HO_5.out) (Kd.fV (ra_ HO_6.out)) (by decide) hg); replace BK247 := a_ (dA (g := A8) (rb_ BK247.out) hg (Kd.gp HO_6.out BK247.out (by decide))); replace A5 := a_ (dA (g := A1) (rb_ A5.out) hg (Kd.gp HO_6.out A5.out (by decide))); replace C2 := a_ (Kd.dn (ok := (fun _ => True)) (ra_ C2.out) hg hat); replace HB := a_ (hb); have J9 := a_ (ho); clear HO_6; clear ho hb hg hat)))
      go_roundg I4
      case measure => have := HK1.out; have := K6.out; omega
      case rel => exact ⟨(M7), (wrap64 (A4 + 1)), bZ, H', ⟨by have := HK1.out; have := K6.out; omega⟩, ⟨Ac⟩, ⟨by (with_reducible repeat (first | apply Kd.aC | apply Kd.aD | apply Kd.az)); exact Kd.ae J9.out (fun _ hk => trivial)⟩, ⟨zn⟩, ⟨iZ⟩⟩
   rw [if_neg c9] at H
   have L5 := decide_eq_false c9
   clear c9
   obtain rfl := Option.some.inj H
   obtain ⟨S3, S4, R2⟩ := Kd.bg HO_5.out
   subst R2
   go_wp2
   repeat (go_quiet (fail); try go_wp2)
   go_ret
   exact ⟨_, fO, tQ, mM⟩
end Go.Proofs.YtkpidjmhdagkfaaGreatDoor.QFnReadForms
