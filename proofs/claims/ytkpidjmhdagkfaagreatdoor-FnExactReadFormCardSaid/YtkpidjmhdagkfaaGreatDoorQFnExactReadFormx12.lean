-- Written by own_print.py of this session's repo over the kit's print (its output, turned at some places).
import Derived.Test.YtkpidjmhdagkfaaGreatDoorQFnExactReadFormx0
import Derived.Test.YtkpidjmhdagkfaaGreatDoorQFnExactReadFormx9
import Derived.Test.YtkpidjmhdagkfaaGreatDoorQFnExactReadFormx10
import Derived.Test.YtkpidjmhdagkfaaGreatDoorQFnExactReadFormx11
namespace Go.Proofs.YtkpidjmhdagkfaaGreatDoor.QFnExactReadForm
open Go.RowKit Go.Proofs.YtkpidjmhdagkfaaGreatDoorW.PrintWords Go.Proofs.YtkpidjmhdagkfaaGreatDoorW.PrintLast Go.Proofs.YtkpidjmhdagkfaaGreatDoorW.PrintMore
attribute [local go_sem] max2_int min2_int max_two min_two max_three min_three max_four min_four   -- for this text's walks alone
set_option linter.unusedVariables false
set_option linter.unusedSimpArgs false

/-! ### spec_l04Leaves: function 82 -/
mutual
def spec_l04Leaves.l0 : Nat → ByteArray → List (List (List (S64))) → Int → Option ((List (S64)))
 | 0, _, _, _ => none
 | k + 1, x2, x7, x8 => if x8 < (x2.size : Int) then (if 0 ≤ x8 then (if (bt x2 x8) = 76 then (spec_l04Leaves.j1 k x2 x7 x8 true) else (spec_l04Leaves.j1 k x2 x7 x8 ((bt x2 x8) == 82))) else (none)) else (if 0 < (x7.length : Int) then (if 0 < ((rd_L5 x7 0).length : Int) then (some (rd_L4 (rd_L5 x7 0) 0)) else (none)) else (none))
def spec_l04Leaves.j1 : Nat → ByteArray → List (List (List (S64))) → Int → Bool → Option ((List (S64)))
 | 0, _, _, _, _ => none
 | k + 1, x2, x7, x8, x27 => if x27 = true then (if 0 ≤ x8 then (if x8 < (x2.size : Int) then ((spec_l04Along.f k x7 (bt x2 x8)).bind fun t371 => (spec_l04Leaves.l0 k x2 t371 (wrap64 (x8 + 1)))) else (none)) else (none)) else (if 0 ≤ x8 then (if x8 < (x2.size : Int) then ((spec_l04Across.f k x7 (bt x2 x8)).bind fun t374 => (spec_l04Leaves.l0 k x2 t374 (wrap64 (x8 + 1)))) else (none)) else (none))
end
def spec_l04Leaves.f (k : Nat) (a0 : Int) (a1 : Int) (a2 : ByteArray) : Option ((List (S64))) := (spec_l04Start.f k a0 a1).bind fun t366 => (spec_l04Leaves.l0 k a2 t366 0)
theorem spec_l04Leaves.mono_l : ∀ k, (∀ y0 y1 y2, LeO (spec_l04Leaves.l0 k y0 y1 y2) (spec_l04Leaves.l0 (k + 1) y0 y1 y2)) ∧ (∀ y0 y1 y2 y3, LeO (spec_l04Leaves.j1 k y0 y1 y2 y3) (spec_l04Leaves.j1 (k + 1) y0 y1 y2 y3))
 | 0 => ⟨fun _ _ _ r h => by simp [spec_l04Leaves.l0] at h, fun _ _ _ _ r h => by simp [spec_l04Leaves.j1] at h⟩
 | k + 1 => by
  obtain ⟨ih0, ih1⟩ := spec_l04Leaves.mono_l k
  refine ⟨?_, ?_⟩
  ·intro y0 y1 y2
   unfold spec_l04Leaves.l0
   repeat' first
   | (with_reducible exact ih0 _ _ _)
   | (with_reducible exact ih1 _ _ _ _)
   | (with_reducible exact spec_l04Across.mono _ _ _)
   | (with_reducible exact spec_l04Along.mono _ _ _)
   | (with_reducible exact spec_l04Start.mono _ _ _)
   | (with_reducible exact LeO.refl _)
   | (with_reducible exact LeO.none _)
   | (with_reducible refine LeO.ite ?_ ?_)
   | (with_reducible refine LeO.bind ?_ (fun _ => ?_))
   | exact ih0 _ _ _
   | exact ih1 _ _ _ _
   | exact spec_l04Across.mono _ _ _
   | exact spec_l04Along.mono _ _ _
   | exact spec_l04Start.mono _ _ _
   | exact LeO.none _
   | refine LeO.ite ?_ ?_
   | refine LeO.bind ?_ (fun _ => ?_)
  ·intro y0 y1 y2 y3
   unfold spec_l04Leaves.j1
   repeat' first
   | (with_reducible exact ih0 _ _ _)
   | (with_reducible exact ih1 _ _ _ _)
   | (with_reducible exact spec_l04Across.mono _ _ _)
   | (with_reducible exact spec_l04Along.mono _ _ _)
   | (with_reducible exact spec_l04Start.mono _ _ _)
   | (with_reducible exact LeO.refl _)
   | (with_reducible exact LeO.none _)
   | (with_reducible refine LeO.ite ?_ ?_)
   | (with_reducible refine LeO.bind ?_ (fun _ => ?_))
   | exact ih0 _ _ _
   | exact ih1 _ _ _ _
   | exact spec_l04Across.mono _ _ _
   | exact spec_l04Along.mono _ _ _
   | exact spec_l04Start.mono _ _ _
   | exact LeO.none _
   | refine LeO.ite ?_ ?_
   | refine LeO.bind ?_ (fun _ => ?_)
theorem spec_l04Leaves.mono : ∀ a0 a1 a2 k, LeO (spec_l04Leaves.f k a0 a1 a2) (spec_l04Leaves.f (k + 1) a0 a1 a2) := by
 intro a0 a1 a2 k
 obtain ⟨ih0, ih1⟩ := spec_l04Leaves.mono_l k
 unfold spec_l04Leaves.f
 repeat' first
   | (with_reducible exact ih0 _ _ _)
   | (with_reducible exact ih1 _ _ _ _)
   | (with_reducible exact spec_l04Across.mono _ _ _)
   | (with_reducible exact spec_l04Along.mono _ _ _)
   | (with_reducible exact spec_l04Start.mono _ _ _)
   | (with_reducible exact LeO.refl _)
   | (with_reducible exact LeO.none _)
   | (with_reducible refine LeO.ite ?_ ?_)
   | (with_reducible refine LeO.bind ?_ (fun _ => ?_))
   | exact ih0 _ _ _
   | exact ih1 _ _ _ _
   | exact spec_l04Across.mono _ _ _
   | exact spec_l04Along.mono _ _ _
   | exact spec_l04Start.mono _ _ _
   | exact LeO.none _
   | refine LeO.ite ?_ ?_
   | refine LeO.bind ?_ (fun _ => ?_)
set_option maxHeartbeats 8000000 in
set_option maxRecDepth 100000 in
theorem spec_l04Leaves.calls (k : Nat) (a0 : Int) (a1 : Int) (a2 : ByteArray) (r : List (S64)) (w : World) (h : spec_l04Leaves.f k a0 a1 a2 = some r) :
  Calls Tryz.prog 82 #[.int .i64 a0, .int .i64 a1, .string a2] w fun e w' => ∃ v0_ : Value, e = .returned (v0_) ∧ Kd.R k64 64 w' w.heap.size (fun _ => True) v0_ r ∧ Below w.heap.size w w' := by
 have HB := a_ (Below.refl w.heap.size w)
 have H : ((spec_l04Start.f k a0 a1).bind fun t366 => (spec_l04Leaves.l0 k a2 t366 0)) = some r := h
 clear h
 replace H := Option.bind_eq_some_iff.mp H
 obtain ⟨t366, A40, H⟩ := H
 replace H : (spec_l04Leaves.l0 k a2 t366 0) = some r := H
 have A4 := Aside0.mk A40
 clear A40
 have H' := Aside0.mk H
 clear H
 go_enter Tryz.func82, Tryz.ntmps82
 go_wp2_with (first | ((with_reducible refine gate_callee (f := 97) rfl ?_); refine goesL_ (some 11) rfl rfl Tryz.func97 (by kernel_rfl) rfl #[.int .i64 a0, .int .i64 a1] rfl z36_ ?_; (with_reducible refine (spec_l04Start.calls k a0 a1 t366 _ A4.out).mono ?_); rintro e w5 ⟨v367, rfl, ho0, hb⟩; refine ⟨_, rfl, ?_⟩; have HO368 := a_ (Kd.R_lower ho0 (below_size z33_)); replace HB := a_ (below_step z33_ hb); (try clear hb); (try clear hb2); (try clear hk); (try clear hi); (try clear ho0)))
 go_loopg [7, 8] k (fun kq v7 v8 w' => ∃ (x7_1 : List (List (List (S64)))) (x8_1 : Int), v8 = .int .i64 x8_1 ∧ Aside0 (spec_l04Leaves.l0 kq a2 x7_1 x8_1 = some r) ∧ Aside0 (kq ≤ k) ∧ Aside0 (Kd.R (Kd.slice 61 (Kd.slice 64 k64)) 96 w' w.heap.size (fun _ => True) v7 x7_1) ∧ Aside0 (Below w.heap.size w w'))
 case atStart => exact ⟨(t366), (0), z78_, H', ⟨Nat.le_refl _⟩, ⟨by (with_reducible repeat (first | apply Kd.R_alloc | apply Kd.R_drewN | apply Kd.R_drew)); exact HO368.out⟩, ⟨z33_⟩⟩
 case round =>
  clear H'
  obtain ⟨x7_1, x8_1, rfl, HA, HK1, HO_7, HB⟩ := hrel
  cases gk with
  | zero => exact absurd HA.out (by simp [spec_l04Leaves.l0])
  | succ k1 =>
   have H := HA.out
   clear HA
   simp only [spec_l04Leaves.l0] at H
   by_cases c6 : x8_1 < (a2.size : Int)
   ·rw [if_pos c6] at H
    have c6b0 : decide (x8_1 < (a2.size : Int)) = true := decide_eq_true c6
    clear c6
    have HC7 := Aside0.mk H
    clear H
    go_upto_region 5 with (fail)
    go_cut [27] (fun v27 wc => ∃ (kq : Nat) (x27_6 : Bool), v27 = .bool x27_6 ∧ Aside0 (spec_l04Leaves.j1 kq a2 x7_1 x8_1 x27_6 = some r) ∧ Aside0 (kq ≤ k1) ∧ Aside0 (Kd.R (Kd.slice 61 (Kd.slice 64 k64)) 96 wc w.heap.size (fun _ => True) u7 x7_1) ∧ Aside0 (Below w.heap.size w wc))
    case first =>
     have H := HC7.out
     clear HC7
     by_cases c8 : 0 ≤ x8_1
     ·rw [if_pos c8] at H
      have c8b0 : decide (0 ≤ x8_1) = true := decide_eq_true c8
      clear c8
      (first | rw [c8b0] | (simp only [i64_w, i32_w]; rw [c8b0]) | skip)
      by_cases c10 : (bt a2 x8_1) = 76
      ·rw [if_pos c10] at H
       have c10b0 : ((bt a2 x8_1) == 76) = true := beq_iff_eq.mpr c10
       have c10b1 : ((bt a2 x8_1) != 76) = false := bne_eq_false_iff_eq.mpr c10
       clear c10
       have H' := Aside0.mk H
       clear H
       have p9 : 0 ≤ (x8_1 : Int) := of_decide_eq_true z77_
       have q9 : x8_1 < (a2.size : Int) := of_decide_eq_true z77_
       have hx9 := bt_at a2 x8_1
       replace p9 := eq_true p9
       replace q9 := eq_true q9
       go_wp2
       go_meet
       case rel => exact ⟨_, (true), z78_, H', ⟨z76_⟩, ⟨by (with_reducible repeat (first | apply Kd.R_alloc | apply Kd.R_drewN | apply Kd.R_drew)); exact HO_7.out⟩, ⟨z33_⟩⟩
      ·rw [if_neg c10] at H
       have c10b0 : ((bt a2 x8_1) == 76) = false := beq_eq_false_iff_ne.mpr c10
       have c10b1 : ((bt a2 x8_1) != 76) = true := bne_iff_ne.mpr c10
       have H' := Aside0.mk H
       clear H
       have p9 : 0 ≤ (x8_1 : Int) := of_decide_eq_true z77_
       have q9 : x8_1 < (a2.size : Int) := of_decide_eq_true z77_
       have hx9 := bt_at a2 x8_1
       replace p9 := eq_true p9
       replace q9 := eq_true q9
       have p11 : 0 ≤ (x8_1 : Int) := of_decide_eq_true z77_
       have q11 : x8_1 < (a2.size : Int) := of_decide_eq_true z77_
       have hx11 := bt_at a2 x8_1
       replace p11 := eq_true p11
       replace q11 := eq_true q11
       go_wp2
       go_meet
       case rel => exact ⟨_, (((bt a2 x8_1) == 82)), z78_, H', ⟨z76_⟩, ⟨by (with_reducible repeat (first | apply Kd.R_alloc | apply Kd.R_drewN | apply Kd.R_drew)); exact HO_7.out⟩, ⟨z33_⟩⟩
     ·rw [if_neg c8] at H
      exact absurd H (by simp)
    case rest =>
     clear HC7; try clear c6b0
     obtain ⟨kq, x27_6, rfl, HA, HJ6, HO_7, HB⟩ := hcut
     cases kq with
     | zero => exact absurd HA.out (by simp [spec_l04Leaves.j1])
     | succ kj6 =>
      have H := HA.out
      clear HA
      simp only [spec_l04Leaves.j1] at H
      by_cases c12 : x27_6 = true
      ·subst c12
       have H1 : (if 0 ≤ x8_1 then (if x8_1 < (a2.size : Int) then ((spec_l04Along.f kj6 x7_1 (bt a2 x8_1)).bind fun t371 => (spec_l04Leaves.l0 kj6 a2 t371 (wrap64 (x8_1 + 1)))) else (none)) else (none)) = some r := by rw [if_pos rfl] at H; exact H
       clear H
       have H := H1
       clear H1
       by_cases c13 : 0 ≤ x8_1
       ·rw [if_pos c13] at H
        have c13b0 : decide (0 ≤ x8_1) = true := decide_eq_true c13
        clear c13
        by_cases c14 : x8_1 < (a2.size : Int)
        ·rw [if_pos c14] at H
         have c14b0 : decide (x8_1 < (a2.size : Int)) = true := decide_eq_true c14
         clear c14
         replace H := Option.bind_eq_some_iff.mp H
         obtain ⟨t371, A160, H⟩ := H
         replace H : (spec_l04Leaves.l0 kj6 a2 t371 (wrap64 (x8_1 + 1))) = some r := H
         have A16 := Aside0.mk A160
         clear A160
         have H' := Aside0.mk H
         clear H
         have p15 : 0 ≤ (x8_1 : Int) := of_decide_eq_true z77_
         have q15 : x8_1 < (a2.size : Int) := of_decide_eq_true z77_
         have hx15 := bt_at a2 x8_1
         replace p15 := eq_true p15
         replace q15 := eq_true q15
         obtain ⟨Ao17, co17, eo17⟩ := Kd.R_slice HO_7.out
         subst eo17
         go_wp2_with (first | ((with_reducible refine gate_callee (f := 98) rfl ?_); refine goesL_ (some 32) rfl rfl Tryz.func98 (by kernel_rfl) rfl #[.slice Ao17 x7_1.length co17, .int .u8 (bt a2 x8_1)] rfl z36_ ?_; (with_reducible refine (spec_l04Along.calls kj6 _ _ x7_1 (bt a2 x8_1) t371 _ ?side1 ?side2 A16.out).mono ?_); (case side1 => exact z15_); (case side2 => exact (Kd.R_reads' HO_7.out).2.1); rintro e w18 ⟨v372, rfl, ho0, hb⟩; refine ⟨_, rfl, ?_⟩; have HO373 := a_ (Kd.R_lower (Kd.R_new' ho0 (Kd.R_lt (ra_ HO_7.out))) (below_size z33_)); replace HO_7 := a_ (Kd.R_elder' (ra_ HO_7.out) (Kd.R_base ho0) hb); replace HB := a_ (below_step z33_ hb); (try clear hb); (try clear hb2); (try clear hk); (try clear hi); (try clear ho0)))
         go_roundg kj6
         case measure => have := HK1.out; have := HJ6.out; omega
         case rel => exact ⟨(t371), (wrap64 (x8_1 + 1)), z78_, H', ⟨by have := HK1.out; have := HJ6.out; omega⟩, ⟨by (with_reducible repeat (first | apply Kd.R_alloc | apply Kd.R_drewN | apply Kd.R_drew)); exact Kd.R_mono HO373.out (fun _ hk => trivial)⟩, ⟨z33_⟩⟩
        ·rw [if_neg c14] at H
         exact absurd H (by simp)
       ·rw [if_neg c13] at H
        exact absurd H (by simp)
      ·replace c12 := Bool.eq_false_iff.mpr c12
       subst c12
       have H1 : (if 0 ≤ x8_1 then (if x8_1 < (a2.size : Int) then ((spec_l04Across.f kj6 x7_1 (bt a2 x8_1)).bind fun t374 => (spec_l04Leaves.l0 kj6 a2 t374 (wrap64 (x8_1 + 1)))) else (none)) else (none)) = some r := by rw [if_neg (show ¬ (false = true) by decide)] at H; exact H
       clear H
       have H := H1
       clear H1
       by_cases c19 : 0 ≤ x8_1
       ·rw [if_pos c19] at H
        have c19b0 : decide (0 ≤ x8_1) = true := decide_eq_true c19
        clear c19
        by_cases c20 : x8_1 < (a2.size : Int)
        ·rw [if_pos c20] at H
         have c20b0 : decide (x8_1 < (a2.size : Int)) = true := decide_eq_true c20
         clear c20
         replace H := Option.bind_eq_some_iff.mp H
         obtain ⟨t374, A220, H⟩ := H
         replace H : (spec_l04Leaves.l0 kj6 a2 t374 (wrap64 (x8_1 + 1))) = some r := H
         have A22 := Aside0.mk A220
         clear A220
         have H' := Aside0.mk H
         clear H
         have p21 : 0 ≤ (x8_1 : Int) := of_decide_eq_true z77_
         have q21 : x8_1 < (a2.size : Int) := of_decide_eq_true z77_
         have hx21 := bt_at a2 x8_1
         replace p21 := eq_true p21
         replace q21 := eq_true q21
         obtain ⟨Ao23, co23, eo23⟩ := Kd.R_slice HO_7.out
         subst eo23
         go_wp2_with (first | ((with_reducible refine gate_callee (f := 99) rfl ?_); refine goesL_ (some 37) rfl rfl Tryz.func99 (by kernel_rfl) rfl #[.slice Ao23 x7_1.length co23, .int .u8 (bt a2 x8_1)] rfl z36_ ?_; (with_reducible refine (spec_l04Across.calls kj6 _ _ x7_1 (bt a2 x8_1) t374 _ ?side1 ?side2 A22.out).mono ?_); (case side1 => exact z15_); (case side2 => exact (Kd.R_reads' HO_7.out).2.1); rintro e w24 ⟨v375, rfl, ho0, hb⟩; refine ⟨_, rfl, ?_⟩; have HO376 := a_ (Kd.R_lower (Kd.R_new' ho0 (Kd.R_lt (ra_ HO_7.out))) (below_size z33_)); replace HO_7 := a_ (Kd.R_elder' (ra_ HO_7.out) (Kd.R_base ho0) hb); replace HB := a_ (below_step z33_ hb); (try clear hb); (try clear hb2); (try clear hk); (try clear hi); (try clear ho0)))
         go_roundg kj6
         case measure => have := HK1.out; have := HJ6.out; omega
         case rel => exact ⟨(t374), (wrap64 (x8_1 + 1)), z78_, H', ⟨by have := HK1.out; have := HJ6.out; omega⟩, ⟨by (with_reducible repeat (first | apply Kd.R_alloc | apply Kd.R_drewN | apply Kd.R_drew)); exact Kd.R_mono HO376.out (fun _ hk => trivial)⟩, ⟨z33_⟩⟩
        ·rw [if_neg c20] at H
         exact absurd H (by simp)
       ·rw [if_neg c19] at H
        exact absurd H (by simp)
   ·rw [if_neg c6] at H
    have c6b0 : decide (x8_1 < (a2.size : Int)) = false := decide_eq_false c6
    clear c6
    by_cases c25 : 0 < (x7_1.length : Int)
    ·rw [if_pos c25] at H
     have c25b0 : decide (0 < (x7_1.length : Int)) = true := decide_eq_true c25
     have c25b1 : decide (0 < x7_1.length) = true := decide_eq_true (by omega)
     clear c25
     by_cases c26 : 0 < ((rd_L5 x7_1 0).length : Int)
     ·rw [if_pos c26] at H
      have c26b0 : decide (0 < ((rd_L5 x7_1 0).length : Int)) = true := decide_eq_true c26
      have c26b1 : decide (0 < (rd_L5 x7_1 0).length) = true := decide_eq_true (by omega)
      clear c26
      obtain rfl := Option.some.inj H
      obtain ⟨Ao27, co27, eo27⟩ := Kd.R_slice HO_7.out
      subst eo27
      have p369 : 0 ≤ (0 : Int) := (by omega)
      have q369 : 0 < (x7_1.length : Int) := of_decide_eq_true z77_
      obtain ⟨ad369, A369_0, c369_0, e369, hx369_0, hl369_0, hi369_0⟩ := at_L5 (Kd.R_reads' HO_7.out).2.2 0 p369 q369
      cases e369
      obtain ⟨ce369, hce369, hMe369, hcc369⟩ := Kd.R_get HO_7.out [] 0 p369 (by first | exact q369 | exact of_decide_eq_true z77_ | (have e_ := (Kd.R_reads' HO_7.out).1; omega))
      obtain ⟨ve369_0, rfl, ge369_0⟩ := hMe369
      have hv369_0 := hcc369 0 _ rfl
      rw [Nat.add_zero, show ((Kd.slice 61 (Kd.slice 64 k64))).sz = 1 from rfl, Nat.mul_one] at hv369_0
      replace hv369_0 := Option.some.inj (hv369_0.symm.trans hx369_0)
      rw [hv369_0] at ge369_0
      have HL369_0 := a_ (show Kd.R (Kd.slice 64 k64) 61 _ _ _ _ (rd_L5 x7_1 0) from ge369_0)
      clear hv369_0 ge369_0
      clear hcc369 hce369
      have qi369 : (0 < x7_1.length) = True := eq_true (by omega)
      (try rw [show ((0 : Int)).toNat = 0 from rfl] at hx369_0)
      (try rw [Addr.add_zero'] at hx369_0)
      have HR369_0 := Aside0.mk hi369_0
      have HC369_0 := Aside0.mk hl369_0
      clear hi369_0 hl369_0
      replace p369 := eq_true p369
      replace q369 := eq_true q369
      have p370 : 0 ≤ (0 : Int) := (by omega)
      have q370 : 0 < ((rd_L5 x7_1 0).length : Int) := of_decide_eq_true z77_
      obtain ⟨ad370, A370_0, c370_0, e370, hx370_0, hl370_0, hi370_0⟩ := at_L4 (by repeat (first | (with_reducible exact HR369_0.out) | (with_reducible refine Kd.C_alloc ?_ _) | (with_reducible refine Kd.C_drewN ?_ _) | (with_reducible refine Kd.C_drew ?_) | exact HR369_0.out)) 0 p370 q370
      cases e370
      obtain ⟨ce370, hce370, hMe370, hcc370⟩ := Kd.R_get HL369_0.out [] 0 p370 (by first | exact q370 | exact of_decide_eq_true z77_ | (have e_ := (Kd.R_reads' HL369_0.out).1; omega))
      obtain ⟨ve370_0, rfl, ge370_0⟩ := hMe370
      have hv370_0 := hcc370 0 _ rfl
      rw [Nat.add_zero, show ((Kd.slice 64 k64)).sz = 1 from rfl, Nat.mul_one] at hv370_0
      replace hv370_0 := Option.some.inj (hv370_0.symm.trans hx370_0)
      rw [hv370_0] at ge370_0
      have HL370_0 := a_ (show Kd.R k64 64 _ _ _ _ (rd_L4 (rd_L5 x7_1 0) 0) from ge370_0)
      clear hv370_0 ge370_0
      clear hcc370 hce370
      have qi370 : (0 < (rd_L5 x7_1 0).length) = True := eq_true (by omega)
      (try rw [show ((0 : Int)).toNat = 0 from rfl] at hx370_0)
      (try rw [Addr.add_zero'] at hx370_0)
      have HR370_0 := Aside0.mk hi370_0
      have HC370_0 := Aside0.mk hl370_0
      clear hi370_0 hl370_0
      replace p370 := eq_true p370
      replace q370 := eq_true q370
      go_wp2
      go_ret
      exact ⟨_, z34_, by (with_reducible repeat (first | apply Kd.R_alloc | apply Kd.R_drewN | apply Kd.R_drew)); exact Kd.R_mono HL370_0.out (fun _ hk => trivial), z33_⟩
     ·rw [if_neg c26] at H
      exact absurd H (by simp)
    ·rw [if_neg c25] at H
     exact absurd H (by simp)

/-! ### spec_l04Down: function 83 -/
def spec_l04Down.f (a0_0 : Int) (a0_1 : Int) (a0_2 : Bool) (a0_3 : Bool) : Option (Bool) := some (a0_2 != a0_3)
set_option maxHeartbeats 8000000 in
set_option maxRecDepth 100000 in
theorem spec_l04Down.calls (a0_0 : Int) (a0_1 : Int) (a0_2 : Bool) (a0_3 : Bool) (r : Bool) (w : World) (h : spec_l04Down.f a0_0 a0_1 a0_2 a0_3 = some r) :
  Calls Tryz.prog 83 #[.agg #[.int .i64 a0_0, .int .i64 a0_1, .bool a0_2, .bool a0_3]] w fun e w' => e = .returned (.bool r) ∧ Below w.heap.size w w' := by
 have hu64 := Tryz.underlying64
 have HB := a_ (Below.refl w.heap.size w)
 have H : (some (a0_2 != a0_3)) = some r := h
 clear h
 obtain rfl := Option.some.inj H
 go_enter Tryz.func83, Tryz.ntmps83
 go_wp2_with (first | ((with_reducible refine gate_dst (N := 1) rfl ?_); refine box_event ?hg (N := 1) ?hd (cs := #[.int .i64 a0_0, .int .i64 a0_1, .bool a0_2, .bool a0_3]) (t := 64) ?hr ?_; (case hd => rfl); (case hg => rfl); (case hr => first | (go_simp; done) | (go_simp; rfl)); intro gb377 hg w2 hbox hb; have BK377 := a_ (hbox); have GW377 := a_ ((z32_ : w.heap.size ≤ gb377)); have GE377 := a_ ((z32_ : w.heap.size ≤ gb377)); replace HB := a_ (below_step z33_ hb); clear hb hbox hg; obtain ⟨hcz3_0, hcz3_1, hcz3_2, hcz3_3, hfz3_0, hfz3_1, hfz3_2, hfz3_3⟩ := cz4_ (w := w2) BK377.out))
 go_ret
 exact ⟨z34_, by repeat (first | (with_reducible first | exact HB.out | apply below_alloc | apply pw_below_drewN | apply below_drew1 | refine below_set ?_ GE377.out) | exact HB.out)⟩

/-! ### spec_l05Read: function 72 -/
mutual
def spec_l05Read.l0 : Nat → List (S64) → List Int → Int → Int → Int → List Int → List Int → List Int → Option (List Int)
 | 0, _, _, _, _, _, _, _, _ => none
 | k + 1, x5, x6, x7, x379000, x379001, x379002, x379003, x379004 => if x7 < (x5.length : Int) then (if 0 ≤ x7 then (if 0 ≤ (wrap64 ((wrap64 (((rd_T64 x5 x7).f1) * x379000)) + ((rd_T64 x5 x7).f0))) then (if (wrap64 ((wrap64 (((rd_T64 x5 x7).f1) * x379000)) + ((rd_T64 x5 x7).f0))) < (x379002.length : Int) then (if 0 ≤ (wrap64 ((wrap64 ((wrap64 ((wrap64 (((rd_T64 x5 x7).f1) * x379000)) + x379000)) - 1)) - ((rd_T64 x5 x7).f0))) then (if (wrap64 ((wrap64 ((wrap64 ((wrap64 (((rd_T64 x5 x7).f1) * x379000)) + x379000)) - 1)) - ((rd_T64 x5 x7).f0))) < (x379003.length : Int) then ((spec_l04Down.f ((rd_T64 x5 x7).f0) ((rd_T64 x5 x7).f1) ((rd_T64 x5 x7).f2) ((rd_T64 x5 x7).f3)).bind fun t389 => (if t389 = true then (spec_l05Read.j1 k x5 x6 x7 (wrap64 ((wrap64 (((rd_T64 x5 x7).f1) * x379000)) + ((rd_T64 x5 x7).f0))) (rd x379003 (wrap64 ((wrap64 ((wrap64 ((wrap64 (((rd_T64 x5 x7).f1) * x379000)) + x379000)) - 1)) - ((rd_T64 x5 x7).f0)))) (rd x379002 (wrap64 ((wrap64 (((rd_T64 x5 x7).f1) * x379000)) + ((rd_T64 x5 x7).f0)))) x379000 x379001 x379002 x379003 x379004 ((rd_T64 x5 x7).f0) ((rd_T64 x5 x7).f1) ((rd_T64 x5 x7).f2) ((rd_T64 x5 x7).f3)) else (spec_l05Read.j1 k x5 x6 x7 (wrap64 ((wrap64 (((rd_T64 x5 x7).f1) * x379000)) + ((rd_T64 x5 x7).f0))) (rd x379002 (wrap64 ((wrap64 (((rd_T64 x5 x7).f1) * x379000)) + ((rd_T64 x5 x7).f0)))) (rd x379003 (wrap64 ((wrap64 ((wrap64 ((wrap64 (((rd_T64 x5 x7).f1) * x379000)) + x379000)) - 1)) - ((rd_T64 x5 x7).f0)))) x379000 x379001 x379002 x379003 x379004 ((rd_T64 x5 x7).f0) ((rd_T64 x5 x7).f1) ((rd_T64 x5 x7).f2) ((rd_T64 x5 x7).f3)))) else (none)) else (none)) else (none)) else (none)) else (none)) else (some x6)
def spec_l05Read.j1 : Nat → List (S64) → List Int → Int → Int → Int → Int → Int → Int → List Int → List Int → List Int → Int → Int → Bool → Bool → Option (List Int)
 | 0, _, _, _, _, _, _, _, _, _, _, _, _, _, _, _ => none
 | k + 1, x5, x6, x7, x9, x10, x11, x379000, x379001, x379002, x379003, x379004, x387000, x387001, x387002, x387003 => if 0 ≤ x9 then (if x9 < (x379004.length : Int) then (if (x387003 != ((rd x379004 x9) == 1)) = true then ((some (([wrap64 (-x10), wrap64 (-x11)] : List Int) : List Int)).bind fun y391 => (if x6.length + y391.length < 17592186044416 then (spec_l05Read.l0 k x5 (x6 ++ y391) (wrap64 (x7 + 1)) x379000 x379001 x379002 x379003 x379004) else (none))) else ((some (([x10, x11] : List Int) : List Int)).bind fun y397 => (if x6.length + y397.length < 17592186044416 then (spec_l05Read.l0 k x5 (x6 ++ y397) (wrap64 (x7 + 1)) x379000 x379001 x379002 x379003 x379004) else (none)))) else (none)) else (none)
end
def spec_l05Read.f (k : Nat) (a0_0 : Int) (a0_1 : Int) (l0_2 : List Int) (l0_3 : List Int) (l0_4 : List Int) (a1 : ByteArray) : Option (List Int) := (spec_l04Leaves.f k a0_0 a0_1 a1).bind fun t379 => (spec_l05Read.l0 k t379 (([] : List Int)) 0 a0_0 a0_1 l0_2 l0_3 l0_4)
theorem spec_l05Read.mono_l : ∀ k, (∀ y0 y1 y2 y3 y4 y5 y6 y7, LeO (spec_l05Read.l0 k y0 y1 y2 y3 y4 y5 y6 y7) (spec_l05Read.l0 (k + 1) y0 y1 y2 y3 y4 y5 y6 y7)) ∧ (∀ y0 y1 y2 y3 y4 y5 y6 y7 y8 y9 y10 y11 y12 y13 y14, LeO (spec_l05Read.j1 k y0 y1 y2 y3 y4 y5 y6 y7 y8 y9 y10 y11 y12 y13 y14) (spec_l05Read.j1 (k + 1) y0 y1 y2 y3 y4 y5 y6 y7 y8 y9 y10 y11 y12 y13 y14))
 | 0 => ⟨fun _ _ _ _ _ _ _ _ r h => by simp [spec_l05Read.l0] at h, fun _ _ _ _ _ _ _ _ _ _ _ _ _ _ _ r h => by simp [spec_l05Read.j1] at h⟩
 | k + 1 => by
  obtain ⟨ih0, ih1⟩ := spec_l05Read.mono_l k
  refine ⟨?_, ?_⟩
  ·intro y0 y1 y2 y3 y4 y5 y6 y7
   unfold spec_l05Read.l0
   repeat' first
   | (with_reducible exact ih0 _ _ _ _ _ _ _ _)
   | (with_reducible exact ih1 _ _ _ _ _ _ _ _ _ _ _ _ _ _ _)
   | (with_reducible exact spec_l04Leaves.mono _ _ _ _)
   | (with_reducible exact LeO.refl _)
   | (with_reducible exact LeO.none _)
   | (with_reducible refine LeO.ite ?_ ?_)
   | (with_reducible refine LeO.bind ?_ (fun _ => ?_))
   | exact ih0 _ _ _ _ _ _ _ _
   | exact ih1 _ _ _ _ _ _ _ _ _ _ _ _ _ _ _
   | exact spec_l04Leaves.mono _ _ _ _
   | exact LeO.none _
   | refine LeO.ite ?_ ?_
   | refine LeO.bind ?_ (fun _ => ?_)
  ·intro y0 y1 y2 y3 y4 y5 y6 y7 y8 y9 y10 y11 y12 y13 y14
   unfold spec_l05Read.j1
   repeat' first
   | (with_reducible exact ih0 _ _ _ _ _ _ _ _)
   | (with_reducible exact ih1 _ _ _ _ _ _ _ _ _ _ _ _ _ _ _)
   | (with_reducible exact spec_l04Leaves.mono _ _ _ _)
   | (with_reducible exact LeO.refl _)
   | (with_reducible exact LeO.none _)
   | (with_reducible refine LeO.ite ?_ ?_)
   | (with_reducible refine LeO.bind ?_ (fun _ => ?_))
   | exact ih0 _ _ _ _ _ _ _ _
   | exact ih1 _ _ _ _ _ _ _ _ _ _ _ _ _ _ _
   | exact spec_l04Leaves.mono _ _ _ _
   | exact LeO.none _
   | refine LeO.ite ?_ ?_
   | refine LeO.bind ?_ (fun _ => ?_)
theorem spec_l05Read.mono : ∀ a0 a1 a2 a3 a4 a5 k, LeO (spec_l05Read.f k a0 a1 a2 a3 a4 a5) (spec_l05Read.f (k + 1) a0 a1 a2 a3 a4 a5) := by
 intro a0 a1 a2 a3 a4 a5 k
 obtain ⟨ih0, ih1⟩ := spec_l05Read.mono_l k
 unfold spec_l05Read.f
 repeat' first
   | (with_reducible exact ih0 _ _ _ _ _ _ _ _)
   | (with_reducible exact ih1 _ _ _ _ _ _ _ _ _ _ _ _ _ _ _)
   | (with_reducible exact spec_l04Leaves.mono _ _ _ _)
   | (with_reducible exact LeO.refl _)
   | (with_reducible exact LeO.none _)
   | (with_reducible refine LeO.ite ?_ ?_)
   | (with_reducible refine LeO.bind ?_ (fun _ => ?_))
   | exact ih0 _ _ _ _ _ _ _ _
   | exact ih1 _ _ _ _ _ _ _ _ _ _ _ _ _ _ _
   | exact spec_l04Leaves.mono _ _ _ _
   | exact LeO.none _
   | refine LeO.ite ?_ ?_
   | refine LeO.bind ?_ (fun _ => ?_)
set_option maxHeartbeats 8000000 in
set_option maxRecDepth 100000 in
theorem spec_l05Read.calls (k : Nat) (a0_0 : Int) (a0_1 : Int) (A0_2 : Option Addr) (c0_2 : Nat) (l0_2 : List Int) (A0_3 : Option Addr) (c0_3 : Nat) (l0_3 : List Int) (A0_4 : Option Addr) (c0_4 : Nat) (l0_4 : List Int) (a1 : ByteArray) (r : List Int) (w : World) (hr0_2 : Kd.C (Kd.int .i64) w A0_2 l0_2.length l0_2) (hc0_2 : l0_2.length ≤ c0_2) (hr0_3 : Kd.C (Kd.int .i64) w A0_3 l0_3.length l0_3) (hc0_3 : l0_3.length ≤ c0_3) (hr0_4 : Kd.C (Kd.int .i64) w A0_4 l0_4.length l0_4) (hc0_4 : l0_4.length ≤ c0_4) (h : spec_l05Read.f k a0_0 a0_1 l0_2 l0_3 l0_4 a1 = some r) :
  Calls Tryz.prog 72 #[.agg #[.int .i64 a0_0, .int .i64 a0_1, .slice A0_2 l0_2.length c0_2, .slice A0_3 l0_3.length c0_3, .slice A0_4 l0_4.length c0_4], .string a1] w fun e w' => ∃ v0_ : Value, e = .returned (v0_) ∧ Kd.R (Kd.int .i64) 2 w' w.heap.size (fun _ => True) v0_ r ∧ Below w.heap.size w w' := by
 have hu28 := Tryz.underlying28
 have hu64 := Tryz.underlying64
 have HR0_2 := Aside0.mk hr0_2
 have HC0_2 := Aside0.mk hc0_2
 clear hr0_2 hc0_2
 have HR0_3 := Aside0.mk hr0_3
 have HC0_3 := Aside0.mk hc0_3
 clear hr0_3 hc0_3
 have HR0_4 := Aside0.mk hr0_4
 have HC0_4 := Aside0.mk hc0_4
 clear hr0_4 hc0_4
 have HB := a_ (Below.refl w.heap.size w)
 have H : ((spec_l04Leaves.f k a0_0 a0_1 a1).bind fun t379 => (spec_l05Read.l0 k t379 (([] : List Int)) 0 a0_0 a0_1 l0_2 l0_3 l0_4)) = some r := h
 clear h
 replace H := Option.bind_eq_some_iff.mp H
 obtain ⟨t379, A30, H⟩ := H
 replace H : (spec_l05Read.l0 k t379 (([] : List Int)) 0 a0_0 a0_1 l0_2 l0_3 l0_4) = some r := H
 have A3 := Aside0.mk A30
 clear A30
 obtain ⟨y382, hy382⟩ : ∃ y_ : List Int, y_ = (([] : List Int)) := ⟨_, rfl⟩
 replace H : (spec_l05Read.l0 k t379 y382 0 a0_0 a0_1 l0_2 l0_3 l0_4) = some r := rh_ hy382 H
 have Ny382 := Aside0.mk hy382
 clear hy382
 have H' := Aside0.mk H
 clear H
 go_enter Tryz.func72, Tryz.ntmps72
 go_wp2_with (first | ((with_reducible refine gate_dst (N := 2) rfl ?_); refine box_event ?hg (N := 2) ?hd (cs := #[.int .i64 a0_0, .int .i64 a0_1, .slice A0_2 l0_2.length c0_2, .slice A0_3 l0_3.length c0_3, .slice A0_4 l0_4.length c0_4]) (t := 28) ?hr ?_; (case hd => rfl); (case hg => rfl); (case hr => first | (go_simp; done) | (go_simp; rfl)); intro gb378 hg w4 hbox hb; have BK378 := a_ (hbox); have GW378 := a_ ((z32_ : w.heap.size ≤ gb378)); have GE378 := a_ ((z32_ : w.heap.size ≤ gb378)); replace HB := a_ (below_step z33_ hb); clear hb hbox hg; obtain ⟨hcz5_0, hcz5_1, hcz5_2, hcz5_3, hcz5_4, hfz5_0, hfz5_1, hfz5_2, hfz5_3, hfz5_4⟩ := cz5_ (w := w4) BK378.out) | (go_at_call 82; (with_reducible refine (spec_l04Leaves.calls k a0_0 a0_1 a1 t379 _ A3.out).mono ?_); rintro e w6 ⟨v380, rfl, ho0, hb⟩; have HO381 := a_ (Kd.R_lower ho0 (below_size z28_)); replace BK378 := a_ (blk_below (g := gb378) (rb_ BK378.out) hb); replace HB := a_ (below_step z28_ hb); (try clear hb); (try clear hb2); (try clear hk); (try clear hi); (try clear ho0)) | ((with_reducible refine gate_dst (N := 18) rfl ?_); refine Kd.R_lit (Kd.int .i64) _ 2 ?hg (N := 18) ?hd (xs := ([] : List Int)) (inner := []) (ok := fun _ => True) (okp := fun _ => True) ?hr ?hp (fun _ hk => hk) trivial (Below.refl _ _) (Nat.le_refl _) (by simp) ?_; (case hd => rfl); (case hg => rfl); (case hr => first | (go_simp; done) | (go_simp; rfl)); (case hp => exact (Reps.none _ _)); intro v383 w7 ho8 hb hg_ hnew_; clear hg_ hnew_; (first | rw [← Ny382.out] at ho8 | (simp only [Int.reduceToNat] at ho8; rw [← Ny382.out] at ho8)); replace HO381 := a_ (Kd.R_below (ra_ HO381.out) hb); have HO384 := a_ (Kd.R_lower ho8 (below_size z28_)); replace BK378 := a_ (blk_below (g := gb378) (rb_ BK378.out) hb); replace HB := a_ (below_step z28_ hb); clear hb ho8))
 repeat (go_quiet (first | ((with_reducible refine gate_dst (N := 2) rfl ?_); refine box_event ?hg (N := 2) ?hd (cs := #[.int .i64 a0_0, .int .i64 a0_1, .slice A0_2 l0_2.length c0_2, .slice A0_3 l0_3.length c0_3, .slice A0_4 l0_4.length c0_4]) (t := 28) ?hr ?_; (case hd => rfl); (case hg => rfl); (case hr => first | (go_simp; done) | (go_simp; rfl)); intro gb378 hg w4 hbox hb; have BK378 := a_ (hbox); have GW378 := a_ ((z32_ : w.heap.size ≤ gb378)); have GE378 := a_ ((z32_ : w.heap.size ≤ gb378)); replace HB := a_ (below_step z33_ hb); clear hb hbox hg; obtain ⟨hcz5_0, hcz5_1, hcz5_2, hcz5_3, hcz5_4, hfz5_0, hfz5_1, hfz5_2, hfz5_3, hfz5_4⟩ := cz5_ (w := w4) BK378.out) | (go_at_call 82; (with_reducible refine (spec_l04Leaves.calls k a0_0 a0_1 a1 t379 _ A3.out).mono ?_); rintro e w6 ⟨v380, rfl, ho0, hb⟩; have HO381 := a_ (Kd.R_lower ho0 (below_size z28_)); replace BK378 := a_ (blk_below (g := gb378) (rb_ BK378.out) hb); replace HB := a_ (below_step z28_ hb); (try clear hb); (try clear hb2); (try clear hk); (try clear hi); (try clear ho0)) | ((with_reducible refine gate_dst (N := 18) rfl ?_); refine Kd.R_lit (Kd.int .i64) _ 2 ?hg (N := 18) ?hd (xs := ([] : List Int)) (inner := []) (ok := fun _ => True) (okp := fun _ => True) ?hr ?hp (fun _ hk => hk) trivial (Below.refl _ _) (Nat.le_refl _) (by simp) ?_; (case hd => rfl); (case hg => rfl); (case hr => first | (go_simp; done) | (go_simp; rfl)); (case hp => exact (Reps.none _ _)); intro v383 w7 ho8 hb hg_ hnew_; clear hg_ hnew_; (first | rw [← Ny382.out] at ho8 | (simp only [Int.reduceToNat] at ho8; rw [← Ny382.out] at ho8)); replace HO381 := a_ (Kd.R_below (ra_ HO381.out) hb); have HO384 := a_ (Kd.R_lower ho8 (below_size z28_)); replace BK378 := a_ (blk_below (g := gb378) (rb_ BK378.out) hb); replace HB := a_ (below_step z28_ hb); clear hb ho8)); try go_wp2_with (first | ((with_reducible refine gate_dst (N := 2) rfl ?_); refine box_event ?hg (N := 2) ?hd (cs := #[.int .i64 a0_0, .int .i64 a0_1, .slice A0_2 l0_2.length c0_2, .slice A0_3 l0_3.length c0_3, .slice A0_4 l0_4.length c0_4]) (t := 28) ?hr ?_; (case hd => rfl); (case hg => rfl); (case hr => first | (go_simp; done) | (go_simp; rfl)); intro gb378 hg w4 hbox hb; have BK378 := a_ (hbox); have GW378 := a_ ((z32_ : w.heap.size ≤ gb378)); have GE378 := a_ ((z32_ : w.heap.size ≤ gb378)); replace HB := a_ (below_step z33_ hb); clear hb hbox hg; obtain ⟨hcz5_0, hcz5_1, hcz5_2, hcz5_3, hcz5_4, hfz5_0, hfz5_1, hfz5_2, hfz5_3, hfz5_4⟩ := cz5_ (w := w4) BK378.out) | (go_at_call 82; (with_reducible refine (spec_l04Leaves.calls k a0_0 a0_1 a1 t379 _ A3.out).mono ?_); rintro e w6 ⟨v380, rfl, ho0, hb⟩; have HO381 := a_ (Kd.R_lower ho0 (below_size z28_)); replace BK378 := a_ (blk_below (g := gb378) (rb_ BK378.out) hb); replace HB := a_ (below_step z28_ hb); (try clear hb); (try clear hb2); (try clear hk); (try clear hi); (try clear ho0)) | ((with_reducible refine gate_dst (N := 18) rfl ?_); refine Kd.R_lit (Kd.int .i64) _ 2 ?hg (N := 18) ?hd (xs := ([] : List Int)) (inner := []) (ok := fun _ => True) (okp := fun _ => True) ?hr ?hp (fun _ hk => hk) trivial (Below.refl _ _) (Nat.le_refl _) (by simp) ?_; (case hd => rfl); (case hg => rfl); (case hr => first | (go_simp; done) | (go_simp; rfl)); (case hp => exact (Reps.none _ _)); intro v383 w7 ho8 hb hg_ hnew_; clear hg_ hnew_; (first | rw [← Ny382.out] at ho8 | (simp only [Int.reduceToNat] at ho8; rw [← Ny382.out] at ho8)); replace HO381 := a_ (Kd.R_below (ra_ HO381.out) hb); have HO384 := a_ (Kd.R_lower ho8 (below_size z28_)); replace BK378 := a_ (blk_below (g := gb378) (rb_ BK378.out) hb); replace HB := a_ (below_step z28_ hb); clear hb ho8)))
 go_loopg [6, 7] k (fun kq v6 v7 w' => ∃ (x6_1 : List Int) (x7_1 : Int), v7 = .int .i64 x7_1 ∧ Aside0 (spec_l05Read.l0 kq t379 x6_1 x7_1 a0_0 a0_1 l0_2 l0_3 l0_4 = some r) ∧ Aside0 (kq ≤ k) ∧ Aside0 (Kd.R k64 64 w' w.heap.size (fun _ => True) v380 t379) ∧ Aside0 (Kd.R (Kd.int .i64) 2 w' w.heap.size (fun _ => True) v6 x6_1) ∧ Aside0 (w'.heap[gb378]? = some (.cells #[.int .i64 a0_0, .int .i64 a0_1, (.slice A0_2 l0_2.length c0_2), (.slice A0_3 l0_3.length c0_3), (.slice A0_4 l0_4.length c0_4)] 28 (0, 0))) ∧ Aside0 (Below w.heap.size w w'))
 case atStart => exact ⟨(y382), (0), z78_, H', ⟨Nat.le_refl _⟩, ⟨by (with_reducible repeat (first | apply Kd.R_alloc | apply Kd.R_drewN | apply Kd.R_drew)); exact HO381.out⟩, ⟨by (with_reducible repeat (first | apply Kd.R_alloc | apply Kd.R_drewN | apply Kd.R_drew)); exact HO384.out⟩, ⟨z58_⟩, ⟨z28_⟩⟩
 case round =>
  clear H'
  try clear hcz5_0 hcz5_1 hcz5_2 hcz5_3 hcz5_4; try clear hfz5_0 hfz5_1 hfz5_2 hfz5_3 hfz5_4
  obtain ⟨x6_1, x7_1, rfl, HA, HK1, HO_5, HO_6, BK378, HB⟩ := hrel
  cases gk with
  | zero => exact absurd HA.out (by simp [spec_l05Read.l0])
  | succ k1 =>
   have H := HA.out
   clear HA
   simp only [spec_l05Read.l0] at H
   by_cases c9 : x7_1 < (t379.length : Int)
   ·rw [if_pos c9] at H
    have c9b0 : decide (x7_1 < (t379.length : Int)) = true := decide_eq_true c9
    clear c9
    by_cases c10 : 0 ≤ x7_1
    ·rw [if_pos c10] at H
     have c10b0 : decide (0 ≤ x7_1) = true := decide_eq_true c10
     clear c10
     obtain ⟨ji11, hji11⟩ : ∃ j_ : Int, (wrap64 ((wrap64 (((rd_T64 t379 x7_1).f1) * a0_0)) + ((rd_T64 t379 x7_1).f0))) = j_ := ⟨_, rfl⟩
     replace H : (if 0 ≤ (ji11) then (if (ji11) < (l0_2.length : Int) then (if 0 ≤ (wrap64 ((wrap64 ((wrap64 ((wrap64 (((rd_T64 t379 x7_1).f1) * a0_0)) + a0_0)) - 1)) - ((rd_T64 t379 x7_1).f0))) then (if (wrap64 ((wrap64 ((wrap64 ((wrap64 (((rd_T64 t379 x7_1).f1) * a0_0)) + a0_0)) - 1)) - ((rd_T64 t379 x7_1).f0))) < (l0_3.length : Int) then ((spec_l04Down.f ((rd_T64 t379 x7_1).f0) ((rd_T64 t379 x7_1).f1) ((rd_T64 t379 x7_1).f2) ((rd_T64 t379 x7_1).f3)).bind fun t389 => (if t389 = true then (spec_l05Read.j1 k1 t379 x6_1 x7_1 ji11 (rd l0_3 (wrap64 ((wrap64 ((wrap64 ((wrap64 (((rd_T64 t379 x7_1).f1) * a0_0)) + a0_0)) - 1)) - ((rd_T64 t379 x7_1).f0)))) (rd l0_2 (ji11)) a0_0 a0_1 l0_2 l0_3 l0_4 ((rd_T64 t379 x7_1).f0) ((rd_T64 t379 x7_1).f1) ((rd_T64 t379 x7_1).f2) ((rd_T64 t379 x7_1).f3)) else (spec_l05Read.j1 k1 t379 x6_1 x7_1 ji11 (rd l0_2 (ji11)) (rd l0_3 (wrap64 ((wrap64 ((wrap64 ((wrap64 (((rd_T64 t379 x7_1).f1) * a0_0)) + a0_0)) - 1)) - ((rd_T64 t379 x7_1).f0)))) a0_0 a0_1 l0_2 l0_3 l0_4 ((rd_T64 t379 x7_1).f0) ((rd_T64 t379 x7_1).f1) ((rd_T64 t379 x7_1).f2) ((rd_T64 t379 x7_1).f3)))) else (none)) else (none)) else (none)) else (none)) = some r := by first | (rw [hji11] at H; exact H) | (simp only [hji11] at H ⊢; exact H)
     have hji11w : (IntKind.i64.wrap ((wrap64 (((rd_T64 t379 x7_1).f1) * a0_0)) + ((rd_T64 t379 x7_1).f0))) = ji11 := (i64_w _).trans hji11
     by_cases c12 : 0 ≤ (ji11)
     ·rw [if_pos c12] at H
      have c12b0 : decide (0 ≤ (ji11)) = true := decide_eq_true c12
      clear c12
      by_cases c13 : (ji11) < (l0_2.length : Int)
      ·rw [if_pos c13] at H
       have c13b0 : decide ((ji11) < (l0_2.length : Int)) = true := decide_eq_true c13
       clear c13
       obtain ⟨ji14, hji14⟩ : ∃ j_ : Int, (wrap64 ((wrap64 ((wrap64 ((wrap64 (((rd_T64 t379 x7_1).f1) * a0_0)) + a0_0)) - 1)) - ((rd_T64 t379 x7_1).f0))) = j_ := ⟨_, rfl⟩
       replace H : (if 0 ≤ (ji14) then (if (ji14) < (l0_3.length : Int) then ((spec_l04Down.f ((rd_T64 t379 x7_1).f0) ((rd_T64 t379 x7_1).f1) ((rd_T64 t379 x7_1).f2) ((rd_T64 t379 x7_1).f3)).bind fun t389 => (if t389 = true then (spec_l05Read.j1 k1 t379 x6_1 x7_1 ji11 (rd l0_3 (ji14)) (rd l0_2 (ji11)) a0_0 a0_1 l0_2 l0_3 l0_4 ((rd_T64 t379 x7_1).f0) ((rd_T64 t379 x7_1).f1) ((rd_T64 t379 x7_1).f2) ((rd_T64 t379 x7_1).f3)) else (spec_l05Read.j1 k1 t379 x6_1 x7_1 ji11 (rd l0_2 (ji11)) (rd l0_3 (ji14)) a0_0 a0_1 l0_2 l0_3 l0_4 ((rd_T64 t379 x7_1).f0) ((rd_T64 t379 x7_1).f1) ((rd_T64 t379 x7_1).f2) ((rd_T64 t379 x7_1).f3)))) else (none)) else (none)) = some r := by first | (rw [hji14] at H; exact H) | (simp only [hji14] at H ⊢; exact H)
       have hji14w : (IntKind.i64.wrap ((wrap64 ((wrap64 ((wrap64 (((rd_T64 t379 x7_1).f1) * a0_0)) + a0_0)) - 1)) - ((rd_T64 t379 x7_1).f0))) = ji14 := (i64_w _).trans hji14
       by_cases c15 : 0 ≤ (ji14)
       ·rw [if_pos c15] at H
        have c15b0 : decide (0 ≤ (ji14)) = true := decide_eq_true c15
        clear c15
        by_cases c16 : (ji14) < (l0_3.length : Int)
        ·rw [if_pos c16] at H
         have c16b0 : decide ((ji14) < (l0_3.length : Int)) = true := decide_eq_true c16
         clear c16
         replace H := Option.bind_eq_some_iff.mp H
         obtain ⟨t389, A170, H⟩ := H
         replace H : (if t389 = true then (spec_l05Read.j1 k1 t379 x6_1 x7_1 ji11 (rd l0_3 (ji14)) (rd l0_2 (ji11)) a0_0 a0_1 l0_2 l0_3 l0_4 ((rd_T64 t379 x7_1).f0) ((rd_T64 t379 x7_1).f1) ((rd_T64 t379 x7_1).f2) ((rd_T64 t379 x7_1).f3)) else (spec_l05Read.j1 k1 t379 x6_1 x7_1 ji11 (rd l0_2 (ji11)) (rd l0_3 (ji14)) a0_0 a0_1 l0_2 l0_3 l0_4 ((rd_T64 t379 x7_1).f0) ((rd_T64 t379 x7_1).f1) ((rd_T64 t379 x7_1).f2) ((rd_T64 t379 x7_1).f3))) = some r := H
         have A17 := Aside0.mk A170
         clear A170
         have HC18 := Aside0.mk H
         clear H
         obtain ⟨Ao19, co19, eo19⟩ := Kd.R_slice HO_5.out
         subst eo19
         have p385 : 0 ≤ (x7_1 : Int) := of_decide_eq_true z77_
         have q385 : x7_1 < (t379.length : Int) := of_decide_eq_true z77_
         obtain ⟨ad385, e385, hx385_0, hx385_1, hx385_2, hx385_3⟩ := at_T64 (Kd.R_reads' HO_5.out).2.2 x7_1 p385 q385
         cases e385
         replace p385 := eq_true p385
         replace q385 := eq_true q385
         go_upto_if 59 with (first | ((with_reducible refine gate_dst (N := 8) rfl ?_); refine box_event ?hg (N := 8) ?hd (cs := #[.int .i64 0, .int .i64 0, .bool false, .bool false]) (t := 64) ?hr ?_; (case hd => rfl); (case hg => rfl); (case hr => first | (go_simp; done) | (go_simp; rfl)); intro gb386 hg w20 hbox hb; replace HO_5 := a_ (Kd.R_below (Kd.R_elderB (ra_ HO_5.out) gb386 (Nat.le_of_eq hg.symm)) hb); replace HO_6 := a_ (Kd.R_below (ra_ HO_6.out) hb); have BK386 := a_ (hbox); have GW386 := a_ ((z12_ : w.heap.size ≤ gb386)); have GE386 := a_ ((z12_ : w.heap.size ≤ gb386)); replace HB := a_ (below_step z28_ hb); have NB378_386 := a_ ((by rw [hg]; exact Nat.ne_of_lt (blk_lt (g := gb378) (rb_ BK378.out)) : gb378 ≠ gb386)); have NB386_378 := a_ ((by rw [hg]; exact Nat.ne_of_gt (blk_lt (g := gb378) (rb_ BK378.out)) : gb386 ≠ gb378)); replace BK378 := a_ (blk_below (g := gb378) (rb_ BK378.out) hb); clear hb hbox hg; have hnb21 := NB386_378.out; have hnc21 := NB378_386.out; obtain ⟨hcz22_0, hcz22_1, hcz22_2, hcz22_3, hfz22_0, hfz22_1, hfz22_2, hfz22_3⟩ := cz4_ (w := w20) BK386.out; obtain ⟨hcz23_0, hcz23_1, hcz23_2, hcz23_3, hcz23_4, hfz23_0, hfz23_1, hfz23_2, hfz23_3, hfz23_4⟩ := cz5_ (w := w20) BK378.out; have p387 : 0 ≤ ((ji11) : Int) := of_decide_eq_true z77_; have q387 : (ji11) < (l0_2.length : Int) := of_decide_eq_true z77_; obtain ⟨ad387, e387, hx387_0⟩ := Kd.at_int HR0_2.out (ji11) p387 q387; cases e387; have hn387_0 : ad387.block ≠ gb386 := Nat.ne_of_lt (Nat.lt_of_lt_of_le z70_ GW386.out); have hn387_1 : ad387.block ≠ gb386 := Nat.ne_of_lt (Nat.lt_of_lt_of_le z70_ GW386.out); have hn387_2 : ad387.block ≠ gb386 := Nat.ne_of_lt (Nat.lt_of_lt_of_le z70_ GW386.out); have hn387_3 : ad387.block ≠ gb386 := Nat.ne_of_lt (Nat.lt_of_lt_of_le z70_ GW386.out); replace hx387_0 := (HB.out.cell (World.block_lt_of_cell? _ _ hx387_0)).trans hx387_0; replace hx387_0 := (cell_far (p := ⟨gb386, 0, none⟩) z47_ (.int .i64 ((rd_T64 t379 x7_1).f0))).trans hx387_0; replace hx387_0 := (cell_far (p := ⟨gb386, 1, none⟩) z48_ (.int .i64 ((rd_T64 t379 x7_1).f1))).trans hx387_0; replace hx387_0 := (cell_far (p := ⟨gb386, 2, none⟩) z49_ (.bool ((rd_T64 t379 x7_1).f2))).trans hx387_0; replace hx387_0 := (cell_far (p := ⟨gb386, 3, none⟩) z50_ (.bool ((rd_T64 t379 x7_1).f3))).trans hx387_0; (try have hy387_0 := fun (n_ : Nat) => (show ((((((w20.drewN n_).setCell ⟨gb386, 0, none⟩ (.int .i64 ((rd_T64 t379 x7_1).f0))).setCell ⟨gb386, 1, none⟩ (.int .i64 ((rd_T64 t379 x7_1).f1))).setCell ⟨gb386, 2, none⟩ (.bool ((rd_T64 t379 x7_1).f2))).setCell ⟨gb386, 3, none⟩ (.bool ((rd_T64 t379 x7_1).f3)))).cell? _ = some _ from hx387_0)); clear hn387_0; clear hn387_1; clear hn387_2; clear hn387_3; replace p387 := eq_true p387; replace q387 := eq_true q387; have p388 : 0 ≤ ((ji14) : Int) := of_decide_eq_true z77_; have q388 : (ji14) < (l0_3.length : Int) := of_decide_eq_true z77_; obtain ⟨ad388, e388, hx388_0⟩ := Kd.at_int HR0_3.out (ji14) p388 q388; cases e388; have hn388_0 : ad388.block ≠ gb386 := Nat.ne_of_lt (Nat.lt_of_lt_of_le z71_ GW386.out); have hn388_1 : ad388.block ≠ gb386 := Nat.ne_of_lt (Nat.lt_of_lt_of_le z71_ GW386.out); have hn388_2 : ad388.block ≠ gb386 := Nat.ne_of_lt (Nat.lt_of_lt_of_le z71_ GW386.out); have hn388_3 : ad388.block ≠ gb386 := Nat.ne_of_lt (Nat.lt_of_lt_of_le z71_ GW386.out); replace hx388_0 := (HB.out.cell (World.block_lt_of_cell? _ _ hx388_0)).trans hx388_0; replace hx388_0 := (cell_far (p := ⟨gb386, 0, none⟩) z51_ (.int .i64 ((rd_T64 t379 x7_1).f0))).trans hx388_0; replace hx388_0 := (cell_far (p := ⟨gb386, 1, none⟩) z52_ (.int .i64 ((rd_T64 t379 x7_1).f1))).trans hx388_0; replace hx388_0 := (cell_far (p := ⟨gb386, 2, none⟩) z53_ (.bool ((rd_T64 t379 x7_1).f2))).trans hx388_0; replace hx388_0 := (cell_far (p := ⟨gb386, 3, none⟩) z54_ (.bool ((rd_T64 t379 x7_1).f3))).trans hx388_0; (try have hy388_0 := fun (n_ : Nat) => (show ((((((w20.drewN n_).setCell ⟨gb386, 0, none⟩ (.int .i64 ((rd_T64 t379 x7_1).f0))).setCell ⟨gb386, 1, none⟩ (.int .i64 ((rd_T64 t379 x7_1).f1))).setCell ⟨gb386, 2, none⟩ (.bool ((rd_T64 t379 x7_1).f2))).setCell ⟨gb386, 3, none⟩ (.bool ((rd_T64 t379 x7_1).f3)))).cell? _ = some _ from hx388_0)); clear hn388_0; clear hn388_1; clear hn388_2; clear hn388_3; replace p388 := eq_true p388; replace q388 := eq_true q388) | (go_at_call 83; (with_reducible refine (spec_l04Down.calls ((rd_T64 t379 x7_1).f0) ((rd_T64 t379 x7_1).f1) ((rd_T64 t379 x7_1).f2) ((rd_T64 t379 x7_1).f3) t389 _ A17.out).mono ?_); rintro e w24 ⟨rfl, hb⟩; replace HO_5 := a_ (Kd.R_below (rc_ (h := by exact Kd.R_mono (Kd.R_far (p := ⟨gb386, 3, none⟩) (Kd.R_far (p := ⟨gb386, 2, none⟩) (Kd.R_far (p := ⟨gb386, 1, none⟩) (Kd.R_far (p := ⟨gb386, 0, none⟩) (Kd.R_mono HO_5.out (fun k_ hk => (⟨hk, hk.2⟩ : _ ∧ k_ ≠ gb386))) (fun _ hk => hk.2) (.int .i64 ((rd_T64 t379 x7_1).f0))) (fun _ hk => hk.2) (.int .i64 ((rd_T64 t379 x7_1).f1))) (fun _ hk => hk.2) (.bool ((rd_T64 t379 x7_1).f2))) (fun _ hk => hk.2) (.bool ((rd_T64 t379 x7_1).f3))) (fun _ h_ => h_.1))) hb); replace HO_6 := a_ (Kd.R_below (rc_ (h := by exact Kd.R_mono (rt4_ HO_6.out BK386.out) (fun _ h_ => h_.1))) hb); replace BK378 := a_ (blk_below (g := gb378) (o := .cells #[.int .i64 a0_0, .int .i64 a0_1, .slice (some ad387) l0_2.length c0_2, .slice (some ad388) l0_3.length c0_3, .slice A0_4 l0_4.length c0_4] 28 (0, 0)) (rb2_ (h := by exact bf4_ NB378_386.out BK378.out)) hb); replace BK386 := a_ (blk_below (g := gb386) (o := .cells #[.int .i64 ((rd_T64 t379 x7_1).f0), .int .i64 ((rd_T64 t379 x7_1).f1), .bool ((rd_T64 t379 x7_1).f2), .bool ((rd_T64 t379 x7_1).f3)] 64 (0, 0)) (rb2_ (h := by exact bp4x4_ BK386.out)) hb); replace HB := a_ (below_step z8_ hb); (try clear hb); (try clear hb2); (try clear hk); (try clear hi)))
         repeat (go_quiet (first | ((with_reducible refine gate_dst (N := 8) rfl ?_); refine box_event ?hg (N := 8) ?hd (cs := #[.int .i64 0, .int .i64 0, .bool false, .bool false]) (t := 64) ?hr ?_; (case hd => rfl); (case hg => rfl); (case hr => first | (go_simp; done) | (go_simp; rfl)); intro gb386 hg w20 hbox hb; replace HO_5 := a_ (Kd.R_below (Kd.R_elderB (ra_ HO_5.out) gb386 (Nat.le_of_eq hg.symm)) hb); replace HO_6 := a_ (Kd.R_below (ra_ HO_6.out) hb); have BK386 := a_ (hbox); have GW386 := a_ ((z12_ : w.heap.size ≤ gb386)); have GE386 := a_ ((z12_ : w.heap.size ≤ gb386)); replace HB := a_ (below_step z28_ hb); have NB378_386 := a_ ((by rw [hg]; exact Nat.ne_of_lt (blk_lt (g := gb378) (rb_ BK378.out)) : gb378 ≠ gb386)); have NB386_378 := a_ ((by rw [hg]; exact Nat.ne_of_gt (blk_lt (g := gb378) (rb_ BK378.out)) : gb386 ≠ gb378)); replace BK378 := a_ (blk_below (g := gb378) (rb_ BK378.out) hb); clear hb hbox hg; have hnb21 := NB386_378.out; have hnc21 := NB378_386.out; obtain ⟨hcz22_0, hcz22_1, hcz22_2, hcz22_3, hfz22_0, hfz22_1, hfz22_2, hfz22_3⟩ := cz4_ (w := w20) BK386.out; obtain ⟨hcz23_0, hcz23_1, hcz23_2, hcz23_3, hcz23_4, hfz23_0, hfz23_1, hfz23_2, hfz23_3, hfz23_4⟩ := cz5_ (w := w20) BK378.out; have p387 : 0 ≤ ((ji11) : Int) := of_decide_eq_true z77_; have q387 : (ji11) < (l0_2.length : Int) := of_decide_eq_true z77_; obtain ⟨ad387, e387, hx387_0⟩ := Kd.at_int HR0_2.out (ji11) p387 q387; cases e387; have hn387_0 : ad387.block ≠ gb386 := Nat.ne_of_lt (Nat.lt_of_lt_of_le z70_ GW386.out); have hn387_1 : ad387.block ≠ gb386 := Nat.ne_of_lt (Nat.lt_of_lt_of_le z70_ GW386.out); have hn387_2 : ad387.block ≠ gb386 := Nat.ne_of_lt (Nat.lt_of_lt_of_le z70_ GW386.out); have hn387_3 : ad387.block ≠ gb386 := Nat.ne_of_lt (Nat.lt_of_lt_of_le z70_ GW386.out); replace hx387_0 := (HB.out.cell (World.block_lt_of_cell? _ _ hx387_0)).trans hx387_0; replace hx387_0 := (cell_far (p := ⟨gb386, 0, none⟩) z47_ (.int .i64 ((rd_T64 t379 x7_1).f0))).trans hx387_0; replace hx387_0 := (cell_far (p := ⟨gb386, 1, none⟩) z48_ (.int .i64 ((rd_T64 t379 x7_1).f1))).trans hx387_0; replace hx387_0 := (cell_far (p := ⟨gb386, 2, none⟩) z49_ (.bool ((rd_T64 t379 x7_1).f2))).trans hx387_0; replace hx387_0 := (cell_far (p := ⟨gb386, 3, none⟩) z50_ (.bool ((rd_T64 t379 x7_1).f3))).trans hx387_0; (try have hy387_0 := fun (n_ : Nat) => (show ((((((w20.drewN n_).setCell ⟨gb386, 0, none⟩ (.int .i64 ((rd_T64 t379 x7_1).f0))).setCell ⟨gb386, 1, none⟩ (.int .i64 ((rd_T64 t379 x7_1).f1))).setCell ⟨gb386, 2, none⟩ (.bool ((rd_T64 t379 x7_1).f2))).setCell ⟨gb386, 3, none⟩ (.bool ((rd_T64 t379 x7_1).f3)))).cell? _ = some _ from hx387_0)); clear hn387_0; clear hn387_1; clear hn387_2; clear hn387_3; replace p387 := eq_true p387; replace q387 := eq_true q387; have p388 : 0 ≤ ((ji14) : Int) := of_decide_eq_true z77_; have q388 : (ji14) < (l0_3.length : Int) := of_decide_eq_true z77_; obtain ⟨ad388, e388, hx388_0⟩ := Kd.at_int HR0_3.out (ji14) p388 q388; cases e388; have hn388_0 : ad388.block ≠ gb386 := Nat.ne_of_lt (Nat.lt_of_lt_of_le z71_ GW386.out); have hn388_1 : ad388.block ≠ gb386 := Nat.ne_of_lt (Nat.lt_of_lt_of_le z71_ GW386.out); have hn388_2 : ad388.block ≠ gb386 := Nat.ne_of_lt (Nat.lt_of_lt_of_le z71_ GW386.out); have hn388_3 : ad388.block ≠ gb386 := Nat.ne_of_lt (Nat.lt_of_lt_of_le z71_ GW386.out); replace hx388_0 := (HB.out.cell (World.block_lt_of_cell? _ _ hx388_0)).trans hx388_0; replace hx388_0 := (cell_far (p := ⟨gb386, 0, none⟩) z51_ (.int .i64 ((rd_T64 t379 x7_1).f0))).trans hx388_0; replace hx388_0 := (cell_far (p := ⟨gb386, 1, none⟩) z52_ (.int .i64 ((rd_T64 t379 x7_1).f1))).trans hx388_0; replace hx388_0 := (cell_far (p := ⟨gb386, 2, none⟩) z53_ (.bool ((rd_T64 t379 x7_1).f2))).trans hx388_0; replace hx388_0 := (cell_far (p := ⟨gb386, 3, none⟩) z54_ (.bool ((rd_T64 t379 x7_1).f3))).trans hx388_0; (try have hy388_0 := fun (n_ : Nat) => (show ((((((w20.drewN n_).setCell ⟨gb386, 0, none⟩ (.int .i64 ((rd_T64 t379 x7_1).f0))).setCell ⟨gb386, 1, none⟩ (.int .i64 ((rd_T64 t379 x7_1).f1))).setCell ⟨gb386, 2, none⟩ (.bool ((rd_T64 t379 x7_1).f2))).setCell ⟨gb386, 3, none⟩ (.bool ((rd_T64 t379 x7_1).f3)))).cell? _ = some _ from hx388_0)); clear hn388_0; clear hn388_1; clear hn388_2; clear hn388_3; replace p388 := eq_true p388; replace q388 := eq_true q388) | (go_at_call 83; (with_reducible refine (spec_l04Down.calls ((rd_T64 t379 x7_1).f0) ((rd_T64 t379 x7_1).f1) ((rd_T64 t379 x7_1).f2) ((rd_T64 t379 x7_1).f3) t389 _ A17.out).mono ?_); rintro e w24 ⟨rfl, hb⟩; replace HO_5 := a_ (Kd.R_below (rc_ (h := by exact Kd.R_mono (Kd.R_far (p := ⟨gb386, 3, none⟩) (Kd.R_far (p := ⟨gb386, 2, none⟩) (Kd.R_far (p := ⟨gb386, 1, none⟩) (Kd.R_far (p := ⟨gb386, 0, none⟩) (Kd.R_mono HO_5.out (fun k_ hk => (⟨hk, hk.2⟩ : _ ∧ k_ ≠ gb386))) (fun _ hk => hk.2) (.int .i64 ((rd_T64 t379 x7_1).f0))) (fun _ hk => hk.2) (.int .i64 ((rd_T64 t379 x7_1).f1))) (fun _ hk => hk.2) (.bool ((rd_T64 t379 x7_1).f2))) (fun _ hk => hk.2) (.bool ((rd_T64 t379 x7_1).f3))) (fun _ h_ => h_.1))) hb); replace HO_6 := a_ (Kd.R_below (rc_ (h := by exact Kd.R_mono (rt4_ HO_6.out BK386.out) (fun _ h_ => h_.1))) hb); replace BK378 := a_ (blk_below (g := gb378) (o := .cells #[.int .i64 a0_0, .int .i64 a0_1, .slice (some ad387) l0_2.length c0_2, .slice (some ad388) l0_3.length c0_3, .slice A0_4 l0_4.length c0_4] 28 (0, 0)) (rb2_ (h := by exact bf4_ NB378_386.out BK378.out)) hb); replace BK386 := a_ (blk_below (g := gb386) (o := .cells #[.int .i64 ((rd_T64 t379 x7_1).f0), .int .i64 ((rd_T64 t379 x7_1).f1), .bool ((rd_T64 t379 x7_1).f2), .bool ((rd_T64 t379 x7_1).f3)] 64 (0, 0)) (rb2_ (h := by exact bp4x4_ BK386.out)) hb); replace HB := a_ (below_step z8_ hb); (try clear hb); (try clear hb2); (try clear hk); (try clear hi))); go_upto_if 59 with (first | ((with_reducible refine gate_dst (N := 8) rfl ?_); refine box_event ?hg (N := 8) ?hd (cs := #[.int .i64 0, .int .i64 0, .bool false, .bool false]) (t := 64) ?hr ?_; (case hd => rfl); (case hg => rfl); (case hr => first | (go_simp; done) | (go_simp; rfl)); intro gb386 hg w20 hbox hb; replace HO_5 := a_ (Kd.R_below (Kd.R_elderB (ra_ HO_5.out) gb386 (Nat.le_of_eq hg.symm)) hb); replace HO_6 := a_ (Kd.R_below (ra_ HO_6.out) hb); have BK386 := a_ (hbox); have GW386 := a_ ((z12_ : w.heap.size ≤ gb386)); have GE386 := a_ ((z12_ : w.heap.size ≤ gb386)); replace HB := a_ (below_step z28_ hb); have NB378_386 := a_ ((by rw [hg]; exact Nat.ne_of_lt (blk_lt (g := gb378) (rb_ BK378.out)) : gb378 ≠ gb386)); have NB386_378 := a_ ((by rw [hg]; exact Nat.ne_of_gt (blk_lt (g := gb378) (rb_ BK378.out)) : gb386 ≠ gb378)); replace BK378 := a_ (blk_below (g := gb378) (rb_ BK378.out) hb); clear hb hbox hg; have hnb21 := NB386_378.out; have hnc21 := NB378_386.out; obtain ⟨hcz22_0, hcz22_1, hcz22_2, hcz22_3, hfz22_0, hfz22_1, hfz22_2, hfz22_3⟩ := cz4_ (w := w20) BK386.out; obtain ⟨hcz23_0, hcz23_1, hcz23_2, hcz23_3, hcz23_4, hfz23_0, hfz23_1, hfz23_2, hfz23_3, hfz23_4⟩ := cz5_ (w := w20) BK378.out; have p387 : 0 ≤ ((ji11) : Int) := of_decide_eq_true z77_; have q387 : (ji11) < (l0_2.length : Int) := of_decide_eq_true z77_; obtain ⟨ad387, e387, hx387_0⟩ := Kd.at_int HR0_2.out (ji11) p387 q387; cases e387; have hn387_0 : ad387.block ≠ gb386 := Nat.ne_of_lt (Nat.lt_of_lt_of_le z70_ GW386.out); have hn387_1 : ad387.block ≠ gb386 := Nat.ne_of_lt (Nat.lt_of_lt_of_le z70_ GW386.out); have hn387_2 : ad387.block ≠ gb386 := Nat.ne_of_lt (Nat.lt_of_lt_of_le z70_ GW386.out); have hn387_3 : ad387.block ≠ gb386 := Nat.ne_of_lt (Nat.lt_of_lt_of_le z70_ GW386.out); replace hx387_0 := (HB.out.cell (World.block_lt_of_cell? _ _ hx387_0)).trans hx387_0; replace hx387_0 := (cell_far (p := ⟨gb386, 0, none⟩) z47_ (.int .i64 ((rd_T64 t379 x7_1).f0))).trans hx387_0; replace hx387_0 := (cell_far (p := ⟨gb386, 1, none⟩) z48_ (.int .i64 ((rd_T64 t379 x7_1).f1))).trans hx387_0; replace hx387_0 := (cell_far (p := ⟨gb386, 2, none⟩) z49_ (.bool ((rd_T64 t379 x7_1).f2))).trans hx387_0; replace hx387_0 := (cell_far (p := ⟨gb386, 3, none⟩) z50_ (.bool ((rd_T64 t379 x7_1).f3))).trans hx387_0; (try have hy387_0 := fun (n_ : Nat) => (show ((((((w20.drewN n_).setCell ⟨gb386, 0, none⟩ (.int .i64 ((rd_T64 t379 x7_1).f0))).setCell ⟨gb386, 1, none⟩ (.int .i64 ((rd_T64 t379 x7_1).f1))).setCell ⟨gb386, 2, none⟩ (.bool ((rd_T64 t379 x7_1).f2))).setCell ⟨gb386, 3, none⟩ (.bool ((rd_T64 t379 x7_1).f3)))).cell? _ = some _ from hx387_0)); clear hn387_0; clear hn387_1; clear hn387_2; clear hn387_3; replace p387 := eq_true p387; replace q387 := eq_true q387; have p388 : 0 ≤ ((ji14) : Int) := of_decide_eq_true z77_; have q388 : (ji14) < (l0_3.length : Int) := of_decide_eq_true z77_; obtain ⟨ad388, e388, hx388_0⟩ := Kd.at_int HR0_3.out (ji14) p388 q388; cases e388; have hn388_0 : ad388.block ≠ gb386 := Nat.ne_of_lt (Nat.lt_of_lt_of_le z71_ GW386.out); have hn388_1 : ad388.block ≠ gb386 := Nat.ne_of_lt (Nat.lt_of_lt_of_le z71_ GW386.out); have hn388_2 : ad388.block ≠ gb386 := Nat.ne_of_lt (Nat.lt_of_lt_of_le z71_ GW386.out); have hn388_3 : ad388.block ≠ gb386 := Nat.ne_of_lt (Nat.lt_of_lt_of_le z71_ GW386.out); replace hx388_0 := (HB.out.cell (World.block_lt_of_cell? _ _ hx388_0)).trans hx388_0; replace hx388_0 := (cell_far (p := ⟨gb386, 0, none⟩) z51_ (.int .i64 ((rd_T64 t379 x7_1).f0))).trans hx388_0; replace hx388_0 := (cell_far (p := ⟨gb386, 1, none⟩) z52_ (.int .i64 ((rd_T64 t379 x7_1).f1))).trans hx388_0; replace hx388_0 := (cell_far (p := ⟨gb386, 2, none⟩) z53_ (.bool ((rd_T64 t379 x7_1).f2))).trans hx388_0; replace hx388_0 := (cell_far (p := ⟨gb386, 3, none⟩) z54_ (.bool ((rd_T64 t379 x7_1).f3))).trans hx388_0; (try have hy388_0 := fun (n_ : Nat) => (show ((((((w20.drewN n_).setCell ⟨gb386, 0, none⟩ (.int .i64 ((rd_T64 t379 x7_1).f0))).setCell ⟨gb386, 1, none⟩ (.int .i64 ((rd_T64 t379 x7_1).f1))).setCell ⟨gb386, 2, none⟩ (.bool ((rd_T64 t379 x7_1).f2))).setCell ⟨gb386, 3, none⟩ (.bool ((rd_T64 t379 x7_1).f3)))).cell? _ = some _ from hx388_0)); clear hn388_0; clear hn388_1; clear hn388_2; clear hn388_3; replace p388 := eq_true p388; replace q388 := eq_true q388) | (go_at_call 83; (with_reducible refine (spec_l04Down.calls ((rd_T64 t379 x7_1).f0) ((rd_T64 t379 x7_1).f1) ((rd_T64 t379 x7_1).f2) ((rd_T64 t379 x7_1).f3) t389 _ A17.out).mono ?_); rintro e w24 ⟨rfl, hb⟩; replace HO_5 := a_ (Kd.R_below (rc_ (h := by exact Kd.R_mono (Kd.R_far (p := ⟨gb386, 3, none⟩) (Kd.R_far (p := ⟨gb386, 2, none⟩) (Kd.R_far (p := ⟨gb386, 1, none⟩) (Kd.R_far (p := ⟨gb386, 0, none⟩) (Kd.R_mono HO_5.out (fun k_ hk => (⟨hk, hk.2⟩ : _ ∧ k_ ≠ gb386))) (fun _ hk => hk.2) (.int .i64 ((rd_T64 t379 x7_1).f0))) (fun _ hk => hk.2) (.int .i64 ((rd_T64 t379 x7_1).f1))) (fun _ hk => hk.2) (.bool ((rd_T64 t379 x7_1).f2))) (fun _ hk => hk.2) (.bool ((rd_T64 t379 x7_1).f3))) (fun _ h_ => h_.1))) hb); replace HO_6 := a_ (Kd.R_below (rc_ (h := by exact Kd.R_mono (rt4_ HO_6.out BK386.out) (fun _ h_ => h_.1))) hb); replace BK378 := a_ (blk_below (g := gb378) (o := .cells #[.int .i64 a0_0, .int .i64 a0_1, .slice (some ad387) l0_2.length c0_2, .slice (some ad388) l0_3.length c0_3, .slice A0_4 l0_4.length c0_4] 28 (0, 0)) (rb2_ (h := by exact bf4_ NB378_386.out BK378.out)) hb); replace BK386 := a_ (blk_below (g := gb386) (o := .cells #[.int .i64 ((rd_T64 t379 x7_1).f0), .int .i64 ((rd_T64 t379 x7_1).f1), .bool ((rd_T64 t379 x7_1).f2), .bool ((rd_T64 t379 x7_1).f3)] 64 (0, 0)) (rb2_ (h := by exact bp4x4_ BK386.out)) hb); replace HB := a_ (below_step z8_ hb); (try clear hb); (try clear hb2); (try clear hk); (try clear hi))))
         (try simp only [Act.put, List.setIfInBounds_toArray, List.set_cons_zero, List.set_cons_succ])
         go_cut [10, 11] (fun v10 v11 wc => ∃ (kq : Nat) (x10_17 : Int) (x11_17 : Int), v10 = .int .i64 x10_17 ∧ v11 = .int .i64 x11_17 ∧ Aside0 (spec_l05Read.j1 kq t379 x6_1 x7_1 ji11 x10_17 x11_17 a0_0 a0_1 l0_2 l0_3 l0_4 ((rd_T64 t379 x7_1).f0) ((rd_T64 t379 x7_1).f1) ((rd_T64 t379 x7_1).f2) ((rd_T64 t379 x7_1).f3) = some r) ∧ Aside0 (kq ≤ k1) ∧ Aside0 (Kd.R k64 64 wc w.heap.size (fun k_ => k_ ≠ gb386) (.slice (some ad385) t379.length co19) t379) ∧ Aside0 (Kd.R (Kd.int .i64) 2 wc w.heap.size (fun _ => True) u6 x6_1) ∧ Aside0 (wc.heap[gb378]? = some (.cells #[.int .i64 a0_0, .int .i64 a0_1, (.slice (some ad387) l0_2.length c0_2), (.slice (some ad388) l0_3.length c0_3), (.slice A0_4 l0_4.length c0_4)] 28 (0, 0))) ∧ Aside0 (wc.heap[gb386]? = some (.cells #[.int .i64 ((rd_T64 t379 x7_1).f0), .int .i64 ((rd_T64 t379 x7_1).f1), .bool ((rd_T64 t379 x7_1).f2), .bool ((rd_T64 t379 x7_1).f3)] 64 (0, 0))) ∧ Aside0 (Below w.heap.size w wc))
         case first =>
          have H := HC18.out
          clear HC18
          by_cases c25 : t389 = true
          ·subst c25
           have H1 : (spec_l05Read.j1 k1 t379 x6_1 x7_1 ji11 (rd l0_3 (ji14)) (rd l0_2 (ji11)) a0_0 a0_1 l0_2 l0_3 l0_4 ((rd_T64 t379 x7_1).f0) ((rd_T64 t379 x7_1).f1) ((rd_T64 t379 x7_1).f2) ((rd_T64 t379 x7_1).f3)) = some r := by rw [if_pos rfl] at H; exact H
           clear H
           have H := H1
           clear H1
           have H' := Aside0.mk H
           clear H
           go_wp2
           repeat (go_quiet (fail); try go_wp2)
           go_meet
           case rel => exact ⟨_, (rd l0_3 (ji14)), (rd l0_2 (ji11)), (by first | rfl | (simp; done) | (simp only [← hji14] <;> (first | rfl | simp)) | (simp [*]; done)), (by first | rfl | (simp; done) | (simp only [← hji11] <;> (first | rfl | simp)) | (simp [*]; done)), H', ⟨z76_⟩, ⟨z37_⟩, ⟨z64_⟩, ⟨z58_⟩, ⟨by (with_reducible repeat (first | refine blk_drewN ?_ _ | refine blk_drew ?_ | refine blk_alloc ?_ _)); exact BK386.out⟩, ⟨z8_⟩⟩
          ·replace c25 := Bool.eq_false_iff.mpr c25
           subst c25
           have H1 : (spec_l05Read.j1 k1 t379 x6_1 x7_1 ji11 (rd l0_2 (ji11)) (rd l0_3 (ji14)) a0_0 a0_1 l0_2 l0_3 l0_4 ((rd_T64 t379 x7_1).f0) ((rd_T64 t379 x7_1).f1) ((rd_T64 t379 x7_1).f2) ((rd_T64 t379 x7_1).f3)) = some r := by rw [if_neg (show ¬ (false = true) by decide)] at H; exact H
           clear H
           have H := H1
           clear H1
           have H' := Aside0.mk H
           clear H
           go_wp2
           repeat (go_quiet (fail); try go_wp2)
           go_meet
           case rel => exact ⟨_, (rd l0_2 (ji11)), (rd l0_3 (ji14)), (by first | rfl | (simp; done) | (simp only [← hji11] <;> (first | rfl | simp)) | (simp [*]; done)), (by first | rfl | (simp; done) | (simp only [← hji14] <;> (first | rfl | simp)) | (simp [*]; done)), H', ⟨z76_⟩, ⟨z37_⟩, ⟨z64_⟩, ⟨z58_⟩, ⟨by (with_reducible repeat (first | refine blk_drewN ?_ _ | refine blk_drew ?_ | refine blk_alloc ?_ _)); exact BK386.out⟩, ⟨z8_⟩⟩
         case rest =>
          clear HC18; try clear c9b0; try clear c10b0; try clear c12b0; try clear c13b0; try clear c15b0; try clear c16b0; try clear hcz22_0 hcz22_1 hcz22_2 hcz22_3; try clear hcz23_0 hcz23_1 hcz23_2 hcz23_3 hcz23_4; try clear hfz22_0 hfz22_1 hfz22_2 hfz22_3; try clear hfz23_0 hfz23_1 hfz23_2 hfz23_3 hfz23_4; try clear hx385_0; try clear hx385_1; try clear hx385_2; try clear hx385_3; try clear hx387_0; try clear hx388_0; try clear p385; try clear p387; try clear p388; try clear q385; try clear q387; try clear q388
          obtain ⟨kq, x10_17, x11_17, rfl, rfl, HA, HJ17, HO_5, HO_6, BK378, BK386, HB⟩ := hcut
          cases kq with
          | zero => exact absurd HA.out (by simp [spec_l05Read.j1])
          | succ kj17 =>
           have H := HA.out
           clear HA
           simp only [spec_l05Read.j1] at H
           by_cases c26 : 0 ≤ ji11
           ·rw [if_pos c26] at H
            have c26b0 : decide (0 ≤ ji11) = true := decide_eq_true c26
            clear c26
            by_cases c27 : ji11 < (l0_4.length : Int)
            ·rw [if_pos c27] at H
             have c27b0 : decide (ji11 < (l0_4.length : Int)) = true := decide_eq_true c27
             clear c27
             by_cases c28 : (((rd_T64 t379 x7_1).f3) != ((rd l0_4 ji11) == 1)) = true
             ·rw [if_pos c28] at H
              have c28b0 : (((rd_T64 t379 x7_1).f3) != ((rd l0_4 ji11) == 1)) = true := c28
              (try (have c28b1 : decide (((rd_T64 t379 x7_1).f3) = ((rd l0_4 ji11) == 1)) = false := by simpa using c28))
              (try (have c28b2 : (((rd_T64 t379 x7_1).f3) == ((rd l0_4 ji11) == 1)) = false := by simpa using c28))
              (try (have c28b3 : ¬ (((rd_T64 t379 x7_1).f3) = ((rd l0_4 ji11) == 1)) := by simpa using c28))
              clear c28
              obtain ⟨y391, hy391⟩ : ∃ y_ : List Int, y_ = (([wrap64 (-x10_17), wrap64 (-x11_17)] : List Int)) := ⟨_, rfl⟩
              replace H : (if x6_1.length + y391.length < 17592186044416 then (spec_l05Read.l0 kj17 t379 (x6_1 ++ y391) (wrap64 (x7_1 + 1)) a0_0 a0_1 l0_2 l0_3 l0_4) else (none)) = some r := rh_ hy391 H
              have Ny391 := Aside0.mk hy391
              clear hy391
              by_cases c29 : x6_1.length + y391.length < 17592186044416
              ·rw [if_pos c29] at H
               have LMc29 := Aside0.mk c29
               clear c29
               obtain ⟨y394, hy394⟩ : ∃ y_ : List Int, y_ = (x6_1 ++ y391) := ⟨_, rfl⟩
               replace H : (spec_l05Read.l0 kj17 t379 y394 (wrap64 (x7_1 + 1)) a0_0 a0_1 l0_2 l0_3 l0_4) = some r := rh_ hy394 H
               have Ny394 := Aside0.mk hy394
               clear hy394
               have H' := Aside0.mk H
               clear H
               have hnb30 := NB386_378.out
               have hnc30 := NB378_386.out
               obtain ⟨hcz31_0, hcz31_1, hcz31_2, hcz31_3, hfz31_0, hfz31_1, hfz31_2, hfz31_3⟩ := cz4_ (w := wc) BK386.out
               obtain ⟨hcz32_0, hcz32_1, hcz32_2, hcz32_3, hcz32_4, hfz32_0, hfz32_1, hfz32_2, hfz32_3, hfz32_4⟩ := cz5_ (w := wc) BK378.out
               have p390 : 0 ≤ (ji11 : Int) := of_decide_eq_true z77_
               have q390 : ji11 < (l0_4.length : Int) := of_decide_eq_true z77_
               obtain ⟨ad390, e390, hx390_0⟩ := Kd.at_int HR0_4.out ji11 p390 q390
               cases e390
               replace hx390_0 := (HB.out.cell (World.block_lt_of_cell? _ _ hx390_0)).trans hx390_0
               replace p390 := eq_true p390
               replace q390 := eq_true q390
               go_wp2_with (first | ((with_reducible refine gate_dst (N := 78) rfl ?_); refine Kd.R_lit (Kd.int .i64) _ 2 ?hg (N := 78) ?hd (xs := ([wrap64 (-x10_17), wrap64 (-x11_17)] : List Int)) (inner := [.int .i64 (wrap64 (-x10_17)), .int .i64 (wrap64 (-x11_17))]) (ok := fun _ => True) (okp := fun _ => True) ?hr ?hp (fun _ hk => hk) trivial (Below.refl _ _) (Nat.le_refl _) (by simp) ?_; (case hd => rfl); (case hg => rfl); (case hr => first | (go_simp; done) | (go_simp; rfl)); (case hp => exact (Reps.one (show Kd.M (Kd.int .i64) _ _ _ (wrap64 (-x10_17)) [.int .i64 (wrap64 (-x10_17))] from rfl) (Reps.one (show Kd.M (Kd.int .i64) _ _ _ (wrap64 (-x11_17)) [.int .i64 (wrap64 (-x11_17))] from rfl) (Reps.none _ _)))); intro v392 w33 ho34 hb hg_ hnew_; clear hg_ hnew_; (first | rw [← Ny391.out] at ho34 | (simp only [Int.reduceToNat] at ho34; rw [← Ny391.out] at ho34)); replace HO_5 := a_ (Kd.R_below (ra_ HO_5.out) hb); have HO393 := a_ (Kd.R_lower (Kd.R_new' ho34 (Kd.R_lt (ra_ HO_6.out))) (below_size z8_)); replace HO_6 := a_ (Kd.R_elder' (ra_ HO_6.out) (Kd.R_base ho34) hb); replace BK378 := a_ (blk_below (g := gb378) (rb_ BK378.out) hb); replace BK386 := a_ (blk_below (g := gb386) (rb_ BK386.out) hb); replace HB := a_ (below_step z8_ hb); clear hb ho34; obtain ⟨Ao36, co36, eo36⟩ := Kd.R_slice HO393.out; subst eo36) | ((with_reducible refine gate_builtin (b := .append) (xs := #[.tmp 75, .tmp 78]) rfl ?_); at_builtin; refine Kd.R_append_rows (Kd.int .i64) (w0 := w) w.heap.size rfl (.tmp 75) (.tmp 78) 22 2 (.int .i64 0) 8 rfl Tryz.underlying22 info2 rfl (by decide) (by omega) u6 x6_1 y391 _ _ _ (fun k_ => nb_ k_ Ao36 y391.length co36) (fun _ => False) rfl rfl ?aO ?aR (fun _ _ h => h) (fun _ h => h.elim) ?aF ?aB ?aS ?aL ?_; (case aR => repeat (first | exact (Kd.R_reads' HO393.out).2.2 | (with_reducible refine Kd.C_alloc ?_ _) | (with_reducible refine Kd.C_drewN ?_ _) | (with_reducible refine Kd.C_drew ?_))); (case aB => exact z8_); (case aF => exact (fun k_ hk => Kd.fresh' (Kd.R_lt (ra_ HO393.out)) k_ hk)); (case aO => exact (rc_ (h := by exact Kd.R_mono HO_6.out (fun _ hk => hk.2)))); (case aS => exact (below_size z8_)); (case aL => have := LMc29.out; omega); intro v395 w35 ho hb hg hat; rw [← Ny394.out] at ho; replace HO_5 := a_ (Kd.R_over' (ra_ HO_5.out) (Kd.R_typed (ra_ HO_6.out)) (by decide) hg); replace BK378 := a_ (blk_grown (g := gb378) (rb_ BK378.out) hg (Kd.R_ne HO_6.out BK378.out (by decide))); replace BK386 := a_ (blk_grown (g := gb386) (rb_ BK386.out) hg (Kd.R_ne HO_6.out BK386.out (by decide))); replace HO393 := a_ (Kd.R_after (ok := (fun _ => True)) (ra_ HO393.out) hg hat); replace HB := a_ (hb); have HO396 := a_ (ho); clear HO_6; clear ho hb hg hat))
               repeat (go_quiet (first | ((with_reducible refine gate_dst (N := 78) rfl ?_); refine Kd.R_lit (Kd.int .i64) _ 2 ?hg (N := 78) ?hd (xs := ([wrap64 (-x10_17), wrap64 (-x11_17)] : List Int)) (inner := [.int .i64 (wrap64 (-x10_17)), .int .i64 (wrap64 (-x11_17))]) (ok := fun _ => True) (okp := fun _ => True) ?hr ?hp (fun _ hk => hk) trivial (Below.refl _ _) (Nat.le_refl _) (by simp) ?_; (case hd => rfl); (case hg => rfl); (case hr => first | (go_simp; done) | (go_simp; rfl)); (case hp => exact (Reps.one (show Kd.M (Kd.int .i64) _ _ _ (wrap64 (-x10_17)) [.int .i64 (wrap64 (-x10_17))] from rfl) (Reps.one (show Kd.M (Kd.int .i64) _ _ _ (wrap64 (-x11_17)) [.int .i64 (wrap64 (-x11_17))] from rfl) (Reps.none _ _)))); intro v392 w33 ho34 hb hg_ hnew_; clear hg_ hnew_; (first | rw [← Ny391.out] at ho34 | (simp only [Int.reduceToNat] at ho34; rw [← Ny391.out] at ho34)); replace HO_5 := a_ (Kd.R_below (ra_ HO_5.out) hb); have HO393 := a_ (Kd.R_lower (Kd.R_new' ho34 (Kd.R_lt (ra_ HO_6.out))) (below_size z8_)); replace HO_6 := a_ (Kd.R_elder' (ra_ HO_6.out) (Kd.R_base ho34) hb); replace BK378 := a_ (blk_below (g := gb378) (rb_ BK378.out) hb); replace BK386 := a_ (blk_below (g := gb386) (rb_ BK386.out) hb); replace HB := a_ (below_step z8_ hb); clear hb ho34; obtain ⟨Ao36, co36, eo36⟩ := Kd.R_slice HO393.out; subst eo36) | ((with_reducible refine gate_builtin (b := .append) (xs := #[.tmp 75, .tmp 78]) rfl ?_); at_builtin; refine Kd.R_append_rows (Kd.int .i64) (w0 := w) w.heap.size rfl (.tmp 75) (.tmp 78) 22 2 (.int .i64 0) 8 rfl Tryz.underlying22 info2 rfl (by decide) (by omega) u6 x6_1 y391 _ _ _ (fun k_ => nb_ k_ Ao36 y391.length co36) (fun _ => False) rfl rfl ?aO ?aR (fun _ _ h => h) (fun _ h => h.elim) ?aF ?aB ?aS ?aL ?_; (case aR => repeat (first | exact (Kd.R_reads' HO393.out).2.2 | (with_reducible refine Kd.C_alloc ?_ _) | (with_reducible refine Kd.C_drewN ?_ _) | (with_reducible refine Kd.C_drew ?_))); (case aB => exact z8_); (case aF => exact (fun k_ hk => Kd.fresh' (Kd.R_lt (ra_ HO393.out)) k_ hk)); (case aO => exact (rc_ (h := by exact Kd.R_mono HO_6.out (fun _ hk => hk.2)))); (case aS => exact (below_size z8_)); (case aL => have := LMc29.out; omega); intro v395 w35 ho hb hg hat; rw [← Ny394.out] at ho; replace HO_5 := a_ (Kd.R_over' (ra_ HO_5.out) (Kd.R_typed (ra_ HO_6.out)) (by decide) hg); replace BK378 := a_ (blk_grown (g := gb378) (rb_ BK378.out) hg (Kd.R_ne HO_6.out BK378.out (by decide))); replace BK386 := a_ (blk_grown (g := gb386) (rb_ BK386.out) hg (Kd.R_ne HO_6.out BK386.out (by decide))); replace HO393 := a_ (Kd.R_after (ok := (fun _ => True)) (ra_ HO393.out) hg hat); replace HB := a_ (hb); have HO396 := a_ (ho); clear HO_6; clear ho hb hg hat)); try go_wp2_with (first | ((with_reducible refine gate_dst (N := 78) rfl ?_); refine Kd.R_lit (Kd.int .i64) _ 2 ?hg (N := 78) ?hd (xs := ([wrap64 (-x10_17), wrap64 (-x11_17)] : List Int)) (inner := [.int .i64 (wrap64 (-x10_17)), .int .i64 (wrap64 (-x11_17))]) (ok := fun _ => True) (okp := fun _ => True) ?hr ?hp (fun _ hk => hk) trivial (Below.refl _ _) (Nat.le_refl _) (by simp) ?_; (case hd => rfl); (case hg => rfl); (case hr => first | (go_simp; done) | (go_simp; rfl)); (case hp => exact (Reps.one (show Kd.M (Kd.int .i64) _ _ _ (wrap64 (-x10_17)) [.int .i64 (wrap64 (-x10_17))] from rfl) (Reps.one (show Kd.M (Kd.int .i64) _ _ _ (wrap64 (-x11_17)) [.int .i64 (wrap64 (-x11_17))] from rfl) (Reps.none _ _)))); intro v392 w33 ho34 hb hg_ hnew_; clear hg_ hnew_; (first | rw [← Ny391.out] at ho34 | (simp only [Int.reduceToNat] at ho34; rw [← Ny391.out] at ho34)); replace HO_5 := a_ (Kd.R_below (ra_ HO_5.out) hb); have HO393 := a_ (Kd.R_lower (Kd.R_new' ho34 (Kd.R_lt (ra_ HO_6.out))) (below_size z8_)); replace HO_6 := a_ (Kd.R_elder' (ra_ HO_6.out) (Kd.R_base ho34) hb); replace BK378 := a_ (blk_below (g := gb378) (rb_ BK378.out) hb); replace BK386 := a_ (blk_below (g := gb386) (rb_ BK386.out) hb); replace HB := a_ (below_step z8_ hb); clear hb ho34; obtain ⟨Ao36, co36, eo36⟩ := Kd.R_slice HO393.out; subst eo36) | ((with_reducible refine gate_builtin (b := .append) (xs := #[.tmp 75, .tmp 78]) rfl ?_); at_builtin; refine Kd.R_append_rows (Kd.int .i64) (w0 := w) w.heap.size rfl (.tmp 75) (.tmp 78) 22 2 (.int .i64 0) 8 rfl Tryz.underlying22 info2 rfl (by decide) (by omega) u6 x6_1 y391 _ _ _ (fun k_ => nb_ k_ Ao36 y391.length co36) (fun _ => False) rfl rfl ?aO ?aR (fun _ _ h => h) (fun _ h => h.elim) ?aF ?aB ?aS ?aL ?_; (case aR => repeat (first | exact (Kd.R_reads' HO393.out).2.2 | (with_reducible refine Kd.C_alloc ?_ _) | (with_reducible refine Kd.C_drewN ?_ _) | (with_reducible refine Kd.C_drew ?_))); (case aB => exact z8_); (case aF => exact (fun k_ hk => Kd.fresh' (Kd.R_lt (ra_ HO393.out)) k_ hk)); (case aO => exact (rc_ (h := by exact Kd.R_mono HO_6.out (fun _ hk => hk.2)))); (case aS => exact (below_size z8_)); (case aL => have := LMc29.out; omega); intro v395 w35 ho hb hg hat; rw [← Ny394.out] at ho; replace HO_5 := a_ (Kd.R_over' (ra_ HO_5.out) (Kd.R_typed (ra_ HO_6.out)) (by decide) hg); replace BK378 := a_ (blk_grown (g := gb378) (rb_ BK378.out) hg (Kd.R_ne HO_6.out BK378.out (by decide))); replace BK386 := a_ (blk_grown (g := gb386) (rb_ BK386.out) hg (Kd.R_ne HO_6.out BK386.out (by decide))); replace HO393 := a_ (Kd.R_after (ok := (fun _ => True)) (ra_ HO393.out) hg hat); replace HB := a_ (hb); have HO396 := a_ (ho); clear HO_6; clear ho hb hg hat)))
               try (have hw3_ := Go.IntWalk.i64_left (-x10_17); have hw4_ := Go.IntWalk.i64_left (-x11_17); (go_quiet (first | ((with_reducible refine gate_dst (N := 78) rfl ?_); refine Kd.R_lit (Kd.int .i64) _ 2 ?hg (N := 78) ?hd (xs := ([wrap64 (-x10_17), wrap64 (-x11_17)] : List Int)) (inner := [.int .i64 (wrap64 (-x10_17)), .int .i64 (wrap64 (-x11_17))]) (ok := fun _ => True) (okp := fun _ => True) ?hr ?hp (fun _ hk => hk) trivial (Below.refl _ _) (Nat.le_refl _) (by simp) ?_; (case hd => rfl); (case hg => rfl); (case hr => first | (go_simp; done) | (go_simp; rfl)); (case hp => exact (Reps.one (show Kd.M (Kd.int .i64) _ _ _ (wrap64 (-x10_17)) [.int .i64 (wrap64 (-x10_17))] from rfl) (Reps.one (show Kd.M (Kd.int .i64) _ _ _ (wrap64 (-x11_17)) [.int .i64 (wrap64 (-x11_17))] from rfl) (Reps.none _ _)))); intro v392 w33 ho34 hb hg_ hnew_; clear hg_ hnew_; (first | rw [← Ny391.out] at ho34 | (simp only [Int.reduceToNat] at ho34; rw [← Ny391.out] at ho34)); replace HO_5 := a_ (Kd.R_below (ra_ HO_5.out) hb); have HO393 := a_ (Kd.R_lower (Kd.R_new' ho34 (Kd.R_lt (ra_ HO_6.out))) (below_size z8_)); replace HO_6 := a_ (Kd.R_elder' (ra_ HO_6.out) (Kd.R_base ho34) hb); replace BK378 := a_ (blk_below (g := gb378) (rb_ BK378.out) hb); replace BK386 := a_ (blk_below (g := gb386) (rb_ BK386.out) hb); replace HB := a_ (below_step z8_ hb); clear hb ho34; obtain ⟨Ao36, co36, eo36⟩ := Kd.R_slice HO393.out; subst eo36) | ((with_reducible refine gate_builtin (b := .append) (xs := #[.tmp 75, .tmp 78]) rfl ?_); at_builtin; refine Kd.R_append_rows (Kd.int .i64) (w0 := w) w.heap.size rfl (.tmp 75) (.tmp 78) 22 2 (.int .i64 0) 8 rfl Tryz.underlying22 info2 rfl (by decide) (by omega) u6 x6_1 y391 _ _ _ (fun k_ => nb_ k_ Ao36 y391.length co36) (fun _ => False) rfl rfl ?aO ?aR (fun _ _ h => h) (fun _ h => h.elim) ?aF ?aB ?aS ?aL ?_; (case aR => repeat (first | exact (Kd.R_reads' HO393.out).2.2 | (with_reducible refine Kd.C_alloc ?_ _) | (with_reducible refine Kd.C_drewN ?_ _) | (with_reducible refine Kd.C_drew ?_))); (case aB => exact z8_); (case aF => exact (fun k_ hk => Kd.fresh' (Kd.R_lt (ra_ HO393.out)) k_ hk)); (case aO => exact (rc_ (h := by exact Kd.R_mono HO_6.out (fun _ hk => hk.2)))); (case aS => exact (below_size z8_)); (case aL => have := LMc29.out; omega); intro v395 w35 ho hb hg hat; rw [← Ny394.out] at ho; replace HO_5 := a_ (Kd.R_over' (ra_ HO_5.out) (Kd.R_typed (ra_ HO_6.out)) (by decide) hg); replace BK378 := a_ (blk_grown (g := gb378) (rb_ BK378.out) hg (Kd.R_ne HO_6.out BK378.out (by decide))); replace BK386 := a_ (blk_grown (g := gb386) (rb_ BK386.out) hg (Kd.R_ne HO_6.out BK386.out (by decide))); replace HO393 := a_ (Kd.R_after (ok := (fun _ => True)) (ra_ HO393.out) hg hat); replace HB := a_ (hb); have HO396 := a_ (ho); clear HO_6; clear ho hb hg hat))); (try go_wp2_with (first | ((with_reducible refine gate_dst (N := 78) rfl ?_); refine Kd.R_lit (Kd.int .i64) _ 2 ?hg (N := 78) ?hd (xs := ([wrap64 (-x10_17), wrap64 (-x11_17)] : List Int)) (inner := [.int .i64 (wrap64 (-x10_17)), .int .i64 (wrap64 (-x11_17))]) (ok := fun _ => True) (okp := fun _ => True) ?hr ?hp (fun _ hk => hk) trivial (Below.refl _ _) (Nat.le_refl _) (by simp) ?_; (case hd => rfl); (case hg => rfl); (case hr => first | (go_simp; done) | (go_simp; rfl)); (case hp => exact (Reps.one (show Kd.M (Kd.int .i64) _ _ _ (wrap64 (-x10_17)) [.int .i64 (wrap64 (-x10_17))] from rfl) (Reps.one (show Kd.M (Kd.int .i64) _ _ _ (wrap64 (-x11_17)) [.int .i64 (wrap64 (-x11_17))] from rfl) (Reps.none _ _)))); intro v392 w33 ho34 hb hg_ hnew_; clear hg_ hnew_; (first | rw [← Ny391.out] at ho34 | (simp only [Int.reduceToNat] at ho34; rw [← Ny391.out] at ho34)); replace HO_5 := a_ (Kd.R_below (ra_ HO_5.out) hb); have HO393 := a_ (Kd.R_lower (Kd.R_new' ho34 (Kd.R_lt (ra_ HO_6.out))) (below_size z8_)); replace HO_6 := a_ (Kd.R_elder' (ra_ HO_6.out) (Kd.R_base ho34) hb); replace BK378 := a_ (blk_below (g := gb378) (rb_ BK378.out) hb); replace BK386 := a_ (blk_below (g := gb386) (rb_ BK386.out) hb); replace HB := a_ (below_step z8_ hb); clear hb ho34; obtain ⟨Ao36, co36, eo36⟩ := Kd.R_slice HO393.out; subst eo36) | ((with_reducible refine gate_builtin (b := .append) (xs := #[.tmp 75, .tmp 78]) rfl ?_); at_builtin; refine Kd.R_append_rows (Kd.int .i64) (w0 := w) w.heap.size rfl (.tmp 75) (.tmp 78) 22 2 (.int .i64 0) 8 rfl Tryz.underlying22 info2 rfl (by decide) (by omega) u6 x6_1 y391 _ _ _ (fun k_ => nb_ k_ Ao36 y391.length co36) (fun _ => False) rfl rfl ?aO ?aR (fun _ _ h => h) (fun _ h => h.elim) ?aF ?aB ?aS ?aL ?_; (case aR => repeat (first | exact (Kd.R_reads' HO393.out).2.2 | (with_reducible refine Kd.C_alloc ?_ _) | (with_reducible refine Kd.C_drewN ?_ _) | (with_reducible refine Kd.C_drew ?_))); (case aB => exact z8_); (case aF => exact (fun k_ hk => Kd.fresh' (Kd.R_lt (ra_ HO393.out)) k_ hk)); (case aO => exact (rc_ (h := by exact Kd.R_mono HO_6.out (fun _ hk => hk.2)))); (case aS => exact (below_size z8_)); (case aL => have := LMc29.out; omega); intro v395 w35 ho hb hg hat; rw [← Ny394.out] at ho; replace HO_5 := a_ (Kd.R_over' (ra_ HO_5.out) (Kd.R_typed (ra_ HO_6.out)) (by decide) hg); replace BK378 := a_ (blk_grown (g := gb378) (rb_ BK378.out) hg (Kd.R_ne HO_6.out BK378.out (by decide))); replace BK386 := a_ (blk_grown (g := gb386) (rb_ BK386.out) hg (Kd.R_ne HO_6.out BK386.out (by decide))); replace HO393 := a_ (Kd.R_after (ok := (fun _ => True)) (ra_ HO393.out) hg hat); replace HB := a_ (hb); have HO396 := a_ (ho); clear HO_6; clear ho hb hg hat))))
               go_roundg kj17
               case measure => have := HK1.out; have := HJ17.out; omega
               case rel => exact ⟨(y394), (wrap64 (x7_1 + 1)), z78_, H', ⟨by have := HK1.out; have := HJ17.out; omega⟩, ⟨by (with_reducible repeat (first | apply Kd.R_alloc | apply Kd.R_drewN | apply Kd.R_drew)); exact Kd.R_mono HO_5.out (fun _ hk => trivial)⟩, ⟨by (with_reducible repeat (first | apply Kd.R_alloc | apply Kd.R_drewN | apply Kd.R_drew)); exact Kd.R_mono HO396.out (fun _ hk => trivial)⟩, ⟨z58_⟩, ⟨z8_⟩⟩
              ·rw [if_neg c29] at H
               exact absurd H (by simp)
             ·rw [if_neg c28] at H
              have c28b0 : (((rd_T64 t379 x7_1).f3) != ((rd l0_4 ji11) == 1)) = false := by simpa using c28
              (try (have c28b1 : decide (((rd_T64 t379 x7_1).f3) = ((rd l0_4 ji11) == 1)) = true := by simpa using c28))
              (try (have c28b2 : (((rd_T64 t379 x7_1).f3) == ((rd l0_4 ji11) == 1)) = true := by simpa using c28))
              clear c28
              obtain ⟨y397, hy397⟩ : ∃ y_ : List Int, y_ = (([x10_17, x11_17] : List Int)) := ⟨_, rfl⟩
              replace H : (if x6_1.length + y397.length < 17592186044416 then (spec_l05Read.l0 kj17 t379 (x6_1 ++ y397) (wrap64 (x7_1 + 1)) a0_0 a0_1 l0_2 l0_3 l0_4) else (none)) = some r := rh_ hy397 H
              have Ny397 := Aside0.mk hy397
              clear hy397
              by_cases c37 : x6_1.length + y397.length < 17592186044416
              ·rw [if_pos c37] at H
               have LMc37 := Aside0.mk c37
               clear c37
               obtain ⟨y400, hy400⟩ : ∃ y_ : List Int, y_ = (x6_1 ++ y397) := ⟨_, rfl⟩
               replace H : (spec_l05Read.l0 kj17 t379 y400 (wrap64 (x7_1 + 1)) a0_0 a0_1 l0_2 l0_3 l0_4) = some r := rh_ hy400 H
               have Ny400 := Aside0.mk hy400
               clear hy400
               have H' := Aside0.mk H
               clear H
               have hnb38 := NB386_378.out
               have hnc38 := NB378_386.out
               obtain ⟨hcz39_0, hcz39_1, hcz39_2, hcz39_3, hfz39_0, hfz39_1, hfz39_2, hfz39_3⟩ := cz4_ (w := wc) BK386.out
               obtain ⟨hcz40_0, hcz40_1, hcz40_2, hcz40_3, hcz40_4, hfz40_0, hfz40_1, hfz40_2, hfz40_3, hfz40_4⟩ := cz5_ (w := wc) BK378.out
               have p390 : 0 ≤ (ji11 : Int) := of_decide_eq_true z77_
               have q390 : ji11 < (l0_4.length : Int) := of_decide_eq_true z77_
               obtain ⟨ad390, e390, hx390_0⟩ := Kd.at_int HR0_4.out ji11 p390 q390
               cases e390
               replace hx390_0 := (HB.out.cell (World.block_lt_of_cell? _ _ hx390_0)).trans hx390_0
               replace p390 := eq_true p390
               replace q390 := eq_true q390
               go_wp2_with (first | ((with_reducible refine gate_dst (N := 78) rfl ?_); refine Kd.R_lit (Kd.int .i64) _ 2 ?hg (N := 78) ?hd (xs := ([x10_17, x11_17] : List Int)) (inner := [.int .i64 x10_17, .int .i64 x11_17]) (ok := fun _ => True) (okp := fun _ => True) ?hr ?hp (fun _ hk => hk) trivial (Below.refl _ _) (Nat.le_refl _) (by simp) ?_; (case hd => rfl); (case hg => rfl); (case hr => first | (go_simp; done) | (go_simp; rfl)); (case hp => exact (Reps.one (show Kd.M (Kd.int .i64) _ _ _ x10_17 [.int .i64 x10_17] from rfl) (Reps.one (show Kd.M (Kd.int .i64) _ _ _ x11_17 [.int .i64 x11_17] from rfl) (Reps.none _ _)))); intro v398 w41 ho42 hb hg_ hnew_; clear hg_ hnew_; (first | rw [← Ny397.out] at ho42 | (simp only [Int.reduceToNat] at ho42; rw [← Ny397.out] at ho42)); replace HO_5 := a_ (Kd.R_below (ra_ HO_5.out) hb); have HO399 := a_ (Kd.R_lower (Kd.R_new' ho42 (Kd.R_lt (ra_ HO_6.out))) (below_size z8_)); replace HO_6 := a_ (Kd.R_elder' (ra_ HO_6.out) (Kd.R_base ho42) hb); replace BK378 := a_ (blk_below (g := gb378) (rb_ BK378.out) hb); replace BK386 := a_ (blk_below (g := gb386) (rb_ BK386.out) hb); replace HB := a_ (below_step z8_ hb); clear hb ho42; obtain ⟨Ao44, co44, eo44⟩ := Kd.R_slice HO399.out; subst eo44) | ((with_reducible refine gate_builtin (b := .append) (xs := #[.tmp 75, .tmp 78]) rfl ?_); at_builtin; refine Kd.R_append_rows (Kd.int .i64) (w0 := w) w.heap.size rfl (.tmp 75) (.tmp 78) 22 2 (.int .i64 0) 8 rfl Tryz.underlying22 info2 rfl (by decide) (by omega) u6 x6_1 y397 _ _ _ (fun k_ => nb_ k_ Ao44 y397.length co44) (fun _ => False) rfl rfl ?aO ?aR (fun _ _ h => h) (fun _ h => h.elim) ?aF ?aB ?aS ?aL ?_; (case aR => repeat (first | exact (Kd.R_reads' HO399.out).2.2 | (with_reducible refine Kd.C_alloc ?_ _) | (with_reducible refine Kd.C_drewN ?_ _) | (with_reducible refine Kd.C_drew ?_))); (case aB => exact z8_); (case aF => exact (fun k_ hk => Kd.fresh' (Kd.R_lt (ra_ HO399.out)) k_ hk)); (case aO => exact (rc_ (h := by exact Kd.R_mono HO_6.out (fun _ hk => hk.2)))); (case aS => exact (below_size z8_)); (case aL => have := LMc37.out; omega); intro v401 w43 ho hb hg hat; rw [← Ny400.out] at ho; replace HO_5 := a_ (Kd.R_over' (ra_ HO_5.out) (Kd.R_typed (ra_ HO_6.out)) (by decide) hg); replace BK378 := a_ (blk_grown (g := gb378) (rb_ BK378.out) hg (Kd.R_ne HO_6.out BK378.out (by decide))); replace BK386 := a_ (blk_grown (g := gb386) (rb_ BK386.out) hg (Kd.R_ne HO_6.out BK386.out (by decide))); replace HO399 := a_ (Kd.R_after (ok := (fun _ => True)) (ra_ HO399.out) hg hat); replace HB := a_ (hb); have HO402 := a_ (ho); clear HO_6; clear ho hb hg hat))
               repeat (go_quiet (first | ((with_reducible refine gate_dst (N := 78) rfl ?_); refine Kd.R_lit (Kd.int .i64) _ 2 ?hg (N := 78) ?hd (xs := ([x10_17, x11_17] : List Int)) (inner := [.int .i64 x10_17, .int .i64 x11_17]) (ok := fun _ => True) (okp := fun _ => True) ?hr ?hp (fun _ hk => hk) trivial (Below.refl _ _) (Nat.le_refl _) (by simp) ?_; (case hd => rfl); (case hg => rfl); (case hr => first | (go_simp; done) | (go_simp; rfl)); (case hp => exact (Reps.one (show Kd.M (Kd.int .i64) _ _ _ x10_17 [.int .i64 x10_17] from rfl) (Reps.one (show Kd.M (Kd.int .i64) _ _ _ x11_17 [.int .i64 x11_17] from rfl) (Reps.none _ _)))); intro v398 w41 ho42 hb hg_ hnew_; clear hg_ hnew_; (first | rw [← Ny397.out] at ho42 | (simp only [Int.reduceToNat] at ho42; rw [← Ny397.out] at ho42)); replace HO_5 := a_ (Kd.R_below (ra_ HO_5.out) hb); have HO399 := a_ (Kd.R_lower (Kd.R_new' ho42 (Kd.R_lt (ra_ HO_6.out))) (below_size z8_)); replace HO_6 := a_ (Kd.R_elder' (ra_ HO_6.out) (Kd.R_base ho42) hb); replace BK378 := a_ (blk_below (g := gb378) (rb_ BK378.out) hb); replace BK386 := a_ (blk_below (g := gb386) (rb_ BK386.out) hb); replace HB := a_ (below_step z8_ hb); clear hb ho42; obtain ⟨Ao44, co44, eo44⟩ := Kd.R_slice HO399.out; subst eo44) | ((with_reducible refine gate_builtin (b := .append) (xs := #[.tmp 75, .tmp 78]) rfl ?_); at_builtin; refine Kd.R_append_rows (Kd.int .i64) (w0 := w) w.heap.size rfl (.tmp 75) (.tmp 78) 22 2 (.int .i64 0) 8 rfl Tryz.underlying22 info2 rfl (by decide) (by omega) u6 x6_1 y397 _ _ _ (fun k_ => nb_ k_ Ao44 y397.length co44) (fun _ => False) rfl rfl ?aO ?aR (fun _ _ h => h) (fun _ h => h.elim) ?aF ?aB ?aS ?aL ?_; (case aR => repeat (first | exact (Kd.R_reads' HO399.out).2.2 | (with_reducible refine Kd.C_alloc ?_ _) | (with_reducible refine Kd.C_drewN ?_ _) | (with_reducible refine Kd.C_drew ?_))); (case aB => exact z8_); (case aF => exact (fun k_ hk => Kd.fresh' (Kd.R_lt (ra_ HO399.out)) k_ hk)); (case aO => exact (rc_ (h := by exact Kd.R_mono HO_6.out (fun _ hk => hk.2)))); (case aS => exact (below_size z8_)); (case aL => have := LMc37.out; omega); intro v401 w43 ho hb hg hat; rw [← Ny400.out] at ho; replace HO_5 := a_ (Kd.R_over' (ra_ HO_5.out) (Kd.R_typed (ra_ HO_6.out)) (by decide) hg); replace BK378 := a_ (blk_grown (g := gb378) (rb_ BK378.out) hg (Kd.R_ne HO_6.out BK378.out (by decide))); replace BK386 := a_ (blk_grown (g := gb386) (rb_ BK386.out) hg (Kd.R_ne HO_6.out BK386.out (by decide))); replace HO399 := a_ (Kd.R_after (ok := (fun _ => True)) (ra_ HO399.out) hg hat); replace HB := a_ (hb); have HO402 := a_ (ho); clear HO_6; clear ho hb hg hat)); try go_wp2_with (first | ((with_reducible refine gate_dst (N := 78) rfl ?_); refine Kd.R_lit (Kd.int .i64) _ 2 ?hg (N := 78) ?hd (xs := ([x10_17, x11_17] : List Int)) (inner := [.int .i64 x10_17, .int .i64 x11_17]) (ok := fun _ => True) (okp := fun _ => True) ?hr ?hp (fun _ hk => hk) trivial (Below.refl _ _) (Nat.le_refl _) (by simp) ?_; (case hd => rfl); (case hg => rfl); (case hr => first | (go_simp; done) | (go_simp; rfl)); (case hp => exact (Reps.one (show Kd.M (Kd.int .i64) _ _ _ x10_17 [.int .i64 x10_17] from rfl) (Reps.one (show Kd.M (Kd.int .i64) _ _ _ x11_17 [.int .i64 x11_17] from rfl) (Reps.none _ _)))); intro v398 w41 ho42 hb hg_ hnew_; clear hg_ hnew_; (first | rw [← Ny397.out] at ho42 | (simp only [Int.reduceToNat] at ho42; rw [← Ny397.out] at ho42)); replace HO_5 := a_ (Kd.R_below (ra_ HO_5.out) hb); have HO399 := a_ (Kd.R_lower (Kd.R_new' ho42 (Kd.R_lt (ra_ HO_6.out))) (below_size z8_)); replace HO_6 := a_ (Kd.R_elder' (ra_ HO_6.out) (Kd.R_base ho42) hb); replace BK378 := a_ (blk_below (g := gb378) (rb_ BK378.out) hb); replace BK386 := a_ (blk_below (g := gb386) (rb_ BK386.out) hb); replace HB := a_ (below_step z8_ hb); clear hb ho42; obtain ⟨Ao44, co44, eo44⟩ := Kd.R_slice HO399.out; subst eo44) | ((with_reducible refine gate_builtin (b := .append) (xs := #[.tmp 75, .tmp 78]) rfl ?_); at_builtin; refine Kd.R_append_rows (Kd.int .i64) (w0 := w) w.heap.size rfl (.tmp 75) (.tmp 78) 22 2 (.int .i64 0) 8 rfl Tryz.underlying22 info2 rfl (by decide) (by omega) u6 x6_1 y397 _ _ _ (fun k_ => nb_ k_ Ao44 y397.length co44) (fun _ => False) rfl rfl ?aO ?aR (fun _ _ h => h) (fun _ h => h.elim) ?aF ?aB ?aS ?aL ?_; (case aR => repeat (first | exact (Kd.R_reads' HO399.out).2.2 | (with_reducible refine Kd.C_alloc ?_ _) | (with_reducible refine Kd.C_drewN ?_ _) | (with_reducible refine Kd.C_drew ?_))); (case aB => exact z8_); (case aF => exact (fun k_ hk => Kd.fresh' (Kd.R_lt (ra_ HO399.out)) k_ hk)); (case aO => exact (rc_ (h := by exact Kd.R_mono HO_6.out (fun _ hk => hk.2)))); (case aS => exact (below_size z8_)); (case aL => have := LMc37.out; omega); intro v401 w43 ho hb hg hat; rw [← Ny400.out] at ho; replace HO_5 := a_ (Kd.R_over' (ra_ HO_5.out) (Kd.R_typed (ra_ HO_6.out)) (by decide) hg); replace BK378 := a_ (blk_grown (g := gb378) (rb_ BK378.out) hg (Kd.R_ne HO_6.out BK378.out (by decide))); replace BK386 := a_ (blk_grown (g := gb386) (rb_ BK386.out) hg (Kd.R_ne HO_6.out BK386.out (by decide))); replace HO399 := a_ (Kd.R_after (ok := (fun _ => True)) (ra_ HO399.out) hg hat); replace HB := a_ (hb); have HO402 := a_ (ho); clear HO_6; clear ho hb hg hat)))
               go_roundg kj17
               case measure => have := HK1.out; have := HJ17.out; omega
               case rel => exact ⟨(y400), (wrap64 (x7_1 + 1)), z78_, H', ⟨by have := HK1.out; have := HJ17.out; omega⟩, ⟨by (with_reducible repeat (first | apply Kd.R_alloc | apply Kd.R_drewN | apply Kd.R_drew)); exact Kd.R_mono HO_5.out (fun _ hk => trivial)⟩, ⟨by (with_reducible repeat (first | apply Kd.R_alloc | apply Kd.R_drewN | apply Kd.R_drew)); exact Kd.R_mono HO402.out (fun _ hk => trivial)⟩, ⟨z58_⟩, ⟨z8_⟩⟩
              ·rw [if_neg c37] at H
               exact absurd H (by simp)
            ·rw [if_neg c27] at H
             exact absurd H (by simp)
           ·rw [if_neg c26] at H
            exact absurd H (by simp)
        ·rw [if_neg c16] at H
         exact absurd H (by simp)
       ·rw [if_neg c15] at H
        exact absurd H (by simp)
      ·rw [if_neg c13] at H
       exact absurd H (by simp)
     ·rw [if_neg c12] at H
      exact absurd H (by simp)
    ·rw [if_neg c10] at H
     exact absurd H (by simp)
   ·rw [if_neg c9] at H
    have c9b0 : decide (x7_1 < (t379.length : Int)) = false := decide_eq_false c9
    clear c9
    obtain rfl := Option.some.inj H
    obtain ⟨Ao45, co45, eo45⟩ := Kd.R_slice HO_5.out
    subst eo45
    go_wp2
    repeat (go_quiet (fail); try go_wp2)
    go_ret
    exact ⟨_, z34_, z64_, z28_⟩

/-! ### spec_ReadForm: function 24 -/
def spec_ReadForm.f (k : Nat) (a0_0 : Int) (a0_1 : Int) (l0_2 : List Int) (l0_3 : List Int) (l0_4 : List Int) (a1 : ByteArray) : Option (List Int × Int) := (spec_l05Code.f k a0_0 a0_1 l0_2 l0_3 l0_4 a1).bind fun t404 => (if t404 = 0 then ((spec_l05Read.f k a0_0 a0_1 l0_2 l0_3 l0_4 a1).bind fun t405 => (some (t405, 0))) else (some (([] : List Int), t404)))
theorem spec_ReadForm.mono : ∀ a0 a1 a2 a3 a4 a5 k, LeO (spec_ReadForm.f k a0 a1 a2 a3 a4 a5) (spec_ReadForm.f (k + 1) a0 a1 a2 a3 a4 a5) := by
 intro a0 a1 a2 a3 a4 a5 k
 unfold spec_ReadForm.f
 repeat' first
   | (with_reducible exact spec_l05Code.mono _ _ _ _ _ _ _)
   | (with_reducible exact spec_l05Read.mono _ _ _ _ _ _ _)
   | (with_reducible exact LeO.refl _)
   | (with_reducible exact LeO.none _)
   | (with_reducible refine LeO.ite ?_ ?_)
   | (with_reducible refine LeO.bind ?_ (fun _ => ?_))
   | exact spec_l05Code.mono _ _ _ _ _ _ _
   | exact spec_l05Read.mono _ _ _ _ _ _ _
   | exact LeO.none _
   | refine LeO.ite ?_ ?_
   | refine LeO.bind ?_ (fun _ => ?_)
set_option maxHeartbeats 8000000 in
set_option maxRecDepth 100000 in
theorem spec_ReadForm.calls (k : Nat) (a0_0 : Int) (a0_1 : Int) (A0_2 : Option Addr) (c0_2 : Nat) (l0_2 : List Int) (A0_3 : Option Addr) (c0_3 : Nat) (l0_3 : List Int) (A0_4 : Option Addr) (c0_4 : Nat) (l0_4 : List Int) (a1 : ByteArray) (r1 : List Int) (r2 : Int) (w : World) (hr0_2 : Kd.C (Kd.int .i64) w A0_2 l0_2.length l0_2) (hc0_2 : l0_2.length ≤ c0_2) (hr0_3 : Kd.C (Kd.int .i64) w A0_3 l0_3.length l0_3) (hc0_3 : l0_3.length ≤ c0_3) (hr0_4 : Kd.C (Kd.int .i64) w A0_4 l0_4.length l0_4) (hc0_4 : l0_4.length ≤ c0_4) (h : spec_ReadForm.f k a0_0 a0_1 l0_2 l0_3 l0_4 a1 = some (r1, r2)) :
  Calls Tryz.prog 24 #[.agg #[.int .i64 a0_0, .int .i64 a0_1, .slice A0_2 l0_2.length c0_2, .slice A0_3 l0_3.length c0_3, .slice A0_4 l0_4.length c0_4], .string a1] w fun e w' => ∃ v0_ : Value, e = .returned (.tuple #[v0_, .int .i64 r2]) ∧ Kd.R (Kd.int .i64) 2 w' w.heap.size (fun _ => True) v0_ r1 ∧ Below w.heap.size w w' := by
 have hu28 := Tryz.underlying28
 have HR0_2 := Aside0.mk hr0_2
 have HC0_2 := Aside0.mk hc0_2
 clear hr0_2 hc0_2
 have HR0_3 := Aside0.mk hr0_3
 have HC0_3 := Aside0.mk hc0_3
 clear hr0_3 hc0_3
 have HR0_4 := Aside0.mk hr0_4
 have HC0_4 := Aside0.mk hc0_4
 clear hr0_4 hc0_4
 have HB := a_ (Below.refl w.heap.size w)
 have H : ((spec_l05Code.f k a0_0 a0_1 l0_2 l0_3 l0_4 a1).bind fun t404 => (if t404 = 0 then ((spec_l05Read.f k a0_0 a0_1 l0_2 l0_3 l0_4 a1).bind fun t405 => (some (t405, 0))) else (some (([] : List Int), t404)))) = some (r1, r2) := h
 clear h
 replace H := Option.bind_eq_some_iff.mp H
 obtain ⟨t404, A30, H⟩ := H
 replace H : (if t404 = 0 then ((spec_l05Read.f k a0_0 a0_1 l0_2 l0_3 l0_4 a1).bind fun t405 => (some (t405, 0))) else (some (([] : List Int), t404))) = some (r1, r2) := H
 have A3 := Aside0.mk A30
 clear A30
 by_cases c4 : t404 = 0
 ·rw [if_pos c4] at H
  have c4b0 : (t404 == 0) = true := beq_iff_eq.mpr c4
  have c4b1 : (t404 != 0) = false := bne_eq_false_iff_eq.mpr c4
  clear c4
  replace H := Option.bind_eq_some_iff.mp H
  obtain ⟨t405, A50, H⟩ := H
  replace H : (some (t405, 0)) = some (r1, r2) := H
  have A5 := Aside0.mk A50
  clear A50
  simp only [Option.some.injEq, Prod.mk.injEq] at H
  obtain ⟨rfl, rfl⟩ := H
  go_enter Tryz.func24, Tryz.ntmps24
  go_wp2_with (first | ((with_reducible refine gate_dst (N := 2) rfl ?_); refine box_event ?hg (N := 2) ?hd (cs := #[.int .i64 a0_0, .int .i64 a0_1, .slice A0_2 l0_2.length c0_2, .slice A0_3 l0_3.length c0_3, .slice A0_4 l0_4.length c0_4]) (t := 28) ?hr ?_; (case hd => rfl); (case hg => rfl); (case hr => first | (go_simp; done) | (go_simp; rfl)); intro gb403 hg w6 hbox hb; have BK403 := a_ (hbox); have GW403 := a_ ((z32_ : w.heap.size ≤ gb403)); have GE403 := a_ ((z32_ : w.heap.size ≤ gb403)); replace HB := a_ (below_step z33_ hb); clear hb hbox hg; obtain ⟨hcz7_0, hcz7_1, hcz7_2, hcz7_3, hcz7_4, hfz7_0, hfz7_1, hfz7_2, hfz7_3, hfz7_4⟩ := cz5_ (w := w6) BK403.out) | ((with_reducible refine gate_callee (f := 36) rfl ?_); refine goesL_ (some 9) rfl rfl Tryz.func36 (by kernel_rfl) rfl #[.agg #[.int .i64 a0_0, .int .i64 a0_1, .slice A0_2 l0_2.length c0_2, .slice A0_3 l0_3.length c0_3, .slice A0_4 l0_4.length c0_4], .string a1] rfl z36_ ?_; (with_reducible refine (spec_l05Code.calls k a0_0 a0_1 _ _ l0_2 _ _ l0_3 _ _ l0_4 a1 t404 _ ?side1 ?side2 ?side3 ?side4 ?side5 ?side6 A3.out).mono ?_); (case side1 => exact kc_ (Kd.C_below HR0_2.out HB.out)); (case side2 => exact HC0_2.out); (case side3 => exact kc_ (Kd.C_below HR0_3.out HB.out)); (case side4 => exact HC0_3.out); (case side5 => exact kc_ (Kd.C_below HR0_4.out HB.out)); (case side6 => exact HC0_4.out); rintro e w8 ⟨rfl, hb⟩; refine ⟨_, rfl, ?_⟩; replace BK403 := a_ (blk_below (g := gb403) (rb_ BK403.out) hb); replace HB := a_ (below_step z29_ hb); (try clear hb); (try clear hb2); (try clear hk); (try clear hi); obtain ⟨hcz9_0, hcz9_1, hcz9_2, hcz9_3, hcz9_4, hfz9_0, hfz9_1, hfz9_2, hfz9_3, hfz9_4⟩ := cz5_ (w := w8) BK403.out) | ((with_reducible refine gate_callee (f := 72) rfl ?_); refine goesL_ (some 15) rfl rfl Tryz.func72 (by kernel_rfl) rfl #[.agg #[.int .i64 a0_0, .int .i64 a0_1, .slice A0_2 l0_2.length c0_2, .slice A0_3 l0_3.length c0_3, .slice A0_4 l0_4.length c0_4], .string a1] rfl z36_ ?_; (with_reducible refine (spec_l05Read.calls k a0_0 a0_1 _ _ l0_2 _ _ l0_3 _ _ l0_4 a1 t405 _ ?side1 ?side2 ?side3 ?side4 ?side5 ?side6 A5.out).mono ?_); (case side1 => exact kc_ (Kd.C_below HR0_2.out HB.out)); (case side2 => exact HC0_2.out); (case side3 => exact kc_ (Kd.C_below HR0_3.out HB.out)); (case side4 => exact HC0_3.out); (case side5 => exact kc_ (Kd.C_below HR0_4.out HB.out)); (case side6 => exact HC0_4.out); rintro e w10 ⟨v406, rfl, ho0, hb⟩; refine ⟨_, rfl, ?_⟩; have HO407 := a_ (Kd.R_lower ho0 (below_size z29_)); replace BK403 := a_ (blk_below (g := gb403) (rb_ BK403.out) hb); replace HB := a_ (below_step z29_ hb); (try clear hb); (try clear hb2); (try clear hk); (try clear hi); (try clear ho0)))
  go_ret2
  exact ⟨_, z34_, by (with_reducible repeat (first | apply Kd.R_alloc | apply Kd.R_drewN | apply Kd.R_drew)); exact HO407.out, z29_⟩
 ·rw [if_neg c4] at H
  have c4b0 : (t404 == 0) = false := beq_eq_false_iff_ne.mpr c4
  have c4b1 : (t404 != 0) = true := bne_iff_ne.mpr c4
  simp only [Option.some.injEq, Prod.mk.injEq] at H
  obtain ⟨rfl, rfl⟩ := H
  go_enter Tryz.func24, Tryz.ntmps24
  go_wp2_with (first | ((with_reducible refine gate_dst (N := 2) rfl ?_); refine box_event ?hg (N := 2) ?hd (cs := #[.int .i64 a0_0, .int .i64 a0_1, .slice A0_2 l0_2.length c0_2, .slice A0_3 l0_3.length c0_3, .slice A0_4 l0_4.length c0_4]) (t := 28) ?hr ?_; (case hd => rfl); (case hg => rfl); (case hr => first | (go_simp; done) | (go_simp; rfl)); intro gb403 hg w11 hbox hb; have BK403 := a_ (hbox); have GW403 := a_ ((z32_ : w.heap.size ≤ gb403)); have GE403 := a_ ((z32_ : w.heap.size ≤ gb403)); replace HB := a_ (below_step z33_ hb); clear hb hbox hg; obtain ⟨hcz12_0, hcz12_1, hcz12_2, hcz12_3, hcz12_4, hfz12_0, hfz12_1, hfz12_2, hfz12_3, hfz12_4⟩ := cz5_ (w := w11) BK403.out) | ((with_reducible refine gate_callee (f := 36) rfl ?_); refine goesL_ (some 9) rfl rfl Tryz.func36 (by kernel_rfl) rfl #[.agg #[.int .i64 a0_0, .int .i64 a0_1, .slice A0_2 l0_2.length c0_2, .slice A0_3 l0_3.length c0_3, .slice A0_4 l0_4.length c0_4], .string a1] rfl z36_ ?_; (with_reducible refine (spec_l05Code.calls k a0_0 a0_1 _ _ l0_2 _ _ l0_3 _ _ l0_4 a1 t404 _ ?side1 ?side2 ?side3 ?side4 ?side5 ?side6 A3.out).mono ?_); (case side1 => exact kc_ (Kd.C_below HR0_2.out HB.out)); (case side2 => exact HC0_2.out); (case side3 => exact kc_ (Kd.C_below HR0_3.out HB.out)); (case side4 => exact HC0_3.out); (case side5 => exact kc_ (Kd.C_below HR0_4.out HB.out)); (case side6 => exact HC0_4.out); rintro e w13 ⟨rfl, hb⟩; refine ⟨_, rfl, ?_⟩; replace BK403 := a_ (blk_below (g := gb403) (rb_ BK403.out) hb); replace HB := a_ (below_step z29_ hb); (try clear hb); (try clear hb2); (try clear hk); (try clear hi)))
  go_ret2
  exact ⟨_, z34_, by first | exact Kd.R_nil _ _ _ _ _ | exact Kd.N_nil _ _ _ _ _ | exact Kd.V_nil _ _ _ _ _ | exact Kd.Q_nil _ _ _ _ _ | exact Kd.S_nil _ _ _ _ _, z29_⟩

end Go.Proofs.YtkpidjmhdagkfaaGreatDoor.QFnExactReadForm
-- halved
