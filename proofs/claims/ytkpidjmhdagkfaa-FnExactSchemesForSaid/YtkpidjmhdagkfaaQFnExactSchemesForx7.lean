-- Written by own_print.py of this session's repo over the kit's print (its output, turned at some places).
import Derived.Test.YtkpidjmhdagkfaaQFnExactSchemesForx0
import Derived.Test.YtkpidjmhdagkfaaQFnExactSchemesForx4
import Derived.Test.YtkpidjmhdagkfaaQFnExactSchemesForx5
import Derived.Test.YtkpidjmhdagkfaaQFnExactSchemesForx6
namespace Go.Proofs.Ytkpidjmhdagkfaa.QFnExactSchemesFor
open Go.RowKit Go.Proofs.YtkpidjmhdagkfaaW.PrintWords Go.Proofs.YtkpidjmhdagkfaaW.PrintLast Go.Proofs.YtkpidjmhdagkfaaW.PrintMore
attribute [local go_sem] max2_int min2_int max_two min_two max_three min_three max_four min_four   -- for this text's walks alone
set_option linter.unusedVariables false
set_option linter.unusedSimpArgs false

/-! ### spec_l04Leaves: function 88 -/
mutual
def spec_l04Leaves.l0 : Nat → ByteArray → List (List (List (S102))) → Int → Option ((List (S102)))
 | 0, _, _, _ => none
 | k + 1, x2, x7, x8 => if x8 < (x2.size : Int) then (if 0 ≤ x8 then (if (bt x2 x8) = 76 then (spec_l04Leaves.j1 k x2 x7 x8 true) else (spec_l04Leaves.j1 k x2 x7 x8 ((bt x2 x8) == 82))) else (none)) else (if 0 < (x7.length : Int) then (if 0 < ((rd_L5 x7 0).length : Int) then (some (rd_L4 (rd_L5 x7 0) 0)) else (none)) else (none))
def spec_l04Leaves.j1 : Nat → ByteArray → List (List (List (S102))) → Int → Bool → Option ((List (S102)))
 | 0, _, _, _, _ => none
 | k + 1, x2, x7, x8, x27 => if x27 = true then (if 0 ≤ x8 then (if x8 < (x2.size : Int) then ((spec_l04Along.f k x7 (bt x2 x8)).bind fun t312 => (spec_l04Leaves.l0 k x2 t312 (wrap64 (x8 + 1)))) else (none)) else (none)) else (if 0 ≤ x8 then (if x8 < (x2.size : Int) then ((spec_l04Across.f k x7 (bt x2 x8)).bind fun t315 => (spec_l04Leaves.l0 k x2 t315 (wrap64 (x8 + 1)))) else (none)) else (none))
end
def spec_l04Leaves.f (k : Nat) (a0 : Int) (a1 : Int) (a2 : ByteArray) : Option ((List (S102))) := (spec_l04Start.f k a0 a1).bind fun t307 => (spec_l04Leaves.l0 k a2 t307 0)
theorem spec_l04Leaves.mono_l : ∀ k, (∀ y0 y1 y2, LeO (spec_l04Leaves.l0 k y0 y1 y2) (spec_l04Leaves.l0 (k + 1) y0 y1 y2)) ∧ (∀ y0 y1 y2 y3, LeO (spec_l04Leaves.j1 k y0 y1 y2 y3) (spec_l04Leaves.j1 (k + 1) y0 y1 y2 y3))
 | 0 => ⟨fun _ _ _ r h => by simp [spec_l04Leaves.l0] at h, fun _ _ _ _ r h => by simp [spec_l04Leaves.j1] at h⟩
 | k + 1 => by
  obtain ⟨ih0, ih1⟩ := spec_l04Leaves.mono_l k
  refine ⟨?_, ?_⟩
  ·intro y0 y1 y2
   unfold spec_l04Leaves.l0
   repeat' first
   | (with_reducible exact ih0 _ _ _)
   | (with_reducible exact ih1 _ _ _ _)
   | (with_reducible exact spec_l04Across.mono _ _ _)
   | (with_reducible exact spec_l04Along.mono _ _ _)
   | (with_reducible exact spec_l04Start.mono _ _ _)
   | (with_reducible exact LeO.refl _)
   | (with_reducible exact LeO.none _)
   | (with_reducible refine LeO.ite ?_ ?_)
   | (with_reducible refine LeO.bind ?_ (fun _ => ?_))
   | exact ih0 _ _ _
   | exact ih1 _ _ _ _
   | exact spec_l04Across.mono _ _ _
   | exact spec_l04Along.mono _ _ _
   | exact spec_l04Start.mono _ _ _
   | exact LeO.none _
   | refine LeO.ite ?_ ?_
   | refine LeO.bind ?_ (fun _ => ?_)
  ·intro y0 y1 y2 y3
   unfold spec_l04Leaves.j1
   repeat' first
   | (with_reducible exact ih0 _ _ _)
   | (with_reducible exact ih1 _ _ _ _)
   | (with_reducible exact spec_l04Across.mono _ _ _)
   | (with_reducible exact spec_l04Along.mono _ _ _)
   | (with_reducible exact spec_l04Start.mono _ _ _)
   | (with_reducible exact LeO.refl _)
   | (with_reducible exact LeO.none _)
   | (with_reducible refine LeO.ite ?_ ?_)
   | (with_reducible refine LeO.bind ?_ (fun _ => ?_))
   | exact ih0 _ _ _
   | exact ih1 _ _ _ _
   | exact spec_l04Across.mono _ _ _
   | exact spec_l04Along.mono _ _ _
   | exact spec_l04Start.mono _ _ _
   | exact LeO.none _
   | refine LeO.ite ?_ ?_
   | refine LeO.bind ?_ (fun _ => ?_)
theorem spec_l04Leaves.mono : ∀ a0 a1 a2 k, LeO (spec_l04Leaves.f k a0 a1 a2) (spec_l04Leaves.f (k + 1) a0 a1 a2) := by
 intro a0 a1 a2 k
 obtain ⟨ih0, ih1⟩ := spec_l04Leaves.mono_l k
 unfold spec_l04Leaves.f
 repeat' first
   | (with_reducible exact ih0 _ _ _)
   | (with_reducible exact ih1 _ _ _ _)
   | (with_reducible exact spec_l04Across.mono _ _ _)
   | (with_reducible exact spec_l04Along.mono _ _ _)
   | (with_reducible exact spec_l04Start.mono _ _ _)
   | (with_reducible exact LeO.refl _)
   | (with_reducible exact LeO.none _)
   | (with_reducible refine LeO.ite ?_ ?_)
   | (with_reducible refine LeO.bind ?_ (fun _ => ?_))
   | exact ih0 _ _ _
   | exact ih1 _ _ _ _
   | exact spec_l04Across.mono _ _ _
   | exact spec_l04Along.mono _ _ _
   | exact spec_l04Start.mono _ _ _
   | exact LeO.none _
   | refine LeO.ite ?_ ?_
   | refine LeO.bind ?_ (fun _ => ?_)
set_option maxHeartbeats 8000000 in
set_option maxRecDepth 100000 in
theorem spec_l04Leaves.calls (k : Nat) (a0 : Int) (a1 : Int) (a2 : ByteArray) (r : List (S102)) (w : World) (h : spec_l04Leaves.f k a0 a1 a2 = some r) :
  Calls Try.prog 88 #[.int .i64 a0, .int .i64 a1, .string a2] w fun e w' => ∃ v0_ : Value, e = .returned (v0_) ∧ Kd.R k102 102 w' w.heap.size (fun _ => True) v0_ r ∧ Below w.heap.size w w' := by
 have HB := a_ (Below.refl w.heap.size w)
 have H : ((spec_l04Start.f k a0 a1).bind fun t307 => (spec_l04Leaves.l0 k a2 t307 0)) = some r := h
 clear h
 replace H := Option.bind_eq_some_iff.mp H
 obtain ⟨t307, A40, H⟩ := H
 replace H : (spec_l04Leaves.l0 k a2 t307 0) = some r := H
 have A4 := Aside0.mk A40
 clear A40
 have H' := Aside0.mk H
 clear H
 go_enter Try.func88, Try.ntmps88
 go_wp2_with (first | ((with_reducible refine gate_callee (f := 106) rfl ?_); refine goesL_ (some 11) rfl rfl Try.func106 (by kernel_rfl) rfl #[.int .i64 a0, .int .i64 a1] rfl z34_ ?_; (with_reducible refine (spec_l04Start.calls k a0 a1 t307 _ A4.out).mono ?_); rintro e w5 ⟨v308, rfl, ho0, hb⟩; refine ⟨_, rfl, ?_⟩; have HO309 := a_ (Kd.R_lower ho0 (below_size z31_)); replace HB := a_ (below_step z31_ hb); (try clear hb); (try clear hb2); (try clear hk); (try clear hi); (try clear ho0)))
 go_loopg [7, 8] k (fun kq v7 v8 w' => ∃ (x7_1 : List (List (List (S102)))) (x8_1 : Int), v8 = .int .i64 x8_1 ∧ Aside0 (spec_l04Leaves.l0 kq a2 x7_1 x8_1 = some r) ∧ Aside0 (kq ≤ k) ∧ Aside0 (Kd.R (Kd.slice 99 (Kd.slice 102 k102)) 121 w' w.heap.size (fun _ => True) v7 x7_1) ∧ Aside0 (Below w.heap.size w w'))
 case atStart => exact ⟨(t307), (0), z81_, H', ⟨Nat.le_refl _⟩, ⟨by (with_reducible repeat (first | apply Kd.R_alloc | apply Kd.R_drewN | apply Kd.R_drew)); exact HO309.out⟩, ⟨z31_⟩⟩
 case round =>
  clear H'
  obtain ⟨x7_1, x8_1, rfl, HA, HK1, HO_7, HB⟩ := hrel
  cases gk with
  | zero => exact absurd HA.out (by simp [spec_l04Leaves.l0])
  | succ k1 =>
   have H := HA.out
   clear HA
   simp only [spec_l04Leaves.l0] at H
   by_cases c6 : x8_1 < (a2.size : Int)
   ·rw [if_pos c6] at H
    have c6b0 : decide (x8_1 < (a2.size : Int)) = true := decide_eq_true c6
    clear c6
    have HC7 := Aside0.mk H
    clear H
    go_upto_region 5 with (fail)
    go_cut [27] (fun v27 wc => ∃ (kq : Nat) (x27_6 : Bool), v27 = .bool x27_6 ∧ Aside0 (spec_l04Leaves.j1 kq a2 x7_1 x8_1 x27_6 = some r) ∧ Aside0 (kq ≤ k1) ∧ Aside0 (Kd.R (Kd.slice 99 (Kd.slice 102 k102)) 121 wc w.heap.size (fun _ => True) u7 x7_1) ∧ Aside0 (Below w.heap.size w wc))
    case first =>
     have H := HC7.out
     clear HC7
     by_cases c8 : 0 ≤ x8_1
     ·rw [if_pos c8] at H
      have c8b0 : decide (0 ≤ x8_1) = true := decide_eq_true c8
      clear c8
      (first | rw [c8b0] | (simp only [i64_w, i32_w]; rw [c8b0]) | skip)
      by_cases c10 : (bt a2 x8_1) = 76
      ·rw [if_pos c10] at H
       have c10b0 : ((bt a2 x8_1) == 76) = true := beq_iff_eq.mpr c10
       have c10b1 : ((bt a2 x8_1) != 76) = false := bne_eq_false_iff_eq.mpr c10
       clear c10
       have H' := Aside0.mk H
       clear H
       have p9 : 0 ≤ (x8_1 : Int) := of_decide_eq_true z80_
       have q9 : x8_1 < (a2.size : Int) := of_decide_eq_true z80_
       have hx9 := bt_at a2 x8_1
       replace p9 := eq_true p9
       replace q9 := eq_true q9
       go_wp2
       go_meet
       case rel => exact ⟨_, (true), z81_, H', ⟨z79_⟩, ⟨z66_⟩, ⟨z31_⟩⟩
      ·rw [if_neg c10] at H
       have c10b0 : ((bt a2 x8_1) == 76) = false := beq_eq_false_iff_ne.mpr c10
       have c10b1 : ((bt a2 x8_1) != 76) = true := bne_iff_ne.mpr c10
       have H' := Aside0.mk H
       clear H
       have p9 : 0 ≤ (x8_1 : Int) := of_decide_eq_true z80_
       have q9 : x8_1 < (a2.size : Int) := of_decide_eq_true z80_
       have hx9 := bt_at a2 x8_1
       replace p9 := eq_true p9
       replace q9 := eq_true q9
       have p11 : 0 ≤ (x8_1 : Int) := of_decide_eq_true z80_
       have q11 : x8_1 < (a2.size : Int) := of_decide_eq_true z80_
       have hx11 := bt_at a2 x8_1
       replace p11 := eq_true p11
       replace q11 := eq_true q11
       go_wp2
       go_meet
       case rel => exact ⟨_, (((bt a2 x8_1) == 82)), z81_, H', ⟨z79_⟩, ⟨z66_⟩, ⟨z31_⟩⟩
     ·rw [if_neg c8] at H
      exact absurd H (by simp)
    case rest =>
     clear HC7; try clear c6b0
     obtain ⟨kq, x27_6, rfl, HA, HJ6, HO_7, HB⟩ := hcut
     cases kq with
     | zero => exact absurd HA.out (by simp [spec_l04Leaves.j1])
     | succ kj6 =>
      have H := HA.out
      clear HA
      simp only [spec_l04Leaves.j1] at H
      by_cases c12 : x27_6 = true
      ·subst c12
       have H1 : (if 0 ≤ x8_1 then (if x8_1 < (a2.size : Int) then ((spec_l04Along.f kj6 x7_1 (bt a2 x8_1)).bind fun t312 => (spec_l04Leaves.l0 kj6 a2 t312 (wrap64 (x8_1 + 1)))) else (none)) else (none)) = some r := by rw [if_pos rfl] at H; exact H
       clear H
       have H := H1
       clear H1
       by_cases c13 : 0 ≤ x8_1
       ·rw [if_pos c13] at H
        have c13b0 : decide (0 ≤ x8_1) = true := decide_eq_true c13
        clear c13
        by_cases c14 : x8_1 < (a2.size : Int)
        ·rw [if_pos c14] at H
         have c14b0 : decide (x8_1 < (a2.size : Int)) = true := decide_eq_true c14
         clear c14
         replace H := Option.bind_eq_some_iff.mp H
         obtain ⟨t312, A160, H⟩ := H
         replace H : (spec_l04Leaves.l0 kj6 a2 t312 (wrap64 (x8_1 + 1))) = some r := H
         have A16 := Aside0.mk A160
         clear A160
         have H' := Aside0.mk H
         clear H
         have p15 : 0 ≤ (x8_1 : Int) := of_decide_eq_true z80_
         have q15 : x8_1 < (a2.size : Int) := of_decide_eq_true z80_
         have hx15 := bt_at a2 x8_1
         replace p15 := eq_true p15
         replace q15 := eq_true q15
         obtain ⟨Ao17, co17, eo17⟩ := Kd.R_slice HO_7.out
         subst eo17
         go_wp2_with (first | ((with_reducible refine gate_callee (f := 107) rfl ?_); refine goesL_ (some 32) rfl rfl Try.func107 (by kernel_rfl) rfl #[.slice Ao17 x7_1.length co17, .int .u8 (bt a2 x8_1)] rfl z34_ ?_; (with_reducible refine (spec_l04Along.calls kj6 _ _ x7_1 (bt a2 x8_1) t312 _ ?side1 ?side2 A16.out).mono ?_); (case side1 => exact z15_); (case side2 => exact (Kd.R_reads' HO_7.out).2.1); rintro e w18 ⟨v313, rfl, ho0, hb⟩; refine ⟨_, rfl, ?_⟩; have HO314 := a_ (Kd.R_lower (Kd.R_new' ho0 (Kd.R_lt (ra_ HO_7.out))) (below_size z31_)); replace HO_7 := a_ (Kd.R_elder' (ra_ HO_7.out) (Kd.R_base ho0) hb); replace HB := a_ (below_step z31_ hb); (try clear hb); (try clear hb2); (try clear hk); (try clear hi); (try clear ho0)))
         go_roundg kj6
         case measure => have := HK1.out; have := HJ6.out; omega
         case rel => exact ⟨(t312), (wrap64 (x8_1 + 1)), z81_, H', ⟨by have := HK1.out; have := HJ6.out; omega⟩, ⟨by (with_reducible repeat (first | apply Kd.R_alloc | apply Kd.R_drewN | apply Kd.R_drew)); exact Kd.R_mono HO314.out (fun _ hk => trivial)⟩, ⟨z31_⟩⟩
        ·rw [if_neg c14] at H
         exact absurd H (by simp)
       ·rw [if_neg c13] at H
        exact absurd H (by simp)
      ·replace c12 := Bool.eq_false_iff.mpr c12
       subst c12
       have H1 : (if 0 ≤ x8_1 then (if x8_1 < (a2.size : Int) then ((spec_l04Across.f kj6 x7_1 (bt a2 x8_1)).bind fun t315 => (spec_l04Leaves.l0 kj6 a2 t315 (wrap64 (x8_1 + 1)))) else (none)) else (none)) = some r := by rw [if_neg (show ¬ (false = true) by decide)] at H; exact H
       clear H
       have H := H1
       clear H1
       by_cases c19 : 0 ≤ x8_1
       ·rw [if_pos c19] at H
        have c19b0 : decide (0 ≤ x8_1) = true := decide_eq_true c19
        clear c19
        by_cases c20 : x8_1 < (a2.size : Int)
        ·rw [if_pos c20] at H
         have c20b0 : decide (x8_1 < (a2.size : Int)) = true := decide_eq_true c20
         clear c20
         replace H := Option.bind_eq_some_iff.mp H
         obtain ⟨t315, A220, H⟩ := H
         replace H : (spec_l04Leaves.l0 kj6 a2 t315 (wrap64 (x8_1 + 1))) = some r := H
         have A22 := Aside0.mk A220
         clear A220
         have H' := Aside0.mk H
         clear H
         have p21 : 0 ≤ (x8_1 : Int) := of_decide_eq_true z80_
         have q21 : x8_1 < (a2.size : Int) := of_decide_eq_true z80_
         have hx21 := bt_at a2 x8_1
         replace p21 := eq_true p21
         replace q21 := eq_true q21
         obtain ⟨Ao23, co23, eo23⟩ := Kd.R_slice HO_7.out
         subst eo23
         go_wp2_with (first | ((with_reducible refine gate_callee (f := 108) rfl ?_); refine goesL_ (some 37) rfl rfl Try.func108 (by kernel_rfl) rfl #[.slice Ao23 x7_1.length co23, .int .u8 (bt a2 x8_1)] rfl z34_ ?_; (with_reducible refine (spec_l04Across.calls kj6 _ _ x7_1 (bt a2 x8_1) t315 _ ?side1 ?side2 A22.out).mono ?_); (case side1 => exact z15_); (case side2 => exact (Kd.R_reads' HO_7.out).2.1); rintro e w24 ⟨v316, rfl, ho0, hb⟩; refine ⟨_, rfl, ?_⟩; have HO317 := a_ (Kd.R_lower (Kd.R_new' ho0 (Kd.R_lt (ra_ HO_7.out))) (below_size z31_)); replace HO_7 := a_ (Kd.R_elder' (ra_ HO_7.out) (Kd.R_base ho0) hb); replace HB := a_ (below_step z31_ hb); (try clear hb); (try clear hb2); (try clear hk); (try clear hi); (try clear ho0)))
         go_roundg kj6
         case measure => have := HK1.out; have := HJ6.out; omega
         case rel => exact ⟨(t315), (wrap64 (x8_1 + 1)), z81_, H', ⟨by have := HK1.out; have := HJ6.out; omega⟩, ⟨by (with_reducible repeat (first | apply Kd.R_alloc | apply Kd.R_drewN | apply Kd.R_drew)); exact Kd.R_mono HO317.out (fun _ hk => trivial)⟩, ⟨z31_⟩⟩
        ·rw [if_neg c20] at H
         exact absurd H (by simp)
       ·rw [if_neg c19] at H
        exact absurd H (by simp)
   ·rw [if_neg c6] at H
    have c6b0 : decide (x8_1 < (a2.size : Int)) = false := decide_eq_false c6
    clear c6
    by_cases c25 : 0 < (x7_1.length : Int)
    ·rw [if_pos c25] at H
     have c25b0 : decide (0 < (x7_1.length : Int)) = true := decide_eq_true c25
     have c25b1 : decide (0 < x7_1.length) = true := decide_eq_true (by omega)
     clear c25
     by_cases c26 : 0 < ((rd_L5 x7_1 0).length : Int)
     ·rw [if_pos c26] at H
      have c26b0 : decide (0 < ((rd_L5 x7_1 0).length : Int)) = true := decide_eq_true c26
      have c26b1 : decide (0 < (rd_L5 x7_1 0).length) = true := decide_eq_true (by omega)
      clear c26
      obtain rfl := Option.some.inj H
      obtain ⟨Ao27, co27, eo27⟩ := Kd.R_slice HO_7.out
      subst eo27
      have p310 : 0 ≤ (0 : Int) := (by omega)
      have q310 : 0 < (x7_1.length : Int) := of_decide_eq_true z80_
      obtain ⟨ad310, A310_0, c310_0, e310, hx310_0, hl310_0, hi310_0⟩ := at_L5 (Kd.R_reads' HO_7.out).2.2 0 p310 q310
      cases e310
      obtain ⟨ce310, hce310, hMe310, hcc310⟩ := Kd.R_get HO_7.out [] 0 p310 (by first | exact q310 | exact of_decide_eq_true z80_ | (have e_ := (Kd.R_reads' HO_7.out).1; omega))
      obtain ⟨ve310_0, rfl, ge310_0⟩ := hMe310
      have hv310_0 := hcc310 0 _ rfl
      rw [Nat.add_zero, show ((Kd.slice 99 (Kd.slice 102 k102))).sz = 1 from rfl, Nat.mul_one] at hv310_0
      replace hv310_0 := Option.some.inj (hv310_0.symm.trans hx310_0)
      rw [hv310_0] at ge310_0
      have HL310_0 := a_ (show Kd.R (Kd.slice 102 k102) 99 _ _ _ _ (rd_L5 x7_1 0) from ge310_0)
      clear hv310_0 ge310_0
      clear hcc310 hce310
      have qi310 : (0 < x7_1.length) = True := eq_true (by omega)
      (try rw [show ((0 : Int)).toNat = 0 from rfl] at hx310_0)
      (try rw [Addr.add_zero'] at hx310_0)
      have HR310_0 := Aside0.mk hi310_0
      have HC310_0 := Aside0.mk hl310_0
      clear hi310_0 hl310_0
      replace p310 := eq_true p310
      replace q310 := eq_true q310
      have p311 : 0 ≤ (0 : Int) := (by omega)
      have q311 : 0 < ((rd_L5 x7_1 0).length : Int) := of_decide_eq_true z80_
      obtain ⟨ad311, A311_0, c311_0, e311, hx311_0, hl311_0, hi311_0⟩ := at_L4 (by repeat (first | (with_reducible exact HR310_0.out) | (with_reducible refine Kd.C_alloc ?_ _) | (with_reducible refine Kd.C_drewN ?_ _) | (with_reducible refine Kd.C_drew ?_) | exact HR310_0.out)) 0 p311 q311
      cases e311
      obtain ⟨ce311, hce311, hMe311, hcc311⟩ := Kd.R_get HL310_0.out [] 0 p311 (by first | exact q311 | exact of_decide_eq_true z80_ | (have e_ := (Kd.R_reads' HL310_0.out).1; omega))
      obtain ⟨ve311_0, rfl, ge311_0⟩ := hMe311
      have hv311_0 := hcc311 0 _ rfl
      rw [Nat.add_zero, show ((Kd.slice 102 k102)).sz = 1 from rfl, Nat.mul_one] at hv311_0
      replace hv311_0 := Option.some.inj (hv311_0.symm.trans hx311_0)
      rw [hv311_0] at ge311_0
      have HL311_0 := a_ (show Kd.R k102 102 _ _ _ _ (rd_L4 (rd_L5 x7_1 0) 0) from ge311_0)
      clear hv311_0 ge311_0
      clear hcc311 hce311
      have qi311 : (0 < (rd_L5 x7_1 0).length) = True := eq_true (by omega)
      (try rw [show ((0 : Int)).toNat = 0 from rfl] at hx311_0)
      (try rw [Addr.add_zero'] at hx311_0)
      have HR311_0 := Aside0.mk hi311_0
      have HC311_0 := Aside0.mk hl311_0
      clear hi311_0 hl311_0
      replace p311 := eq_true p311
      replace q311 := eq_true q311
      go_wp2
      go_ret
      exact ⟨_, z32_, by (with_reducible repeat (first | apply Kd.R_alloc | apply Kd.R_drewN | apply Kd.R_drew)); exact Kd.R_mono HL311_0.out (fun _ hk => trivial), z31_⟩
     ·rw [if_neg c26] at H
      exact absurd H (by simp)
    ·rw [if_neg c25] at H
     exact absurd H (by simp)

/-! ### spec_l04Down: function 89 -/
def spec_l04Down.f (a0_0 : Int) (a0_1 : Int) (a0_2 : Bool) (a0_3 : Bool) : Option (Bool) := some (a0_2 != a0_3)
set_option maxHeartbeats 8000000 in
set_option maxRecDepth 100000 in
theorem spec_l04Down.calls (a0_0 : Int) (a0_1 : Int) (a0_2 : Bool) (a0_3 : Bool) (r : Bool) (w : World) (h : spec_l04Down.f a0_0 a0_1 a0_2 a0_3 = some r) :
  Calls Try.prog 89 #[.agg #[.int .i64 a0_0, .int .i64 a0_1, .bool a0_2, .bool a0_3]] w fun e w' => e = .returned (.bool r) ∧ Below w.heap.size w w' := by
 have hu102 := Try.underlying102
 have HB := a_ (Below.refl w.heap.size w)
 have H : (some (a0_2 != a0_3)) = some r := h
 clear h
 obtain rfl := Option.some.inj H
 go_enter Try.func89, Try.ntmps89
 go_wp2_with (first | ((with_reducible refine gate_dst (N := 1) rfl ?_); refine box_event ?hg (N := 1) ?hd (cs := #[.int .i64 a0_0, .int .i64 a0_1, .bool a0_2, .bool a0_3]) (t := 102) ?hr ?_; (case hd => rfl); (case hg => rfl); (case hr => first | (go_simp; done) | (go_simp; rfl)); intro gb318 hg w2 hbox hb; have BK318 := a_ (hbox); have GW318 := a_ ((z30_ : w.heap.size ≤ gb318)); have GE318 := a_ ((z30_ : w.heap.size ≤ gb318)); replace HB := a_ (below_step z31_ hb); clear hb hbox hg; obtain ⟨hcz3_0, hcz3_1, hcz3_2, hcz3_3, hfz3_0, hfz3_1, hfz3_2, hfz3_3⟩ := cz4_ (w := w2) BK318.out))
 go_ret
 exact ⟨z32_, by repeat (first | (with_reducible first | exact HB.out | apply below_alloc | apply pw_below_drewN | apply below_drew1 | refine below_set ?_ GE318.out) | exact HB.out)⟩

/-! ### spec_l05Read: function 78 -/
mutual
def spec_l05Read.l0 : Nat → List (S102) → List Int → Int → Int → Int → List Int → List Int → List Int → Option (List Int)
 | 0, _, _, _, _, _, _, _, _ => none
 | k + 1, x5, x6, x7, x320000, x320001, x320002, x320003, x320004 => if x7 < (x5.length : Int) then (if 0 ≤ x7 then (if 0 ≤ (wrap64 ((wrap64 (((rd_T102 x5 x7).f1) * x320000)) + ((rd_T102 x5 x7).f0))) then (if (wrap64 ((wrap64 (((rd_T102 x5 x7).f1) * x320000)) + ((rd_T102 x5 x7).f0))) < (x320002.length : Int) then (if 0 ≤ (wrap64 ((wrap64 ((wrap64 ((wrap64 (((rd_T102 x5 x7).f1) * x320000)) + x320000)) - 1)) - ((rd_T102 x5 x7).f0))) then (if (wrap64 ((wrap64 ((wrap64 ((wrap64 (((rd_T102 x5 x7).f1) * x320000)) + x320000)) - 1)) - ((rd_T102 x5 x7).f0))) < (x320003.length : Int) then ((spec_l04Down.f ((rd_T102 x5 x7).f0) ((rd_T102 x5 x7).f1) ((rd_T102 x5 x7).f2) ((rd_T102 x5 x7).f3)).bind fun t330 => (if t330 = true then (spec_l05Read.j1 k x5 x6 x7 (wrap64 ((wrap64 (((rd_T102 x5 x7).f1) * x320000)) + ((rd_T102 x5 x7).f0))) (rd x320003 (wrap64 ((wrap64 ((wrap64 ((wrap64 (((rd_T102 x5 x7).f1) * x320000)) + x320000)) - 1)) - ((rd_T102 x5 x7).f0)))) (rd x320002 (wrap64 ((wrap64 (((rd_T102 x5 x7).f1) * x320000)) + ((rd_T102 x5 x7).f0)))) x320000 x320001 x320002 x320003 x320004 ((rd_T102 x5 x7).f0) ((rd_T102 x5 x7).f1) ((rd_T102 x5 x7).f2) ((rd_T102 x5 x7).f3)) else (spec_l05Read.j1 k x5 x6 x7 (wrap64 ((wrap64 (((rd_T102 x5 x7).f1) * x320000)) + ((rd_T102 x5 x7).f0))) (rd x320002 (wrap64 ((wrap64 (((rd_T102 x5 x7).f1) * x320000)) + ((rd_T102 x5 x7).f0)))) (rd x320003 (wrap64 ((wrap64 ((wrap64 ((wrap64 (((rd_T102 x5 x7).f1) * x320000)) + x320000)) - 1)) - ((rd_T102 x5 x7).f0)))) x320000 x320001 x320002 x320003 x320004 ((rd_T102 x5 x7).f0) ((rd_T102 x5 x7).f1) ((rd_T102 x5 x7).f2) ((rd_T102 x5 x7).f3)))) else (none)) else (none)) else (none)) else (none)) else (none)) else (some x6)
def spec_l05Read.j1 : Nat → List (S102) → List Int → Int → Int → Int → Int → Int → Int → List Int → List Int → List Int → Int → Int → Bool → Bool → Option (List Int)
 | 0, _, _, _, _, _, _, _, _, _, _, _, _, _, _, _ => none
 | k + 1, x5, x6, x7, x9, x10, x11, x320000, x320001, x320002, x320003, x320004, x328000, x328001, x328002, x328003 => if 0 ≤ x9 then (if x9 < (x320004.length : Int) then (if (x328003 != ((rd x320004 x9) == 1)) = true then ((some (([wrap64 (-x10), wrap64 (-x11)] : List Int) : List Int)).bind fun y332 => (if x6.length + y332.length < 17592186044416 then (spec_l05Read.l0 k x5 (x6 ++ y332) (wrap64 (x7 + 1)) x320000 x320001 x320002 x320003 x320004) else (none))) else ((some (([x10, x11] : List Int) : List Int)).bind fun y338 => (if x6.length + y338.length < 17592186044416 then (spec_l05Read.l0 k x5 (x6 ++ y338) (wrap64 (x7 + 1)) x320000 x320001 x320002 x320003 x320004) else (none)))) else (none)) else (none)
end
def spec_l05Read.f (k : Nat) (a0_0 : Int) (a0_1 : Int) (l0_2 : List Int) (l0_3 : List Int) (l0_4 : List Int) (a1 : ByteArray) : Option (List Int) := (spec_l04Leaves.f k a0_0 a0_1 a1).bind fun t320 => (spec_l05Read.l0 k t320 (([] : List Int)) 0 a0_0 a0_1 l0_2 l0_3 l0_4)
theorem spec_l05Read.mono_l : ∀ k, (∀ y0 y1 y2 y3 y4 y5 y6 y7, LeO (spec_l05Read.l0 k y0 y1 y2 y3 y4 y5 y6 y7) (spec_l05Read.l0 (k + 1) y0 y1 y2 y3 y4 y5 y6 y7)) ∧ (∀ y0 y1 y2 y3 y4 y5 y6 y7 y8 y9 y10 y11 y12 y13 y14, LeO (spec_l05Read.j1 k y0 y1 y2 y3 y4 y5 y6 y7 y8 y9 y10 y11 y12 y13 y14) (spec_l05Read.j1 (k + 1) y0 y1 y2 y3 y4 y5 y6 y7 y8 y9 y10 y11 y12 y13 y14))
 | 0 => ⟨fun _ _ _ _ _ _ _ _ r h => by simp [spec_l05Read.l0] at h, fun _ _ _ _ _ _ _ _ _ _ _ _ _ _ _ r h => by simp [spec_l05Read.j1] at h⟩
 | k + 1 => by
  obtain ⟨ih0, ih1⟩ := spec_l05Read.mono_l k
  refine ⟨?_, ?_⟩
  ·intro y0 y1 y2 y3 y4 y5 y6 y7
   unfold spec_l05Read.l0
   repeat' first
   | (with_reducible exact ih0 _ _ _ _ _ _ _ _)
   | (with_reducible exact ih1 _ _ _ _ _ _ _ _ _ _ _ _ _ _ _)
   | (with_reducible exact spec_l04Leaves.mono _ _ _ _)
   | (with_reducible exact LeO.refl _)
   | (with_reducible exact LeO.none _)
   | (with_reducible refine LeO.ite ?_ ?_)
   | (with_reducible refine LeO.bind ?_ (fun _ => ?_))
   | exact ih0 _ _ _ _ _ _ _ _
   | exact ih1 _ _ _ _ _ _ _ _ _ _ _ _ _ _ _
   | exact spec_l04Leaves.mono _ _ _ _
   | exact LeO.none _
   | refine LeO.ite ?_ ?_
   | refine LeO.bind ?_ (fun _ => ?_)
  ·intro y0 y1 y2 y3 y4 y5 y6 y7 y8 y9 y10 y11 y12 y13 y14
   unfold spec_l05Read.j1
   repeat' first
   | (with_reducible exact ih0 _ _ _ _ _ _ _ _)
   | (with_reducible exact ih1 _ _ _ _ _ _ _ _ _ _ _ _ _ _ _)
   | (with_reducible exact spec_l04Leaves.mono _ _ _ _)
   | (with_reducible exact LeO.refl _)
   | (with_reducible exact LeO.none _)
   | (with_reducible refine LeO.ite ?_ ?_)
   | (with_reducible refine LeO.bind ?_ (fun _ => ?_))
   | exact ih0 _ _ _ _ _ _ _ _
   | exact ih1 _ _ _ _ _ _ _ _ _ _ _ _ _ _ _
   | exact spec_l04Leaves.mono _ _ _ _
   | exact LeO.none _
   | refine LeO.ite ?_ ?_
   | refine LeO.bind ?_ (fun _ => ?_)
theorem spec_l05Read.mono : ∀ a0 a1 a2 a3 a4 a5 k, LeO (spec_l05Read.f k a0 a1 a2 a3 a4 a5) (spec_l05Read.f (k + 1) a0 a1 a2 a3 a4 a5) := by
 intro a0 a1 a2 a3 a4 a5 k
 obtain ⟨ih0, ih1⟩ := spec_l05Read.mono_l k
 unfold spec_l05Read.f
 repeat' first
   | (with_reducible exact ih0 _ _ _ _ _ _ _ _)
   | (with_reducible exact ih1 _ _ _ _ _ _ _ _ _ _ _ _ _ _ _)
   | (with_reducible exact spec_l04Leaves.mono _ _ _ _)
   | (with_reducible exact LeO.refl _)
   | (with_reducible exact LeO.none _)
   | (with_reducible refine LeO.ite ?_ ?_)
   | (with_reducible refine LeO.bind ?_ (fun _ => ?_))
   | exact ih0 _ _ _ _ _ _ _ _
   | exact ih1 _ _ _ _ _ _ _ _ _ _ _ _ _ _ _
   | exact spec_l04Leaves.mono _ _ _ _
   | exact LeO.none _
   | refine LeO.ite ?_ ?_
   | refine LeO.bind ?_ (fun _ => ?_)
set_option maxHeartbeats 8000000 in
set_option maxRecDepth 100000 in
theorem spec_l05Read.calls (k : Nat) (a0_0 : Int) (a0_1 : Int) (A0_2 : Option Addr) (c0_2 : Nat) (l0_2 : List Int) (A0_3 : Option Addr) (c0_3 : Nat) (l0_3 : List Int) (A0_4 : Option Addr) (c0_4 : Nat) (l0_4 : List Int) (a1 : ByteArray) (r : List Int) (w : World) (hr0_2 : Kd.C (Kd.int .i64) w A0_2 l0_2.length l0_2) (hc0_2 : l0_2.length ≤ c0_2) (hr0_3 : Kd.C (Kd.int .i64) w A0_3 l0_3.length l0_3) (hc0_3 : l0_3.length ≤ c0_3) (hr0_4 : Kd.C (Kd.int .i64) w A0_4 l0_4.length l0_4) (hc0_4 : l0_4.length ≤ c0_4) (h : spec_l05Read.f k a0_0 a0_1 l0_2 l0_3 l0_4 a1 = some r) :
  Calls Try.prog 78 #[.agg #[.int .i64 a0_0, .int .i64 a0_1, .slice A0_2 l0_2.length c0_2, .slice A0_3 l0_3.length c0_3, .slice A0_4 l0_4.length c0_4], .string a1] w fun e w' => ∃ v0_ : Value, e = .returned (v0_) ∧ Kd.R (Kd.int .i64) 2 w' w.heap.size (fun _ => True) v0_ r ∧ Below w.heap.size w w' := by
 have hu27 := Try.underlying27
 have hu102 := Try.underlying102
 have HR0_2 := Aside0.mk hr0_2
 have HC0_2 := Aside0.mk hc0_2
 clear hr0_2 hc0_2
 have HR0_3 := Aside0.mk hr0_3
 have HC0_3 := Aside0.mk hc0_3
 clear hr0_3 hc0_3
 have HR0_4 := Aside0.mk hr0_4
 have HC0_4 := Aside0.mk hc0_4
 clear hr0_4 hc0_4
 have HB := a_ (Below.refl w.heap.size w)
 have H : ((spec_l04Leaves.f k a0_0 a0_1 a1).bind fun t320 => (spec_l05Read.l0 k t320 (([] : List Int)) 0 a0_0 a0_1 l0_2 l0_3 l0_4)) = some r := h
 clear h
 replace H := Option.bind_eq_some_iff.mp H
 obtain ⟨t320, A30, H⟩ := H
 replace H : (spec_l05Read.l0 k t320 (([] : List Int)) 0 a0_0 a0_1 l0_2 l0_3 l0_4) = some r := H
 have A3 := Aside0.mk A30
 clear A30
 obtain ⟨y323, hy323⟩ : ∃ y_ : List Int, y_ = (([] : List Int)) := ⟨_, rfl⟩
 replace H : (spec_l05Read.l0 k t320 y323 0 a0_0 a0_1 l0_2 l0_3 l0_4) = some r := rh_ hy323 H
 have Ny323 := Aside0.mk hy323
 clear hy323
 have H' := Aside0.mk H
 clear H
 go_enter Try.func78, Try.ntmps78
 go_wp2_with (first | ((with_reducible refine gate_dst (N := 2) rfl ?_); refine box_event ?hg (N := 2) ?hd (cs := #[.int .i64 a0_0, .int .i64 a0_1, .slice A0_2 l0_2.length c0_2, .slice A0_3 l0_3.length c0_3, .slice A0_4 l0_4.length c0_4]) (t := 27) ?hr ?_; (case hd => rfl); (case hg => rfl); (case hr => first | (go_simp; done) | (go_simp; rfl)); intro gb319 hg w4 hbox hb; have BK319 := a_ (hbox); have GW319 := a_ ((z30_ : w.heap.size ≤ gb319)); have GE319 := a_ ((z30_ : w.heap.size ≤ gb319)); replace HB := a_ (below_step z31_ hb); clear hb hbox hg; obtain ⟨hcz5_0, hcz5_1, hcz5_2, hcz5_3, hcz5_4, hfz5_0, hfz5_1, hfz5_2, hfz5_3, hfz5_4⟩ := cz5_ (w := w4) BK319.out) | (go_at_call 88; (with_reducible refine (spec_l04Leaves.calls k a0_0 a0_1 a1 t320 _ A3.out).mono ?_); rintro e w6 ⟨v321, rfl, ho0, hb⟩; have HO322 := a_ (Kd.R_lower ho0 (below_size z23_)); replace BK319 := a_ (blk_below (g := gb319) (rb_ BK319.out) hb); replace HB := a_ (below_step z23_ hb); (try clear hb); (try clear hb2); (try clear hk); (try clear hi); (try clear ho0)) | ((with_reducible refine gate_dst (N := 18) rfl ?_); refine Kd.R_lit (Kd.int .i64) _ 2 ?hg (N := 18) ?hd (xs := ([] : List Int)) (inner := []) (ok := fun _ => True) (okp := fun _ => True) ?hr ?hp (fun _ hk => hk) trivial (Below.refl _ _) (Nat.le_refl _) (by simp) ?_; (case hd => rfl); (case hg => rfl); (case hr => first | (go_simp; done) | (go_simp; rfl)); (case hp => exact (Reps.none _ _)); intro v324 w7 ho8 hb hg_ hnew_; clear hg_ hnew_; (first | rw [← Ny323.out] at ho8 | (simp only [Int.reduceToNat] at ho8; rw [← Ny323.out] at ho8)); replace HO322 := a_ (Kd.R_below (ra_ HO322.out) hb); have HO325 := a_ (Kd.R_lower ho8 (below_size z23_)); replace BK319 := a_ (blk_below (g := gb319) (rb_ BK319.out) hb); replace HB := a_ (below_step z23_ hb); clear hb ho8))
 repeat (go_quiet (first | ((with_reducible refine gate_dst (N := 2) rfl ?_); refine box_event ?hg (N := 2) ?hd (cs := #[.int .i64 a0_0, .int .i64 a0_1, .slice A0_2 l0_2.length c0_2, .slice A0_3 l0_3.length c0_3, .slice A0_4 l0_4.length c0_4]) (t := 27) ?hr ?_; (case hd => rfl); (case hg => rfl); (case hr => first | (go_simp; done) | (go_simp; rfl)); intro gb319 hg w4 hbox hb; have BK319 := a_ (hbox); have GW319 := a_ ((z30_ : w.heap.size ≤ gb319)); have GE319 := a_ ((z30_ : w.heap.size ≤ gb319)); replace HB := a_ (below_step z31_ hb); clear hb hbox hg; obtain ⟨hcz5_0, hcz5_1, hcz5_2, hcz5_3, hcz5_4, hfz5_0, hfz5_1, hfz5_2, hfz5_3, hfz5_4⟩ := cz5_ (w := w4) BK319.out) | (go_at_call 88; (with_reducible refine (spec_l04Leaves.calls k a0_0 a0_1 a1 t320 _ A3.out).mono ?_); rintro e w6 ⟨v321, rfl, ho0, hb⟩; have HO322 := a_ (Kd.R_lower ho0 (below_size z23_)); replace BK319 := a_ (blk_below (g := gb319) (rb_ BK319.out) hb); replace HB := a_ (below_step z23_ hb); (try clear hb); (try clear hb2); (try clear hk); (try clear hi); (try clear ho0)) | ((with_reducible refine gate_dst (N := 18) rfl ?_); refine Kd.R_lit (Kd.int .i64) _ 2 ?hg (N := 18) ?hd (xs := ([] : List Int)) (inner := []) (ok := fun _ => True) (okp := fun _ => True) ?hr ?hp (fun _ hk => hk) trivial (Below.refl _ _) (Nat.le_refl _) (by simp) ?_; (case hd => rfl); (case hg => rfl); (case hr => first | (go_simp; done) | (go_simp; rfl)); (case hp => exact (Reps.none _ _)); intro v324 w7 ho8 hb hg_ hnew_; clear hg_ hnew_; (first | rw [← Ny323.out] at ho8 | (simp only [Int.reduceToNat] at ho8; rw [← Ny323.out] at ho8)); replace HO322 := a_ (Kd.R_below (ra_ HO322.out) hb); have HO325 := a_ (Kd.R_lower ho8 (below_size z23_)); replace BK319 := a_ (blk_below (g := gb319) (rb_ BK319.out) hb); replace HB := a_ (below_step z23_ hb); clear hb ho8)); try go_wp2_with (first | ((with_reducible refine gate_dst (N := 2) rfl ?_); refine box_event ?hg (N := 2) ?hd (cs := #[.int .i64 a0_0, .int .i64 a0_1, .slice A0_2 l0_2.length c0_2, .slice A0_3 l0_3.length c0_3, .slice A0_4 l0_4.length c0_4]) (t := 27) ?hr ?_; (case hd => rfl); (case hg => rfl); (case hr => first | (go_simp; done) | (go_simp; rfl)); intro gb319 hg w4 hbox hb; have BK319 := a_ (hbox); have GW319 := a_ ((z30_ : w.heap.size ≤ gb319)); have GE319 := a_ ((z30_ : w.heap.size ≤ gb319)); replace HB := a_ (below_step z31_ hb); clear hb hbox hg; obtain ⟨hcz5_0, hcz5_1, hcz5_2, hcz5_3, hcz5_4, hfz5_0, hfz5_1, hfz5_2, hfz5_3, hfz5_4⟩ := cz5_ (w := w4) BK319.out) | (go_at_call 88; (with_reducible refine (spec_l04Leaves.calls k a0_0 a0_1 a1 t320 _ A3.out).mono ?_); rintro e w6 ⟨v321, rfl, ho0, hb⟩; have HO322 := a_ (Kd.R_lower ho0 (below_size z23_)); replace BK319 := a_ (blk_below (g := gb319) (rb_ BK319.out) hb); replace HB := a_ (below_step z23_ hb); (try clear hb); (try clear hb2); (try clear hk); (try clear hi); (try clear ho0)) | ((with_reducible refine gate_dst (N := 18) rfl ?_); refine Kd.R_lit (Kd.int .i64) _ 2 ?hg (N := 18) ?hd (xs := ([] : List Int)) (inner := []) (ok := fun _ => True) (okp := fun _ => True) ?hr ?hp (fun _ hk => hk) trivial (Below.refl _ _) (Nat.le_refl _) (by simp) ?_; (case hd => rfl); (case hg => rfl); (case hr => first | (go_simp; done) | (go_simp; rfl)); (case hp => exact (Reps.none _ _)); intro v324 w7 ho8 hb hg_ hnew_; clear hg_ hnew_; (first | rw [← Ny323.out] at ho8 | (simp only [Int.reduceToNat] at ho8; rw [← Ny323.out] at ho8)); replace HO322 := a_ (Kd.R_below (ra_ HO322.out) hb); have HO325 := a_ (Kd.R_lower ho8 (below_size z23_)); replace BK319 := a_ (blk_below (g := gb319) (rb_ BK319.out) hb); replace HB := a_ (below_step z23_ hb); clear hb ho8)))
 go_loopg [6, 7] k (fun kq v6 v7 w' => ∃ (x6_1 : List Int) (x7_1 : Int), v7 = .int .i64 x7_1 ∧ Aside0 (spec_l05Read.l0 kq t320 x6_1 x7_1 a0_0 a0_1 l0_2 l0_3 l0_4 = some r) ∧ Aside0 (kq ≤ k) ∧ Aside0 (Kd.R k102 102 w' w.heap.size (fun _ => True) v321 t320) ∧ Aside0 (Kd.R (Kd.int .i64) 2 w' w.heap.size (fun _ => True) v6 x6_1) ∧ Aside0 (w'.heap[gb319]? = some (.cells #[.int .i64 a0_0, .int .i64 a0_1, (.slice A0_2 l0_2.length c0_2), (.slice A0_3 l0_3.length c0_3), (.slice A0_4 l0_4.length c0_4)] 27 (0, 0))) ∧ Aside0 (Below w.heap.size w w'))
 case atStart => exact ⟨(y323), (0), z81_, H', ⟨Nat.le_refl _⟩, ⟨by (with_reducible repeat (first | apply Kd.R_alloc | apply Kd.R_drewN | apply Kd.R_drew)); exact HO322.out⟩, ⟨by (with_reducible repeat (first | apply Kd.R_alloc | apply Kd.R_drewN | apply Kd.R_drew)); exact HO325.out⟩, ⟨z55_⟩, ⟨z23_⟩⟩
 case round =>
  clear H'
  try clear hcz5_0 hcz5_1 hcz5_2 hcz5_3 hcz5_4; try clear hfz5_0 hfz5_1 hfz5_2 hfz5_3 hfz5_4
  obtain ⟨x6_1, x7_1, rfl, HA, HK1, HO_5, HO_6, BK319, HB⟩ := hrel
  cases gk with
  | zero => exact absurd HA.out (by simp [spec_l05Read.l0])
  | succ k1 =>
   have H := HA.out
   clear HA
   simp only [spec_l05Read.l0] at H
   by_cases c9 : x7_1 < (t320.length : Int)
   ·rw [if_pos c9] at H
    have c9b0 : decide (x7_1 < (t320.length : Int)) = true := decide_eq_true c9
    clear c9
    by_cases c10 : 0 ≤ x7_1
    ·rw [if_pos c10] at H
     have c10b0 : decide (0 ≤ x7_1) = true := decide_eq_true c10
     clear c10
     obtain ⟨ji11, hji11⟩ : ∃ j_ : Int, (wrap64 ((wrap64 (((rd_T102 t320 x7_1).f1) * a0_0)) + ((rd_T102 t320 x7_1).f0))) = j_ := ⟨_, rfl⟩
     replace H : (if 0 ≤ (ji11) then (if (ji11) < (l0_2.length : Int) then (if 0 ≤ (wrap64 ((wrap64 ((wrap64 ((wrap64 (((rd_T102 t320 x7_1).f1) * a0_0)) + a0_0)) - 1)) - ((rd_T102 t320 x7_1).f0))) then (if (wrap64 ((wrap64 ((wrap64 ((wrap64 (((rd_T102 t320 x7_1).f1) * a0_0)) + a0_0)) - 1)) - ((rd_T102 t320 x7_1).f0))) < (l0_3.length : Int) then ((spec_l04Down.f ((rd_T102 t320 x7_1).f0) ((rd_T102 t320 x7_1).f1) ((rd_T102 t320 x7_1).f2) ((rd_T102 t320 x7_1).f3)).bind fun t330 => (if t330 = true then (spec_l05Read.j1 k1 t320 x6_1 x7_1 ji11 (rd l0_3 (wrap64 ((wrap64 ((wrap64 ((wrap64 (((rd_T102 t320 x7_1).f1) * a0_0)) + a0_0)) - 1)) - ((rd_T102 t320 x7_1).f0)))) (rd l0_2 (ji11)) a0_0 a0_1 l0_2 l0_3 l0_4 ((rd_T102 t320 x7_1).f0) ((rd_T102 t320 x7_1).f1) ((rd_T102 t320 x7_1).f2) ((rd_T102 t320 x7_1).f3)) else (spec_l05Read.j1 k1 t320 x6_1 x7_1 ji11 (rd l0_2 (ji11)) (rd l0_3 (wrap64 ((wrap64 ((wrap64 ((wrap64 (((rd_T102 t320 x7_1).f1) * a0_0)) + a0_0)) - 1)) - ((rd_T102 t320 x7_1).f0)))) a0_0 a0_1 l0_2 l0_3 l0_4 ((rd_T102 t320 x7_1).f0) ((rd_T102 t320 x7_1).f1) ((rd_T102 t320 x7_1).f2) ((rd_T102 t320 x7_1).f3)))) else (none)) else (none)) else (none)) else (none)) = some r := by first | (rw [hji11] at H; exact H) | (simp only [hji11] at H ⊢; exact H)
     have hji11w : (IntKind.i64.wrap ((wrap64 (((rd_T102 t320 x7_1).f1) * a0_0)) + ((rd_T102 t320 x7_1).f0))) = ji11 := (i64_w _).trans hji11
     by_cases c12 : 0 ≤ (ji11)
     ·rw [if_pos c12] at H
      have c12b0 : decide (0 ≤ (ji11)) = true := decide_eq_true c12
      clear c12
      by_cases c13 : (ji11) < (l0_2.length : Int)
      ·rw [if_pos c13] at H
       have c13b0 : decide ((ji11) < (l0_2.length : Int)) = true := decide_eq_true c13
       clear c13
       obtain ⟨ji14, hji14⟩ : ∃ j_ : Int, (wrap64 ((wrap64 ((wrap64 ((wrap64 (((rd_T102 t320 x7_1).f1) * a0_0)) + a0_0)) - 1)) - ((rd_T102 t320 x7_1).f0))) = j_ := ⟨_, rfl⟩
       replace H : (if 0 ≤ (ji14) then (if (ji14) < (l0_3.length : Int) then ((spec_l04Down.f ((rd_T102 t320 x7_1).f0) ((rd_T102 t320 x7_1).f1) ((rd_T102 t320 x7_1).f2) ((rd_T102 t320 x7_1).f3)).bind fun t330 => (if t330 = true then (spec_l05Read.j1 k1 t320 x6_1 x7_1 ji11 (rd l0_3 (ji14)) (rd l0_2 (ji11)) a0_0 a0_1 l0_2 l0_3 l0_4 ((rd_T102 t320 x7_1).f0) ((rd_T102 t320 x7_1).f1) ((rd_T102 t320 x7_1).f2) ((rd_T102 t320 x7_1).f3)) else (spec_l05Read.j1 k1 t320 x6_1 x7_1 ji11 (rd l0_2 (ji11)) (rd l0_3 (ji14)) a0_0 a0_1 l0_2 l0_3 l0_4 ((rd_T102 t320 x7_1).f0) ((rd_T102 t320 x7_1).f1) ((rd_T102 t320 x7_1).f2) ((rd_T102 t320 x7_1).f3)))) else (none)) else (none)) = some r := by first | (rw [hji14] at H; exact H) | (simp only [hji14] at H ⊢; exact H)
       have hji14w : (IntKind.i64.wrap ((wrap64 ((wrap64 ((wrap64 (((rd_T102 t320 x7_1).f1) * a0_0)) + a0_0)) - 1)) - ((rd_T102 t320 x7_1).f0))) = ji14 := (i64_w _).trans hji14
       by_cases c15 : 0 ≤ (ji14)
       ·rw [if_pos c15] at H
        have c15b0 : decide (0 ≤ (ji14)) = true := decide_eq_true c15
        clear c15
        by_cases c16 : (ji14) < (l0_3.length : Int)
        ·rw [if_pos c16] at H
         have c16b0 : decide ((ji14) < (l0_3.length : Int)) = true := decide_eq_true c16
         clear c16
         replace H := Option.bind_eq_some_iff.mp H
         obtain ⟨t330, A170, H⟩ := H
         replace H : (if t330 = true then (spec_l05Read.j1 k1 t320 x6_1 x7_1 ji11 (rd l0_3 (ji14)) (rd l0_2 (ji11)) a0_0 a0_1 l0_2 l0_3 l0_4 ((rd_T102 t320 x7_1).f0) ((rd_T102 t320 x7_1).f1) ((rd_T102 t320 x7_1).f2) ((rd_T102 t320 x7_1).f3)) else (spec_l05Read.j1 k1 t320 x6_1 x7_1 ji11 (rd l0_2 (ji11)) (rd l0_3 (ji14)) a0_0 a0_1 l0_2 l0_3 l0_4 ((rd_T102 t320 x7_1).f0) ((rd_T102 t320 x7_1).f1) ((rd_T102 t320 x7_1).f2) ((rd_T102 t320 x7_1).f3))) = some r := H
         have A17 := Aside0.mk A170
         clear A170
         have HC18 := Aside0.mk H
         clear H
         obtain ⟨Ao19, co19, eo19⟩ := Kd.R_slice HO_5.out
         subst eo19
         have p326 : 0 ≤ (x7_1 : Int) := of_decide_eq_true z80_
         have q326 : x7_1 < (t320.length : Int) := of_decide_eq_true z80_
         obtain ⟨ad326, e326, hx326_0, hx326_1, hx326_2, hx326_3⟩ := at_T102 (Kd.R_reads' HO_5.out).2.2 x7_1 p326 q326
         cases e326
         replace p326 := eq_true p326
         replace q326 := eq_true q326
         go_upto_if 59 with (first | ((with_reducible refine gate_dst (N := 8) rfl ?_); refine box_event ?hg (N := 8) ?hd (cs := #[.int .i64 0, .int .i64 0, .bool false, .bool false]) (t := 102) ?hr ?_; (case hd => rfl); (case hg => rfl); (case hr => first | (go_simp; done) | (go_simp; rfl)); intro gb327 hg w20 hbox hb; replace HO_5 := a_ (Kd.R_below (Kd.R_elderB (ra_ HO_5.out) gb327 (Nat.le_of_eq hg.symm)) hb); replace HO_6 := a_ (Kd.R_below (ra_ HO_6.out) hb); have BK327 := a_ (hbox); have GW327 := a_ ((z11_ : w.heap.size ≤ gb327)); have GE327 := a_ ((z11_ : w.heap.size ≤ gb327)); replace HB := a_ (below_step z23_ hb); have NB319_327 := a_ ((by rw [hg]; exact Nat.ne_of_lt (blk_lt (g := gb319) (rb_ BK319.out)) : gb319 ≠ gb327)); have NB327_319 := a_ ((by rw [hg]; exact Nat.ne_of_gt (blk_lt (g := gb319) (rb_ BK319.out)) : gb327 ≠ gb319)); replace BK319 := a_ (blk_below (g := gb319) (rb_ BK319.out) hb); clear hb hbox hg; have hnb21 := NB327_319.out; have hnc21 := NB319_327.out; obtain ⟨hcz22_0, hcz22_1, hcz22_2, hcz22_3, hfz22_0, hfz22_1, hfz22_2, hfz22_3⟩ := cz4_ (w := w20) BK327.out; obtain ⟨hcz23_0, hcz23_1, hcz23_2, hcz23_3, hcz23_4, hfz23_0, hfz23_1, hfz23_2, hfz23_3, hfz23_4⟩ := cz5_ (w := w20) BK319.out; have p328 : 0 ≤ ((ji11) : Int) := of_decide_eq_true z80_; have q328 : (ji11) < (l0_2.length : Int) := of_decide_eq_true z80_; obtain ⟨ad328, e328, hx328_0⟩ := Kd.at_int HR0_2.out (ji11) p328 q328; cases e328; have hn328_0 : ad328.block ≠ gb327 := Nat.ne_of_lt (Nat.lt_of_lt_of_le z71_ GW327.out); have hn328_1 : ad328.block ≠ gb327 := Nat.ne_of_lt (Nat.lt_of_lt_of_le z71_ GW327.out); have hn328_2 : ad328.block ≠ gb327 := Nat.ne_of_lt (Nat.lt_of_lt_of_le z71_ GW327.out); have hn328_3 : ad328.block ≠ gb327 := Nat.ne_of_lt (Nat.lt_of_lt_of_le z71_ GW327.out); replace hx328_0 := (HB.out.cell (World.block_lt_of_cell? _ _ hx328_0)).trans hx328_0; replace hx328_0 := (cell_far (p := ⟨gb327, 0, none⟩) z38_ (.int .i64 ((rd_T102 t320 x7_1).f0))).trans hx328_0; replace hx328_0 := (cell_far (p := ⟨gb327, 1, none⟩) z39_ (.int .i64 ((rd_T102 t320 x7_1).f1))).trans hx328_0; replace hx328_0 := (cell_far (p := ⟨gb327, 2, none⟩) z40_ (.bool ((rd_T102 t320 x7_1).f2))).trans hx328_0; replace hx328_0 := (cell_far (p := ⟨gb327, 3, none⟩) z41_ (.bool ((rd_T102 t320 x7_1).f3))).trans hx328_0; (try have hy328_0 := fun (n_ : Nat) => (show ((((((w20.drewN n_).setCell ⟨gb327, 0, none⟩ (.int .i64 ((rd_T102 t320 x7_1).f0))).setCell ⟨gb327, 1, none⟩ (.int .i64 ((rd_T102 t320 x7_1).f1))).setCell ⟨gb327, 2, none⟩ (.bool ((rd_T102 t320 x7_1).f2))).setCell ⟨gb327, 3, none⟩ (.bool ((rd_T102 t320 x7_1).f3)))).cell? _ = some _ from hx328_0)); clear hn328_0; clear hn328_1; clear hn328_2; clear hn328_3; replace p328 := eq_true p328; replace q328 := eq_true q328; have p329 : 0 ≤ ((ji14) : Int) := of_decide_eq_true z80_; have q329 : (ji14) < (l0_3.length : Int) := of_decide_eq_true z80_; obtain ⟨ad329, e329, hx329_0⟩ := Kd.at_int HR0_3.out (ji14) p329 q329; cases e329; have hn329_0 : ad329.block ≠ gb327 := Nat.ne_of_lt (Nat.lt_of_lt_of_le z72_ GW327.out); have hn329_1 : ad329.block ≠ gb327 := Nat.ne_of_lt (Nat.lt_of_lt_of_le z72_ GW327.out); have hn329_2 : ad329.block ≠ gb327 := Nat.ne_of_lt (Nat.lt_of_lt_of_le z72_ GW327.out); have hn329_3 : ad329.block ≠ gb327 := Nat.ne_of_lt (Nat.lt_of_lt_of_le z72_ GW327.out); replace hx329_0 := (HB.out.cell (World.block_lt_of_cell? _ _ hx329_0)).trans hx329_0; replace hx329_0 := (cell_far (p := ⟨gb327, 0, none⟩) z42_ (.int .i64 ((rd_T102 t320 x7_1).f0))).trans hx329_0; replace hx329_0 := (cell_far (p := ⟨gb327, 1, none⟩) z43_ (.int .i64 ((rd_T102 t320 x7_1).f1))).trans hx329_0; replace hx329_0 := (cell_far (p := ⟨gb327, 2, none⟩) z44_ (.bool ((rd_T102 t320 x7_1).f2))).trans hx329_0; replace hx329_0 := (cell_far (p := ⟨gb327, 3, none⟩) z45_ (.bool ((rd_T102 t320 x7_1).f3))).trans hx329_0; (try have hy329_0 := fun (n_ : Nat) => (show ((((((w20.drewN n_).setCell ⟨gb327, 0, none⟩ (.int .i64 ((rd_T102 t320 x7_1).f0))).setCell ⟨gb327, 1, none⟩ (.int .i64 ((rd_T102 t320 x7_1).f1))).setCell ⟨gb327, 2, none⟩ (.bool ((rd_T102 t320 x7_1).f2))).setCell ⟨gb327, 3, none⟩ (.bool ((rd_T102 t320 x7_1).f3)))).cell? _ = some _ from hx329_0)); clear hn329_0; clear hn329_1; clear hn329_2; clear hn329_3; replace p329 := eq_true p329; replace q329 := eq_true q329) | (go_at_call 89; (with_reducible refine (spec_l04Down.calls ((rd_T102 t320 x7_1).f0) ((rd_T102 t320 x7_1).f1) ((rd_T102 t320 x7_1).f2) ((rd_T102 t320 x7_1).f3) t330 _ A17.out).mono ?_); rintro e w24 ⟨rfl, hb⟩; replace HO_5 := a_ (Kd.R_below (rc_ (h := by exact Kd.R_mono (Kd.R_far (p := ⟨gb327, 3, none⟩) (Kd.R_far (p := ⟨gb327, 2, none⟩) (Kd.R_far (p := ⟨gb327, 1, none⟩) (Kd.R_far (p := ⟨gb327, 0, none⟩) (Kd.R_mono HO_5.out (fun k_ hk => (⟨hk, hk.2⟩ : _ ∧ k_ ≠ gb327))) (fun _ hk => hk.2) (.int .i64 ((rd_T102 t320 x7_1).f0))) (fun _ hk => hk.2) (.int .i64 ((rd_T102 t320 x7_1).f1))) (fun _ hk => hk.2) (.bool ((rd_T102 t320 x7_1).f2))) (fun _ hk => hk.2) (.bool ((rd_T102 t320 x7_1).f3))) (fun _ h_ => h_.1))) hb); replace HO_6 := a_ (Kd.R_below (rc_ (h := by exact Kd.R_mono (rt4_ HO_6.out BK327.out) (fun _ h_ => h_.1))) hb); replace BK319 := a_ (blk_below (g := gb319) (o := .cells #[.int .i64 a0_0, .int .i64 a0_1, .slice (some ad328) l0_2.length c0_2, .slice (some ad329) l0_3.length c0_3, .slice A0_4 l0_4.length c0_4] 27 (0, 0)) (rb2_ (h := by exact bf4_ NB319_327.out BK319.out)) hb); replace BK327 := a_ (blk_below (g := gb327) (o := .cells #[.int .i64 ((rd_T102 t320 x7_1).f0), .int .i64 ((rd_T102 t320 x7_1).f1), .bool ((rd_T102 t320 x7_1).f2), .bool ((rd_T102 t320 x7_1).f3)] 102 (0, 0)) (rb2_ (h := by exact bp4x4_ BK327.out)) hb); replace HB := a_ (below_step z7_ hb); (try clear hb); (try clear hb2); (try clear hk); (try clear hi)))
         repeat (go_quiet (first | ((with_reducible refine gate_dst (N := 8) rfl ?_); refine box_event ?hg (N := 8) ?hd (cs := #[.int .i64 0, .int .i64 0, .bool false, .bool false]) (t := 102) ?hr ?_; (case hd => rfl); (case hg => rfl); (case hr => first | (go_simp; done) | (go_simp; rfl)); intro gb327 hg w20 hbox hb; replace HO_5 := a_ (Kd.R_below (Kd.R_elderB (ra_ HO_5.out) gb327 (Nat.le_of_eq hg.symm)) hb); replace HO_6 := a_ (Kd.R_below (ra_ HO_6.out) hb); have BK327 := a_ (hbox); have GW327 := a_ ((z11_ : w.heap.size ≤ gb327)); have GE327 := a_ ((z11_ : w.heap.size ≤ gb327)); replace HB := a_ (below_step z23_ hb); have NB319_327 := a_ ((by rw [hg]; exact Nat.ne_of_lt (blk_lt (g := gb319) (rb_ BK319.out)) : gb319 ≠ gb327)); have NB327_319 := a_ ((by rw [hg]; exact Nat.ne_of_gt (blk_lt (g := gb319) (rb_ BK319.out)) : gb327 ≠ gb319)); replace BK319 := a_ (blk_below (g := gb319) (rb_ BK319.out) hb); clear hb hbox hg; have hnb21 := NB327_319.out; have hnc21 := NB319_327.out; obtain ⟨hcz22_0, hcz22_1, hcz22_2, hcz22_3, hfz22_0, hfz22_1, hfz22_2, hfz22_3⟩ := cz4_ (w := w20) BK327.out; obtain ⟨hcz23_0, hcz23_1, hcz23_2, hcz23_3, hcz23_4, hfz23_0, hfz23_1, hfz23_2, hfz23_3, hfz23_4⟩ := cz5_ (w := w20) BK319.out; have p328 : 0 ≤ ((ji11) : Int) := of_decide_eq_true z80_; have q328 : (ji11) < (l0_2.length : Int) := of_decide_eq_true z80_; obtain ⟨ad328, e328, hx328_0⟩ := Kd.at_int HR0_2.out (ji11) p328 q328; cases e328; have hn328_0 : ad328.block ≠ gb327 := Nat.ne_of_lt (Nat.lt_of_lt_of_le z71_ GW327.out); have hn328_1 : ad328.block ≠ gb327 := Nat.ne_of_lt (Nat.lt_of_lt_of_le z71_ GW327.out); have hn328_2 : ad328.block ≠ gb327 := Nat.ne_of_lt (Nat.lt_of_lt_of_le z71_ GW327.out); have hn328_3 : ad328.block ≠ gb327 := Nat.ne_of_lt (Nat.lt_of_lt_of_le z71_ GW327.out); replace hx328_0 := (HB.out.cell (World.block_lt_of_cell? _ _ hx328_0)).trans hx328_0; replace hx328_0 := (cell_far (p := ⟨gb327, 0, none⟩) z38_ (.int .i64 ((rd_T102 t320 x7_1).f0))).trans hx328_0; replace hx328_0 := (cell_far (p := ⟨gb327, 1, none⟩) z39_ (.int .i64 ((rd_T102 t320 x7_1).f1))).trans hx328_0; replace hx328_0 := (cell_far (p := ⟨gb327, 2, none⟩) z40_ (.bool ((rd_T102 t320 x7_1).f2))).trans hx328_0; replace hx328_0 := (cell_far (p := ⟨gb327, 3, none⟩) z41_ (.bool ((rd_T102 t320 x7_1).f3))).trans hx328_0; (try have hy328_0 := fun (n_ : Nat) => (show ((((((w20.drewN n_).setCell ⟨gb327, 0, none⟩ (.int .i64 ((rd_T102 t320 x7_1).f0))).setCell ⟨gb327, 1, none⟩ (.int .i64 ((rd_T102 t320 x7_1).f1))).setCell ⟨gb327, 2, none⟩ (.bool ((rd_T102 t320 x7_1).f2))).setCell ⟨gb327, 3, none⟩ (.bool ((rd_T102 t320 x7_1).f3)))).cell? _ = some _ from hx328_0)); clear hn328_0; clear hn328_1; clear hn328_2; clear hn328_3; replace p328 := eq_true p328; replace q328 := eq_true q328; have p329 : 0 ≤ ((ji14) : Int) := of_decide_eq_true z80_; have q329 : (ji14) < (l0_3.length : Int) := of_decide_eq_true z80_; obtain ⟨ad329, e329, hx329_0⟩ := Kd.at_int HR0_3.out (ji14) p329 q329; cases e329; have hn329_0 : ad329.block ≠ gb327 := Nat.ne_of_lt (Nat.lt_of_lt_of_le z72_ GW327.out); have hn329_1 : ad329.block ≠ gb327 := Nat.ne_of_lt (Nat.lt_of_lt_of_le z72_ GW327.out); have hn329_2 : ad329.block ≠ gb327 := Nat.ne_of_lt (Nat.lt_of_lt_of_le z72_ GW327.out); have hn329_3 : ad329.block ≠ gb327 := Nat.ne_of_lt (Nat.lt_of_lt_of_le z72_ GW327.out); replace hx329_0 := (HB.out.cell (World.block_lt_of_cell? _ _ hx329_0)).trans hx329_0; replace hx329_0 := (cell_far (p := ⟨gb327, 0, none⟩) z42_ (.int .i64 ((rd_T102 t320 x7_1).f0))).trans hx329_0; replace hx329_0 := (cell_far (p := ⟨gb327, 1, none⟩) z43_ (.int .i64 ((rd_T102 t320 x7_1).f1))).trans hx329_0; replace hx329_0 := (cell_far (p := ⟨gb327, 2, none⟩) z44_ (.bool ((rd_T102 t320 x7_1).f2))).trans hx329_0; replace hx329_0 := (cell_far (p := ⟨gb327, 3, none⟩) z45_ (.bool ((rd_T102 t320 x7_1).f3))).trans hx329_0; (try have hy329_0 := fun (n_ : Nat) => (show ((((((w20.drewN n_).setCell ⟨gb327, 0, none⟩ (.int .i64 ((rd_T102 t320 x7_1).f0))).setCell ⟨gb327, 1, none⟩ (.int .i64 ((rd_T102 t320 x7_1).f1))).setCell ⟨gb327, 2, none⟩ (.bool ((rd_T102 t320 x7_1).f2))).setCell ⟨gb327, 3, none⟩ (.bool ((rd_T102 t320 x7_1).f3)))).cell? _ = some _ from hx329_0)); clear hn329_0; clear hn329_1; clear hn329_2; clear hn329_3; replace p329 := eq_true p329; replace q329 := eq_true q329) | (go_at_call 89; (with_reducible refine (spec_l04Down.calls ((rd_T102 t320 x7_1).f0) ((rd_T102 t320 x7_1).f1) ((rd_T102 t320 x7_1).f2) ((rd_T102 t320 x7_1).f3) t330 _ A17.out).mono ?_); rintro e w24 ⟨rfl, hb⟩; replace HO_5 := a_ (Kd.R_below (rc_ (h := by exact Kd.R_mono (Kd.R_far (p := ⟨gb327, 3, none⟩) (Kd.R_far (p := ⟨gb327, 2, none⟩) (Kd.R_far (p := ⟨gb327, 1, none⟩) (Kd.R_far (p := ⟨gb327, 0, none⟩) (Kd.R_mono HO_5.out (fun k_ hk => (⟨hk, hk.2⟩ : _ ∧ k_ ≠ gb327))) (fun _ hk => hk.2) (.int .i64 ((rd_T102 t320 x7_1).f0))) (fun _ hk => hk.2) (.int .i64 ((rd_T102 t320 x7_1).f1))) (fun _ hk => hk.2) (.bool ((rd_T102 t320 x7_1).f2))) (fun _ hk => hk.2) (.bool ((rd_T102 t320 x7_1).f3))) (fun _ h_ => h_.1))) hb); replace HO_6 := a_ (Kd.R_below (rc_ (h := by exact Kd.R_mono (rt4_ HO_6.out BK327.out) (fun _ h_ => h_.1))) hb); replace BK319 := a_ (blk_below (g := gb319) (o := .cells #[.int .i64 a0_0, .int .i64 a0_1, .slice (some ad328) l0_2.length c0_2, .slice (some ad329) l0_3.length c0_3, .slice A0_4 l0_4.length c0_4] 27 (0, 0)) (rb2_ (h := by exact bf4_ NB319_327.out BK319.out)) hb); replace BK327 := a_ (blk_below (g := gb327) (o := .cells #[.int .i64 ((rd_T102 t320 x7_1).f0), .int .i64 ((rd_T102 t320 x7_1).f1), .bool ((rd_T102 t320 x7_1).f2), .bool ((rd_T102 t320 x7_1).f3)] 102 (0, 0)) (rb2_ (h := by exact bp4x4_ BK327.out)) hb); replace HB := a_ (below_step z7_ hb); (try clear hb); (try clear hb2); (try clear hk); (try clear hi))); go_upto_if 59 with (first | ((with_reducible refine gate_dst (N := 8) rfl ?_); refine box_event ?hg (N := 8) ?hd (cs := #[.int .i64 0, .int .i64 0, .bool false, .bool false]) (t := 102) ?hr ?_; (case hd => rfl); (case hg => rfl); (case hr => first | (go_simp; done) | (go_simp; rfl)); intro gb327 hg w20 hbox hb; replace HO_5 := a_ (Kd.R_below (Kd.R_elderB (ra_ HO_5.out) gb327 (Nat.le_of_eq hg.symm)) hb); replace HO_6 := a_ (Kd.R_below (ra_ HO_6.out) hb); have BK327 := a_ (hbox); have GW327 := a_ ((z11_ : w.heap.size ≤ gb327)); have GE327 := a_ ((z11_ : w.heap.size ≤ gb327)); replace HB := a_ (below_step z23_ hb); have NB319_327 := a_ ((by rw [hg]; exact Nat.ne_of_lt (blk_lt (g := gb319) (rb_ BK319.out)) : gb319 ≠ gb327)); have NB327_319 := a_ ((by rw [hg]; exact Nat.ne_of_gt (blk_lt (g := gb319) (rb_ BK319.out)) : gb327 ≠ gb319)); replace BK319 := a_ (blk_below (g := gb319) (rb_ BK319.out) hb); clear hb hbox hg; have hnb21 := NB327_319.out; have hnc21 := NB319_327.out; obtain ⟨hcz22_0, hcz22_1, hcz22_2, hcz22_3, hfz22_0, hfz22_1, hfz22_2, hfz22_3⟩ := cz4_ (w := w20) BK327.out; obtain ⟨hcz23_0, hcz23_1, hcz23_2, hcz23_3, hcz23_4, hfz23_0, hfz23_1, hfz23_2, hfz23_3, hfz23_4⟩ := cz5_ (w := w20) BK319.out; have p328 : 0 ≤ ((ji11) : Int) := of_decide_eq_true z80_; have q328 : (ji11) < (l0_2.length : Int) := of_decide_eq_true z80_; obtain ⟨ad328, e328, hx328_0⟩ := Kd.at_int HR0_2.out (ji11) p328 q328; cases e328; have hn328_0 : ad328.block ≠ gb327 := Nat.ne_of_lt (Nat.lt_of_lt_of_le z71_ GW327.out); have hn328_1 : ad328.block ≠ gb327 := Nat.ne_of_lt (Nat.lt_of_lt_of_le z71_ GW327.out); have hn328_2 : ad328.block ≠ gb327 := Nat.ne_of_lt (Nat.lt_of_lt_of_le z71_ GW327.out); have hn328_3 : ad328.block ≠ gb327 := Nat.ne_of_lt (Nat.lt_of_lt_of_le z71_ GW327.out); replace hx328_0 := (HB.out.cell (World.block_lt_of_cell? _ _ hx328_0)).trans hx328_0; replace hx328_0 := (cell_far (p := ⟨gb327, 0, none⟩) z38_ (.int .i64 ((rd_T102 t320 x7_1).f0))).trans hx328_0; replace hx328_0 := (cell_far (p := ⟨gb327, 1, none⟩) z39_ (.int .i64 ((rd_T102 t320 x7_1).f1))).trans hx328_0; replace hx328_0 := (cell_far (p := ⟨gb327, 2, none⟩) z40_ (.bool ((rd_T102 t320 x7_1).f2))).trans hx328_0; replace hx328_0 := (cell_far (p := ⟨gb327, 3, none⟩) z41_ (.bool ((rd_T102 t320 x7_1).f3))).trans hx328_0; (try have hy328_0 := fun (n_ : Nat) => (show ((((((w20.drewN n_).setCell ⟨gb327, 0, none⟩ (.int .i64 ((rd_T102 t320 x7_1).f0))).setCell ⟨gb327, 1, none⟩ (.int .i64 ((rd_T102 t320 x7_1).f1))).setCell ⟨gb327, 2, none⟩ (.bool ((rd_T102 t320 x7_1).f2))).setCell ⟨gb327, 3, none⟩ (.bool ((rd_T102 t320 x7_1).f3)))).cell? _ = some _ from hx328_0)); clear hn328_0; clear hn328_1; clear hn328_2; clear hn328_3; replace p328 := eq_true p328; replace q328 := eq_true q328; have p329 : 0 ≤ ((ji14) : Int) := of_decide_eq_true z80_; have q329 : (ji14) < (l0_3.length : Int) := of_decide_eq_true z80_; obtain ⟨ad329, e329, hx329_0⟩ := Kd.at_int HR0_3.out (ji14) p329 q329; cases e329; have hn329_0 : ad329.block ≠ gb327 := Nat.ne_of_lt (Nat.lt_of_lt_of_le z72_ GW327.out); have hn329_1 : ad329.block ≠ gb327 := Nat.ne_of_lt (Nat.lt_of_lt_of_le z72_ GW327.out); have hn329_2 : ad329.block ≠ gb327 := Nat.ne_of_lt (Nat.lt_of_lt_of_le z72_ GW327.out); have hn329_3 : ad329.block ≠ gb327 := Nat.ne_of_lt (Nat.lt_of_lt_of_le z72_ GW327.out); replace hx329_0 := (HB.out.cell (World.block_lt_of_cell? _ _ hx329_0)).trans hx329_0; replace hx329_0 := (cell_far (p := ⟨gb327, 0, none⟩) z42_ (.int .i64 ((rd_T102 t320 x7_1).f0))).trans hx329_0; replace hx329_0 := (cell_far (p := ⟨gb327, 1, none⟩) z43_ (.int .i64 ((rd_T102 t320 x7_1).f1))).trans hx329_0; replace hx329_0 := (cell_far (p := ⟨gb327, 2, none⟩) z44_ (.bool ((rd_T102 t320 x7_1).f2))).trans hx329_0; replace hx329_0 := (cell_far (p := ⟨gb327, 3, none⟩) z45_ (.bool ((rd_T102 t320 x7_1).f3))).trans hx329_0; (try have hy329_0 := fun (n_ : Nat) => (show ((((((w20.drewN n_).setCell ⟨gb327, 0, none⟩ (.int .i64 ((rd_T102 t320 x7_1).f0))).setCell ⟨gb327, 1, none⟩ (.int .i64 ((rd_T102 t320 x7_1).f1))).setCell ⟨gb327, 2, none⟩ (.bool ((rd_T102 t320 x7_1).f2))).setCell ⟨gb327, 3, none⟩ (.bool ((rd_T102 t320 x7_1).f3)))).cell? _ = some _ from hx329_0)); clear hn329_0; clear hn329_1; clear hn329_2; clear hn329_3; replace p329 := eq_true p329; replace q329 := eq_true q329) | (go_at_call 89; (with_reducible refine (spec_l04Down.calls ((rd_T102 t320 x7_1).f0) ((rd_T102 t320 x7_1).f1) ((rd_T102 t320 x7_1).f2) ((rd_T102 t320 x7_1).f3) t330 _ A17.out).mono ?_); rintro e w24 ⟨rfl, hb⟩; replace HO_5 := a_ (Kd.R_below (rc_ (h := by exact Kd.R_mono (Kd.R_far (p := ⟨gb327, 3, none⟩) (Kd.R_far (p := ⟨gb327, 2, none⟩) (Kd.R_far (p := ⟨gb327, 1, none⟩) (Kd.R_far (p := ⟨gb327, 0, none⟩) (Kd.R_mono HO_5.out (fun k_ hk => (⟨hk, hk.2⟩ : _ ∧ k_ ≠ gb327))) (fun _ hk => hk.2) (.int .i64 ((rd_T102 t320 x7_1).f0))) (fun _ hk => hk.2) (.int .i64 ((rd_T102 t320 x7_1).f1))) (fun _ hk => hk.2) (.bool ((rd_T102 t320 x7_1).f2))) (fun _ hk => hk.2) (.bool ((rd_T102 t320 x7_1).f3))) (fun _ h_ => h_.1))) hb); replace HO_6 := a_ (Kd.R_below (rc_ (h := by exact Kd.R_mono (rt4_ HO_6.out BK327.out) (fun _ h_ => h_.1))) hb); replace BK319 := a_ (blk_below (g := gb319) (o := .cells #[.int .i64 a0_0, .int .i64 a0_1, .slice (some ad328) l0_2.length c0_2, .slice (some ad329) l0_3.length c0_3, .slice A0_4 l0_4.length c0_4] 27 (0, 0)) (rb2_ (h := by exact bf4_ NB319_327.out BK319.out)) hb); replace BK327 := a_ (blk_below (g := gb327) (o := .cells #[.int .i64 ((rd_T102 t320 x7_1).f0), .int .i64 ((rd_T102 t320 x7_1).f1), .bool ((rd_T102 t320 x7_1).f2), .bool ((rd_T102 t320 x7_1).f3)] 102 (0, 0)) (rb2_ (h := by exact bp4x4_ BK327.out)) hb); replace HB := a_ (below_step z7_ hb); (try clear hb); (try clear hb2); (try clear hk); (try clear hi))))
         (try simp only [Act.put, List.setIfInBounds_toArray, List.set_cons_zero, List.set_cons_succ])
         go_cut [10, 11] (fun v10 v11 wc => ∃ (kq : Nat) (x10_17 : Int) (x11_17 : Int), v10 = .int .i64 x10_17 ∧ v11 = .int .i64 x11_17 ∧ Aside0 (spec_l05Read.j1 kq t320 x6_1 x7_1 ji11 x10_17 x11_17 a0_0 a0_1 l0_2 l0_3 l0_4 ((rd_T102 t320 x7_1).f0) ((rd_T102 t320 x7_1).f1) ((rd_T102 t320 x7_1).f2) ((rd_T102 t320 x7_1).f3) = some r) ∧ Aside0 (kq ≤ k1) ∧ Aside0 (Kd.R k102 102 wc w.heap.size (fun k_ => k_ ≠ gb327) (.slice (some ad326) t320.length co19) t320) ∧ Aside0 (Kd.R (Kd.int .i64) 2 wc w.heap.size (fun _ => True) u6 x6_1) ∧ Aside0 (wc.heap[gb319]? = some (.cells #[.int .i64 a0_0, .int .i64 a0_1, (.slice (some ad328) l0_2.length c0_2), (.slice (some ad329) l0_3.length c0_3), (.slice A0_4 l0_4.length c0_4)] 27 (0, 0))) ∧ Aside0 (wc.heap[gb327]? = some (.cells #[.int .i64 ((rd_T102 t320 x7_1).f0), .int .i64 ((rd_T102 t320 x7_1).f1), .bool ((rd_T102 t320 x7_1).f2), .bool ((rd_T102 t320 x7_1).f3)] 102 (0, 0))) ∧ Aside0 (Below w.heap.size w wc))
         case first =>
          have H := HC18.out
          clear HC18
          by_cases c25 : t330 = true
          ·subst c25
           have H1 : (spec_l05Read.j1 k1 t320 x6_1 x7_1 ji11 (rd l0_3 (ji14)) (rd l0_2 (ji11)) a0_0 a0_1 l0_2 l0_3 l0_4 ((rd_T102 t320 x7_1).f0) ((rd_T102 t320 x7_1).f1) ((rd_T102 t320 x7_1).f2) ((rd_T102 t320 x7_1).f3)) = some r := by rw [if_pos rfl] at H; exact H
           clear H
           have H := H1
           clear H1
           have H' := Aside0.mk H
           clear H
           go_wp2
           repeat (go_quiet (fail); try go_wp2)
           go_meet
           case rel => exact ⟨_, (rd l0_3 (ji14)), (rd l0_2 (ji11)), (by first | rfl | (simp; done) | (simp only [← hji14] <;> (first | rfl | simp)) | (simp [*]; done)), (by first | rfl | (simp; done) | (simp only [← hji11] <;> (first | rfl | simp)) | (simp [*]; done)), H', ⟨z79_⟩, ⟨z36_⟩, ⟨z69_⟩, ⟨z55_⟩, ⟨by (with_reducible repeat (first | refine blk_drewN ?_ _ | refine blk_drew ?_ | refine blk_alloc ?_ _)); exact BK327.out⟩, ⟨z7_⟩⟩
          ·replace c25 := Bool.eq_false_iff.mpr c25
           subst c25
           have H1 : (spec_l05Read.j1 k1 t320 x6_1 x7_1 ji11 (rd l0_2 (ji11)) (rd l0_3 (ji14)) a0_0 a0_1 l0_2 l0_3 l0_4 ((rd_T102 t320 x7_1).f0) ((rd_T102 t320 x7_1).f1) ((rd_T102 t320 x7_1).f2) ((rd_T102 t320 x7_1).f3)) = some r := by rw [if_neg (show ¬ (false = true) by decide)] at H; exact H
           clear H
           have H := H1
           clear H1
           have H' := Aside0.mk H
           clear H
           go_wp2
           repeat (go_quiet (fail); try go_wp2)
           go_meet
           case rel => exact ⟨_, (rd l0_2 (ji11)), (rd l0_3 (ji14)), (by first | rfl | (simp; done) | (simp only [← hji11] <;> (first | rfl | simp)) | (simp [*]; done)), (by first | rfl | (simp; done) | (simp only [← hji14] <;> (first | rfl | simp)) | (simp [*]; done)), H', ⟨z79_⟩, ⟨z36_⟩, ⟨z69_⟩, ⟨z55_⟩, ⟨by (with_reducible repeat (first | refine blk_drewN ?_ _ | refine blk_drew ?_ | refine blk_alloc ?_ _)); exact BK327.out⟩, ⟨z7_⟩⟩
         case rest =>
          clear HC18; try clear c9b0; try clear c10b0; try clear c12b0; try clear c13b0; try clear c15b0; try clear c16b0; try clear hcz22_0 hcz22_1 hcz22_2 hcz22_3; try clear hcz23_0 hcz23_1 hcz23_2 hcz23_3 hcz23_4; try clear hfz22_0 hfz22_1 hfz22_2 hfz22_3; try clear hfz23_0 hfz23_1 hfz23_2 hfz23_3 hfz23_4; try clear hx326_0; try clear hx326_1; try clear hx326_2; try clear hx326_3; try clear hx328_0; try clear hx329_0; try clear p326; try clear p328; try clear p329; try clear q326; try clear q328; try clear q329
          obtain ⟨kq, x10_17, x11_17, rfl, rfl, HA, HJ17, HO_5, HO_6, BK319, BK327, HB⟩ := hcut
          cases kq with
          | zero => exact absurd HA.out (by simp [spec_l05Read.j1])
          | succ kj17 =>
           have H := HA.out
           clear HA
           simp only [spec_l05Read.j1] at H
           by_cases c26 : 0 ≤ ji11
           ·rw [if_pos c26] at H
            have c26b0 : decide (0 ≤ ji11) = true := decide_eq_true c26
            clear c26
            by_cases c27 : ji11 < (l0_4.length : Int)
            ·rw [if_pos c27] at H
             have c27b0 : decide (ji11 < (l0_4.length : Int)) = true := decide_eq_true c27
             clear c27
             by_cases c28 : (((rd_T102 t320 x7_1).f3) != ((rd l0_4 ji11) == 1)) = true
             ·rw [if_pos c28] at H
              have c28b0 : (((rd_T102 t320 x7_1).f3) != ((rd l0_4 ji11) == 1)) = true := c28
              (try (have c28b1 : decide (((rd_T102 t320 x7_1).f3) = ((rd l0_4 ji11) == 1)) = false := by simpa using c28))
              (try (have c28b2 : (((rd_T102 t320 x7_1).f3) == ((rd l0_4 ji11) == 1)) = false := by simpa using c28))
              (try (have c28b3 : ¬ (((rd_T102 t320 x7_1).f3) = ((rd l0_4 ji11) == 1)) := by simpa using c28))
              clear c28
              obtain ⟨y332, hy332⟩ : ∃ y_ : List Int, y_ = (([wrap64 (-x10_17), wrap64 (-x11_17)] : List Int)) := ⟨_, rfl⟩
              replace H : (if x6_1.length + y332.length < 17592186044416 then (spec_l05Read.l0 kj17 t320 (x6_1 ++ y332) (wrap64 (x7_1 + 1)) a0_0 a0_1 l0_2 l0_3 l0_4) else (none)) = some r := rh_ hy332 H
              have Ny332 := Aside0.mk hy332
              clear hy332
              by_cases c29 : x6_1.length + y332.length < 17592186044416
              ·rw [if_pos c29] at H
               have LMc29 := Aside0.mk c29
               clear c29
               obtain ⟨y335, hy335⟩ : ∃ y_ : List Int, y_ = (x6_1 ++ y332) := ⟨_, rfl⟩
               replace H : (spec_l05Read.l0 kj17 t320 y335 (wrap64 (x7_1 + 1)) a0_0 a0_1 l0_2 l0_3 l0_4) = some r := rh_ hy335 H
               have Ny335 := Aside0.mk hy335
               clear hy335
               have H' := Aside0.mk H
               clear H
               have hnb30 := NB327_319.out
               have hnc30 := NB319_327.out
               obtain ⟨hcz31_0, hcz31_1, hcz31_2, hcz31_3, hfz31_0, hfz31_1, hfz31_2, hfz31_3⟩ := cz4_ (w := wc) BK327.out
               obtain ⟨hcz32_0, hcz32_1, hcz32_2, hcz32_3, hcz32_4, hfz32_0, hfz32_1, hfz32_2, hfz32_3, hfz32_4⟩ := cz5_ (w := wc) BK319.out
               have p331 : 0 ≤ (ji11 : Int) := of_decide_eq_true z80_
               have q331 : ji11 < (l0_4.length : Int) := of_decide_eq_true z80_
               obtain ⟨ad331, e331, hx331_0⟩ := Kd.at_int HR0_4.out ji11 p331 q331
               cases e331
               replace hx331_0 := (HB.out.cell (World.block_lt_of_cell? _ _ hx331_0)).trans hx331_0
               replace p331 := eq_true p331
               replace q331 := eq_true q331
               go_wp2_with (first | ((with_reducible refine gate_dst (N := 78) rfl ?_); refine Kd.R_lit (Kd.int .i64) _ 2 ?hg (N := 78) ?hd (xs := ([wrap64 (-x10_17), wrap64 (-x11_17)] : List Int)) (inner := [.int .i64 (wrap64 (-x10_17)), .int .i64 (wrap64 (-x11_17))]) (ok := fun _ => True) (okp := fun _ => True) ?hr ?hp (fun _ hk => hk) trivial (Below.refl _ _) (Nat.le_refl _) (by simp) ?_; (case hd => rfl); (case hg => rfl); (case hr => first | (go_simp; done) | (go_simp; rfl)); (case hp => exact (Reps.one (show Kd.M (Kd.int .i64) _ _ _ (wrap64 (-x10_17)) [.int .i64 (wrap64 (-x10_17))] from rfl) (Reps.one (show Kd.M (Kd.int .i64) _ _ _ (wrap64 (-x11_17)) [.int .i64 (wrap64 (-x11_17))] from rfl) (Reps.none _ _)))); intro v333 w33 ho34 hb hg_ hnew_; clear hg_ hnew_; (first | rw [← Ny332.out] at ho34 | (simp only [Int.reduceToNat] at ho34; rw [← Ny332.out] at ho34)); replace HO_5 := a_ (Kd.R_below (ra_ HO_5.out) hb); have HO334 := a_ (Kd.R_lower (Kd.R_new' ho34 (Kd.R_lt (ra_ HO_6.out))) (below_size z7_)); replace HO_6 := a_ (Kd.R_elder' (ra_ HO_6.out) (Kd.R_base ho34) hb); replace BK319 := a_ (blk_below (g := gb319) (rb_ BK319.out) hb); replace BK327 := a_ (blk_below (g := gb327) (rb_ BK327.out) hb); replace HB := a_ (below_step z7_ hb); clear hb ho34; obtain ⟨Ao36, co36, eo36⟩ := Kd.R_slice HO334.out; subst eo36) | ((with_reducible refine gate_builtin (b := .append) (xs := #[.tmp 75, .tmp 78]) rfl ?_); at_builtin; refine Kd.R_append_rows (Kd.int .i64) (w0 := w) w.heap.size rfl (.tmp 75) (.tmp 78) 22 2 (.int .i64 0) 8 rfl Try.underlying22 info2 rfl (by decide) (by omega) u6 x6_1 y332 _ _ _ (fun k_ => nb_ k_ Ao36 y332.length co36) (fun _ => False) rfl rfl ?aO ?aR (fun _ _ h => h) (fun _ h => h.elim) ?aF ?aB ?aS ?aL ?_; (case aR => repeat (first | exact (Kd.R_reads' HO334.out).2.2 | (with_reducible refine Kd.C_alloc ?_ _) | (with_reducible refine Kd.C_drewN ?_ _) | (with_reducible refine Kd.C_drew ?_))); (case aB => exact z7_); (case aF => exact (fun k_ hk => Kd.fresh' (Kd.R_lt (ra_ HO334.out)) k_ hk)); (case aO => exact (rc_ (h := by exact Kd.R_mono HO_6.out (fun _ hk => hk.2)))); (case aS => exact (below_size z7_)); (case aL => have := LMc29.out; omega); intro v336 w35 ho hb hg hat; rw [← Ny335.out] at ho; replace HO_5 := a_ (Kd.R_over' (ra_ HO_5.out) (Kd.R_typed (ra_ HO_6.out)) (by decide) hg); replace BK319 := a_ (blk_grown (g := gb319) (rb_ BK319.out) hg (Kd.R_ne HO_6.out BK319.out (by decide))); replace BK327 := a_ (blk_grown (g := gb327) (rb_ BK327.out) hg (Kd.R_ne HO_6.out BK327.out (by decide))); replace HO334 := a_ (Kd.R_after (ok := (fun _ => True)) (ra_ HO334.out) hg hat); replace HB := a_ (hb); have HO337 := a_ (ho); clear HO_6; clear ho hb hg hat))
               repeat (go_quiet (first | ((with_reducible refine gate_dst (N := 78) rfl ?_); refine Kd.R_lit (Kd.int .i64) _ 2 ?hg (N := 78) ?hd (xs := ([wrap64 (-x10_17), wrap64 (-x11_17)] : List Int)) (inner := [.int .i64 (wrap64 (-x10_17)), .int .i64 (wrap64 (-x11_17))]) (ok := fun _ => True) (okp := fun _ => True) ?hr ?hp (fun _ hk => hk) trivial (Below.refl _ _) (Nat.le_refl _) (by simp) ?_; (case hd => rfl); (case hg => rfl); (case hr => first | (go_simp; done) | (go_simp; rfl)); (case hp => exact (Reps.one (show Kd.M (Kd.int .i64) _ _ _ (wrap64 (-x10_17)) [.int .i64 (wrap64 (-x10_17))] from rfl) (Reps.one (show Kd.M (Kd.int .i64) _ _ _ (wrap64 (-x11_17)) [.int .i64 (wrap64 (-x11_17))] from rfl) (Reps.none _ _)))); intro v333 w33 ho34 hb hg_ hnew_; clear hg_ hnew_; (first | rw [← Ny332.out] at ho34 | (simp only [Int.reduceToNat] at ho34; rw [← Ny332.out] at ho34)); replace HO_5 := a_ (Kd.R_below (ra_ HO_5.out) hb); have HO334 := a_ (Kd.R_lower (Kd.R_new' ho34 (Kd.R_lt (ra_ HO_6.out))) (below_size z7_)); replace HO_6 := a_ (Kd.R_elder' (ra_ HO_6.out) (Kd.R_base ho34) hb); replace BK319 := a_ (blk_below (g := gb319) (rb_ BK319.out) hb); replace BK327 := a_ (blk_below (g := gb327) (rb_ BK327.out) hb); replace HB := a_ (below_step z7_ hb); clear hb ho34; obtain ⟨Ao36, co36, eo36⟩ := Kd.R_slice HO334.out; subst eo36) | ((with_reducible refine gate_builtin (b := .append) (xs := #[.tmp 75, .tmp 78]) rfl ?_); at_builtin; refine Kd.R_append_rows (Kd.int .i64) (w0 := w) w.heap.size rfl (.tmp 75) (.tmp 78) 22 2 (.int .i64 0) 8 rfl Try.underlying22 info2 rfl (by decide) (by omega) u6 x6_1 y332 _ _ _ (fun k_ => nb_ k_ Ao36 y332.length co36) (fun _ => False) rfl rfl ?aO ?aR (fun _ _ h => h) (fun _ h => h.elim) ?aF ?aB ?aS ?aL ?_; (case aR => repeat (first | exact (Kd.R_reads' HO334.out).2.2 | (with_reducible refine Kd.C_alloc ?_ _) | (with_reducible refine Kd.C_drewN ?_ _) | (with_reducible refine Kd.C_drew ?_))); (case aB => exact z7_); (case aF => exact (fun k_ hk => Kd.fresh' (Kd.R_lt (ra_ HO334.out)) k_ hk)); (case aO => exact (rc_ (h := by exact Kd.R_mono HO_6.out (fun _ hk => hk.2)))); (case aS => exact (below_size z7_)); (case aL => have := LMc29.out; omega); intro v336 w35 ho hb hg hat; rw [← Ny335.out] at ho; replace HO_5 := a_ (Kd.R_over' (ra_ HO_5.out) (Kd.R_typed (ra_ HO_6.out)) (by decide) hg); replace BK319 := a_ (blk_grown (g := gb319) (rb_ BK319.out) hg (Kd.R_ne HO_6.out BK319.out (by decide))); replace BK327 := a_ (blk_grown (g := gb327) (rb_ BK327.out) hg (Kd.R_ne HO_6.out BK327.out (by decide))); replace HO334 := a_ (Kd.R_after (ok := (fun _ => True)) (ra_ HO334.out) hg hat); replace HB := a_ (hb); have HO337 := a_ (ho); clear HO_6; clear ho hb hg hat)); try go_wp2_with (first | ((with_reducible refine gate_dst (N := 78) rfl ?_); refine Kd.R_lit (Kd.int .i64) _ 2 ?hg (N := 78) ?hd (xs := ([wrap64 (-x10_17), wrap64 (-x11_17)] : List Int)) (inner := [.int .i64 (wrap64 (-x10_17)), .int .i64 (wrap64 (-x11_17))]) (ok := fun _ => True) (okp := fun _ => True) ?hr ?hp (fun _ hk => hk) trivial (Below.refl _ _) (Nat.le_refl _) (by simp) ?_; (case hd => rfl); (case hg => rfl); (case hr => first | (go_simp; done) | (go_simp; rfl)); (case hp => exact (Reps.one (show Kd.M (Kd.int .i64) _ _ _ (wrap64 (-x10_17)) [.int .i64 (wrap64 (-x10_17))] from rfl) (Reps.one (show Kd.M (Kd.int .i64) _ _ _ (wrap64 (-x11_17)) [.int .i64 (wrap64 (-x11_17))] from rfl) (Reps.none _ _)))); intro v333 w33 ho34 hb hg_ hnew_; clear hg_ hnew_; (first | rw [← Ny332.out] at ho34 | (simp only [Int.reduceToNat] at ho34; rw [← Ny332.out] at ho34)); replace HO_5 := a_ (Kd.R_below (ra_ HO_5.out) hb); have HO334 := a_ (Kd.R_lower (Kd.R_new' ho34 (Kd.R_lt (ra_ HO_6.out))) (below_size z7_)); replace HO_6 := a_ (Kd.R_elder' (ra_ HO_6.out) (Kd.R_base ho34) hb); replace BK319 := a_ (blk_below (g := gb319) (rb_ BK319.out) hb); replace BK327 := a_ (blk_below (g := gb327) (rb_ BK327.out) hb); replace HB := a_ (below_step z7_ hb); clear hb ho34; obtain ⟨Ao36, co36, eo36⟩ := Kd.R_slice HO334.out; subst eo36) | ((with_reducible refine gate_builtin (b := .append) (xs := #[.tmp 75, .tmp 78]) rfl ?_); at_builtin; refine Kd.R_append_rows (Kd.int .i64) (w0 := w) w.heap.size rfl (.tmp 75) (.tmp 78) 22 2 (.int .i64 0) 8 rfl Try.underlying22 info2 rfl (by decide) (by omega) u6 x6_1 y332 _ _ _ (fun k_ => nb_ k_ Ao36 y332.length co36) (fun _ => False) rfl rfl ?aO ?aR (fun _ _ h => h) (fun _ h => h.elim) ?aF ?aB ?aS ?aL ?_; (case aR => repeat (first | exact (Kd.R_reads' HO334.out).2.2 | (with_reducible refine Kd.C_alloc ?_ _) | (with_reducible refine Kd.C_drewN ?_ _) | (with_reducible refine Kd.C_drew ?_))); (case aB => exact z7_); (case aF => exact (fun k_ hk => Kd.fresh' (Kd.R_lt (ra_ HO334.out)) k_ hk)); (case aO => exact (rc_ (h := by exact Kd.R_mono HO_6.out (fun _ hk => hk.2)))); (case aS => exact (below_size z7_)); (case aL => have := LMc29.out; omega); intro v336 w35 ho hb hg hat; rw [← Ny335.out] at ho; replace HO_5 := a_ (Kd.R_over' (ra_ HO_5.out) (Kd.R_typed (ra_ HO_6.out)) (by decide) hg); replace BK319 := a_ (blk_grown (g := gb319) (rb_ BK319.out) hg (Kd.R_ne HO_6.out BK319.out (by decide))); replace BK327 := a_ (blk_grown (g := gb327) (rb_ BK327.out) hg (Kd.R_ne HO_6.out BK327.out (by decide))); replace HO334 := a_ (Kd.R_after (ok := (fun _ => True)) (ra_ HO334.out) hg hat); replace HB := a_ (hb); have HO337 := a_ (ho); clear HO_6; clear ho hb hg hat)))
               try (have hw1_ := Go.IntWalk.i64_left (-x10_17); have hw2_ := Go.IntWalk.i64_left (-x11_17); (go_quiet (first | ((with_reducible refine gate_dst (N := 78) rfl ?_); refine Kd.R_lit (Kd.int .i64) _ 2 ?hg (N := 78) ?hd (xs := ([wrap64 (-x10_17), wrap64 (-x11_17)] : List Int)) (inner := [.int .i64 (wrap64 (-x10_17)), .int .i64 (wrap64 (-x11_17))]) (ok := fun _ => True) (okp := fun _ => True) ?hr ?hp (fun _ hk => hk) trivial (Below.refl _ _) (Nat.le_refl _) (by simp) ?_; (case hd => rfl); (case hg => rfl); (case hr => first | (go_simp; done) | (go_simp; rfl)); (case hp => exact (Reps.one (show Kd.M (Kd.int .i64) _ _ _ (wrap64 (-x10_17)) [.int .i64 (wrap64 (-x10_17))] from rfl) (Reps.one (show Kd.M (Kd.int .i64) _ _ _ (wrap64 (-x11_17)) [.int .i64 (wrap64 (-x11_17))] from rfl) (Reps.none _ _)))); intro v333 w33 ho34 hb hg_ hnew_; clear hg_ hnew_; (first | rw [← Ny332.out] at ho34 | (simp only [Int.reduceToNat] at ho34; rw [← Ny332.out] at ho34)); replace HO_5 := a_ (Kd.R_below (ra_ HO_5.out) hb); have HO334 := a_ (Kd.R_lower (Kd.R_new' ho34 (Kd.R_lt (ra_ HO_6.out))) (below_size z7_)); replace HO_6 := a_ (Kd.R_elder' (ra_ HO_6.out) (Kd.R_base ho34) hb); replace BK319 := a_ (blk_below (g := gb319) (rb_ BK319.out) hb); replace BK327 := a_ (blk_below (g := gb327) (rb_ BK327.out) hb); replace HB := a_ (below_step z7_ hb); clear hb ho34; obtain ⟨Ao36, co36, eo36⟩ := Kd.R_slice HO334.out; subst eo36) | ((with_reducible refine gate_builtin (b := .append) (xs := #[.tmp 75, .tmp 78]) rfl ?_); at_builtin; refine Kd.R_append_rows (Kd.int .i64) (w0 := w) w.heap.size rfl (.tmp 75) (.tmp 78) 22 2 (.int .i64 0) 8 rfl Try.underlying22 info2 rfl (by decide) (by omega) u6 x6_1 y332 _ _ _ (fun k_ => nb_ k_ Ao36 y332.length co36) (fun _ => False) rfl rfl ?aO ?aR (fun _ _ h => h) (fun _ h => h.elim) ?aF ?aB ?aS ?aL ?_; (case aR => repeat (first | exact (Kd.R_reads' HO334.out).2.2 | (with_reducible refine Kd.C_alloc ?_ _) | (with_reducible refine Kd.C_drewN ?_ _) | (with_reducible refine Kd.C_drew ?_))); (case aB => exact z7_); (case aF => exact (fun k_ hk => Kd.fresh' (Kd.R_lt (ra_ HO334.out)) k_ hk)); (case aO => exact (rc_ (h := by exact Kd.R_mono HO_6.out (fun _ hk => hk.2)))); (case aS => exact (below_size z7_)); (case aL => have := LMc29.out; omega); intro v336 w35 ho hb hg hat; rw [← Ny335.out] at ho; replace HO_5 := a_ (Kd.R_over' (ra_ HO_5.out) (Kd.R_typed (ra_ HO_6.out)) (by decide) hg); replace BK319 := a_ (blk_grown (g := gb319) (rb_ BK319.out) hg (Kd.R_ne HO_6.out BK319.out (by decide))); replace BK327 := a_ (blk_grown (g := gb327) (rb_ BK327.out) hg (Kd.R_ne HO_6.out BK327.out (by decide))); replace HO334 := a_ (Kd.R_after (ok := (fun _ => True)) (ra_ HO334.out) hg hat); replace HB := a_ (hb); have HO337 := a_ (ho); clear HO_6; clear ho hb hg hat))); (try go_wp2_with (first | ((with_reducible refine gate_dst (N := 78) rfl ?_); refine Kd.R_lit (Kd.int .i64) _ 2 ?hg (N := 78) ?hd (xs := ([wrap64 (-x10_17), wrap64 (-x11_17)] : List Int)) (inner := [.int .i64 (wrap64 (-x10_17)), .int .i64 (wrap64 (-x11_17))]) (ok := fun _ => True) (okp := fun _ => True) ?hr ?hp (fun _ hk => hk) trivial (Below.refl _ _) (Nat.le_refl _) (by simp) ?_; (case hd => rfl); (case hg => rfl); (case hr => first | (go_simp; done) | (go_simp; rfl)); (case hp => exact (Reps.one (show Kd.M (Kd.int .i64) _ _ _ (wrap64 (-x10_17)) [.int .i64 (wrap64 (-x10_17))] from rfl) (Reps.one (show Kd.M (Kd.int .i64) _ _ _ (wrap64 (-x11_17)) [.int .i64 (wrap64 (-x11_17))] from rfl) (Reps.none _ _)))); intro v333 w33 ho34 hb hg_ hnew_; clear hg_ hnew_; (first | rw [← Ny332.out] at ho34 | (simp only [Int.reduceToNat] at ho34; rw [← Ny332.out] at ho34)); replace HO_5 := a_ (Kd.R_below (ra_ HO_5.out) hb); have HO334 := a_ (Kd.R_lower (Kd.R_new' ho34 (Kd.R_lt (ra_ HO_6.out))) (below_size z7_)); replace HO_6 := a_ (Kd.R_elder' (ra_ HO_6.out) (Kd.R_base ho34) hb); replace BK319 := a_ (blk_below (g := gb319) (rb_ BK319.out) hb); replace BK327 := a_ (blk_below (g := gb327) (rb_ BK327.out) hb); replace HB := a_ (below_step z7_ hb); clear hb ho34; obtain ⟨Ao36, co36, eo36⟩ := Kd.R_slice HO334.out; subst eo36) | ((with_reducible refine gate_builtin (b := .append) (xs := #[.tmp 75, .tmp 78]) rfl ?_); at_builtin; refine Kd.R_append_rows (Kd.int .i64) (w0 := w) w.heap.size rfl (.tmp 75) (.tmp 78) 22 2 (.int .i64 0) 8 rfl Try.underlying22 info2 rfl (by decide) (by omega) u6 x6_1 y332 _ _ _ (fun k_ => nb_ k_ Ao36 y332.length co36) (fun _ => False) rfl rfl ?aO ?aR (fun _ _ h => h) (fun _ h => h.elim) ?aF ?aB ?aS ?aL ?_; (case aR => repeat (first | exact (Kd.R_reads' HO334.out).2.2 | (with_reducible refine Kd.C_alloc ?_ _) | (with_reducible refine Kd.C_drewN ?_ _) | (with_reducible refine Kd.C_drew ?_))); (case aB => exact z7_); (case aF => exact (fun k_ hk => Kd.fresh' (Kd.R_lt (ra_ HO334.out)) k_ hk)); (case aO => exact (rc_ (h := by exact Kd.R_mono HO_6.out (fun _ hk => hk.2)))); (case aS => exact (below_size z7_)); (case aL => have := LMc29.out; omega); intro v336 w35 ho hb hg hat; rw [← Ny335.out] at ho; replace HO_5 := a_ (Kd.R_over' (ra_ HO_5.out) (Kd.R_typed (ra_ HO_6.out)) (by decide) hg); replace BK319 := a_ (blk_grown (g := gb319) (rb_ BK319.out) hg (Kd.R_ne HO_6.out BK319.out (by decide))); replace BK327 := a_ (blk_grown (g := gb327) (rb_ BK327.out) hg (Kd.R_ne HO_6.out BK327.out (by decide))); replace HO334 := a_ (Kd.R_after (ok := (fun _ => True)) (ra_ HO334.out) hg hat); replace HB := a_ (hb); have HO337 := a_ (ho); clear HO_6; clear ho hb hg hat))))
               go_roundg kj17
               case measure => have := HK1.out; have := HJ17.out; omega
               case rel => exact ⟨(y335), (wrap64 (x7_1 + 1)), z81_, H', ⟨by have := HK1.out; have := HJ17.out; omega⟩, ⟨z35_⟩, ⟨by (with_reducible repeat (first | apply Kd.R_alloc | apply Kd.R_drewN | apply Kd.R_drew)); exact Kd.R_mono HO337.out (fun _ hk => trivial)⟩, ⟨z55_⟩, ⟨z7_⟩⟩
              ·rw [if_neg c29] at H
               exact absurd H (by simp)
             ·rw [if_neg c28] at H
              have c28b0 : (((rd_T102 t320 x7_1).f3) != ((rd l0_4 ji11) == 1)) = false := by simpa using c28
              (try (have c28b1 : decide (((rd_T102 t320 x7_1).f3) = ((rd l0_4 ji11) == 1)) = true := by simpa using c28))
              (try (have c28b2 : (((rd_T102 t320 x7_1).f3) == ((rd l0_4 ji11) == 1)) = true := by simpa using c28))
              clear c28
              obtain ⟨y338, hy338⟩ : ∃ y_ : List Int, y_ = (([x10_17, x11_17] : List Int)) := ⟨_, rfl⟩
              replace H : (if x6_1.length + y338.length < 17592186044416 then (spec_l05Read.l0 kj17 t320 (x6_1 ++ y338) (wrap64 (x7_1 + 1)) a0_0 a0_1 l0_2 l0_3 l0_4) else (none)) = some r := rh_ hy338 H
              have Ny338 := Aside0.mk hy338
              clear hy338
              by_cases c37 : x6_1.length + y338.length < 17592186044416
              ·rw [if_pos c37] at H
               have LMc37 := Aside0.mk c37
               clear c37
               obtain ⟨y341, hy341⟩ : ∃ y_ : List Int, y_ = (x6_1 ++ y338) := ⟨_, rfl⟩
               replace H : (spec_l05Read.l0 kj17 t320 y341 (wrap64 (x7_1 + 1)) a0_0 a0_1 l0_2 l0_3 l0_4) = some r := rh_ hy341 H
               have Ny341 := Aside0.mk hy341
               clear hy341
               have H' := Aside0.mk H
               clear H
               have hnb38 := NB327_319.out
               have hnc38 := NB319_327.out
               obtain ⟨hcz39_0, hcz39_1, hcz39_2, hcz39_3, hfz39_0, hfz39_1, hfz39_2, hfz39_3⟩ := cz4_ (w := wc) BK327.out
               obtain ⟨hcz40_0, hcz40_1, hcz40_2, hcz40_3, hcz40_4, hfz40_0, hfz40_1, hfz40_2, hfz40_3, hfz40_4⟩ := cz5_ (w := wc) BK319.out
               have p331 : 0 ≤ (ji11 : Int) := of_decide_eq_true z80_
               have q331 : ji11 < (l0_4.length : Int) := of_decide_eq_true z80_
               obtain ⟨ad331, e331, hx331_0⟩ := Kd.at_int HR0_4.out ji11 p331 q331
               cases e331
               replace hx331_0 := (HB.out.cell (World.block_lt_of_cell? _ _ hx331_0)).trans hx331_0
               replace p331 := eq_true p331
               replace q331 := eq_true q331
               go_wp2_with (first | ((with_reducible refine gate_dst (N := 78) rfl ?_); refine Kd.R_lit (Kd.int .i64) _ 2 ?hg (N := 78) ?hd (xs := ([x10_17, x11_17] : List Int)) (inner := [.int .i64 x10_17, .int .i64 x11_17]) (ok := fun _ => True) (okp := fun _ => True) ?hr ?hp (fun _ hk => hk) trivial (Below.refl _ _) (Nat.le_refl _) (by simp) ?_; (case hd => rfl); (case hg => rfl); (case hr => first | (go_simp; done) | (go_simp; rfl)); (case hp => exact (Reps.one (show Kd.M (Kd.int .i64) _ _ _ x10_17 [.int .i64 x10_17] from rfl) (Reps.one (show Kd.M (Kd.int .i64) _ _ _ x11_17 [.int .i64 x11_17] from rfl) (Reps.none _ _)))); intro v339 w41 ho42 hb hg_ hnew_; clear hg_ hnew_; (first | rw [← Ny338.out] at ho42 | (simp only [Int.reduceToNat] at ho42; rw [← Ny338.out] at ho42)); replace HO_5 := a_ (Kd.R_below (ra_ HO_5.out) hb); have HO340 := a_ (Kd.R_lower (Kd.R_new' ho42 (Kd.R_lt (ra_ HO_6.out))) (below_size z7_)); replace HO_6 := a_ (Kd.R_elder' (ra_ HO_6.out) (Kd.R_base ho42) hb); replace BK319 := a_ (blk_below (g := gb319) (rb_ BK319.out) hb); replace BK327 := a_ (blk_below (g := gb327) (rb_ BK327.out) hb); replace HB := a_ (below_step z7_ hb); clear hb ho42; obtain ⟨Ao44, co44, eo44⟩ := Kd.R_slice HO340.out; subst eo44) | ((with_reducible refine gate_builtin (b := .append) (xs := #[.tmp 75, .tmp 78]) rfl ?_); at_builtin; refine Kd.R_append_rows (Kd.int .i64) (w0 := w) w.heap.size rfl (.tmp 75) (.tmp 78) 22 2 (.int .i64 0) 8 rfl Try.underlying22 info2 rfl (by decide) (by omega) u6 x6_1 y338 _ _ _ (fun k_ => nb_ k_ Ao44 y338.length co44) (fun _ => False) rfl rfl ?aO ?aR (fun _ _ h => h) (fun _ h => h.elim) ?aF ?aB ?aS ?aL ?_; (case aR => repeat (first | exact (Kd.R_reads' HO340.out).2.2 | (with_reducible refine Kd.C_alloc ?_ _) | (with_reducible refine Kd.C_drewN ?_ _) | (with_reducible refine Kd.C_drew ?_))); (case aB => exact z7_); (case aF => exact (fun k_ hk => Kd.fresh' (Kd.R_lt (ra_ HO340.out)) k_ hk)); (case aO => exact (rc_ (h := by exact Kd.R_mono HO_6.out (fun _ hk => hk.2)))); (case aS => exact (below_size z7_)); (case aL => have := LMc37.out; omega); intro v342 w43 ho hb hg hat; rw [← Ny341.out] at ho; replace HO_5 := a_ (Kd.R_over' (ra_ HO_5.out) (Kd.R_typed (ra_ HO_6.out)) (by decide) hg); replace BK319 := a_ (blk_grown (g := gb319) (rb_ BK319.out) hg (Kd.R_ne HO_6.out BK319.out (by decide))); replace BK327 := a_ (blk_grown (g := gb327) (rb_ BK327.out) hg (Kd.R_ne HO_6.out BK327.out (by decide))); replace HO340 := a_ (Kd.R_after (ok := (fun _ => True)) (ra_ HO340.out) hg hat); replace HB := a_ (hb); have HO343 := a_ (ho); clear HO_6; clear ho hb hg hat))
               repeat (go_quiet (first | ((with_reducible refine gate_dst (N := 78) rfl ?_); refine Kd.R_lit (Kd.int .i64) _ 2 ?hg (N := 78) ?hd (xs := ([x10_17, x11_17] : List Int)) (inner := [.int .i64 x10_17, .int .i64 x11_17]) (ok := fun _ => True) (okp := fun _ => True) ?hr ?hp (fun _ hk => hk) trivial (Below.refl _ _) (Nat.le_refl _) (by simp) ?_; (case hd => rfl); (case hg => rfl); (case hr => first | (go_simp; done) | (go_simp; rfl)); (case hp => exact (Reps.one (show Kd.M (Kd.int .i64) _ _ _ x10_17 [.int .i64 x10_17] from rfl) (Reps.one (show Kd.M (Kd.int .i64) _ _ _ x11_17 [.int .i64 x11_17] from rfl) (Reps.none _ _)))); intro v339 w41 ho42 hb hg_ hnew_; clear hg_ hnew_; (first | rw [← Ny338.out] at ho42 | (simp only [Int.reduceToNat] at ho42; rw [← Ny338.out] at ho42)); replace HO_5 := a_ (Kd.R_below (ra_ HO_5.out) hb); have HO340 := a_ (Kd.R_lower (Kd.R_new' ho42 (Kd.R_lt (ra_ HO_6.out))) (below_size z7_)); replace HO_6 := a_ (Kd.R_elder' (ra_ HO_6.out) (Kd.R_base ho42) hb); replace BK319 := a_ (blk_below (g := gb319) (rb_ BK319.out) hb); replace BK327 := a_ (blk_below (g := gb327) (rb_ BK327.out) hb); replace HB := a_ (below_step z7_ hb); clear hb ho42; obtain ⟨Ao44, co44, eo44⟩ := Kd.R_slice HO340.out; subst eo44) | ((with_reducible refine gate_builtin (b := .append) (xs := #[.tmp 75, .tmp 78]) rfl ?_); at_builtin; refine Kd.R_append_rows (Kd.int .i64) (w0 := w) w.heap.size rfl (.tmp 75) (.tmp 78) 22 2 (.int .i64 0) 8 rfl Try.underlying22 info2 rfl (by decide) (by omega) u6 x6_1 y338 _ _ _ (fun k_ => nb_ k_ Ao44 y338.length co44) (fun _ => False) rfl rfl ?aO ?aR (fun _ _ h => h) (fun _ h => h.elim) ?aF ?aB ?aS ?aL ?_; (case aR => repeat (first | exact (Kd.R_reads' HO340.out).2.2 | (with_reducible refine Kd.C_alloc ?_ _) | (with_reducible refine Kd.C_drewN ?_ _) | (with_reducible refine Kd.C_drew ?_))); (case aB => exact z7_); (case aF => exact (fun k_ hk => Kd.fresh' (Kd.R_lt (ra_ HO340.out)) k_ hk)); (case aO => exact (rc_ (h := by exact Kd.R_mono HO_6.out (fun _ hk => hk.2)))); (case aS => exact (below_size z7_)); (case aL => have := LMc37.out; omega); intro v342 w43 ho hb hg hat; rw [← Ny341.out] at ho; replace HO_5 := a_ (Kd.R_over' (ra_ HO_5.out) (Kd.R_typed (ra_ HO_6.out)) (by decide) hg); replace BK319 := a_ (blk_grown (g := gb319) (rb_ BK319.out) hg (Kd.R_ne HO_6.out BK319.out (by decide))); replace BK327 := a_ (blk_grown (g := gb327) (rb_ BK327.out) hg (Kd.R_ne HO_6.out BK327.out (by decide))); replace HO340 := a_ (Kd.R_after (ok := (fun _ => True)) (ra_ HO340.out) hg hat); replace HB := a_ (hb); have HO343 := a_ (ho); clear HO_6; clear ho hb hg hat)); try go_wp2_with (first | ((with_reducible refine gate_dst (N := 78) rfl ?_); refine Kd.R_lit (Kd.int .i64) _ 2 ?hg (N := 78) ?hd (xs := ([x10_17, x11_17] : List Int)) (inner := [.int .i64 x10_17, .int .i64 x11_17]) (ok := fun _ => True) (okp := fun _ => True) ?hr ?hp (fun _ hk => hk) trivial (Below.refl _ _) (Nat.le_refl _) (by simp) ?_; (case hd => rfl); (case hg => rfl); (case hr => first | (go_simp; done) | (go_simp; rfl)); (case hp => exact (Reps.one (show Kd.M (Kd.int .i64) _ _ _ x10_17 [.int .i64 x10_17] from rfl) (Reps.one (show Kd.M (Kd.int .i64) _ _ _ x11_17 [.int .i64 x11_17] from rfl) (Reps.none _ _)))); intro v339 w41 ho42 hb hg_ hnew_; clear hg_ hnew_; (first | rw [← Ny338.out] at ho42 | (simp only [Int.reduceToNat] at ho42; rw [← Ny338.out] at ho42)); replace HO_5 := a_ (Kd.R_below (ra_ HO_5.out) hb); have HO340 := a_ (Kd.R_lower (Kd.R_new' ho42 (Kd.R_lt (ra_ HO_6.out))) (below_size z7_)); replace HO_6 := a_ (Kd.R_elder' (ra_ HO_6.out) (Kd.R_base ho42) hb); replace BK319 := a_ (blk_below (g := gb319) (rb_ BK319.out) hb); replace BK327 := a_ (blk_below (g := gb327) (rb_ BK327.out) hb); replace HB := a_ (below_step z7_ hb); clear hb ho42; obtain ⟨Ao44, co44, eo44⟩ := Kd.R_slice HO340.out; subst eo44) | ((with_reducible refine gate_builtin (b := .append) (xs := #[.tmp 75, .tmp 78]) rfl ?_); at_builtin; refine Kd.R_append_rows (Kd.int .i64) (w0 := w) w.heap.size rfl (.tmp 75) (.tmp 78) 22 2 (.int .i64 0) 8 rfl Try.underlying22 info2 rfl (by decide) (by omega) u6 x6_1 y338 _ _ _ (fun k_ => nb_ k_ Ao44 y338.length co44) (fun _ => False) rfl rfl ?aO ?aR (fun _ _ h => h) (fun _ h => h.elim) ?aF ?aB ?aS ?aL ?_; (case aR => repeat (first | exact (Kd.R_reads' HO340.out).2.2 | (with_reducible refine Kd.C_alloc ?_ _) | (with_reducible refine Kd.C_drewN ?_ _) | (with_reducible refine Kd.C_drew ?_))); (case aB => exact z7_); (case aF => exact (fun k_ hk => Kd.fresh' (Kd.R_lt (ra_ HO340.out)) k_ hk)); (case aO => exact (rc_ (h := by exact Kd.R_mono HO_6.out (fun _ hk => hk.2)))); (case aS => exact (below_size z7_)); (case aL => have := LMc37.out; omega); intro v342 w43 ho hb hg hat; rw [← Ny341.out] at ho; replace HO_5 := a_ (Kd.R_over' (ra_ HO_5.out) (Kd.R_typed (ra_ HO_6.out)) (by decide) hg); replace BK319 := a_ (blk_grown (g := gb319) (rb_ BK319.out) hg (Kd.R_ne HO_6.out BK319.out (by decide))); replace BK327 := a_ (blk_grown (g := gb327) (rb_ BK327.out) hg (Kd.R_ne HO_6.out BK327.out (by decide))); replace HO340 := a_ (Kd.R_after (ok := (fun _ => True)) (ra_ HO340.out) hg hat); replace HB := a_ (hb); have HO343 := a_ (ho); clear HO_6; clear ho hb hg hat)))
               go_roundg kj17
               case measure => have := HK1.out; have := HJ17.out; omega
               case rel => exact ⟨(y341), (wrap64 (x7_1 + 1)), z81_, H', ⟨by have := HK1.out; have := HJ17.out; omega⟩, ⟨z35_⟩, ⟨by (with_reducible repeat (first | apply Kd.R_alloc | apply Kd.R_drewN | apply Kd.R_drew)); exact Kd.R_mono HO343.out (fun _ hk => trivial)⟩, ⟨z55_⟩, ⟨z7_⟩⟩
              ·rw [if_neg c37] at H
               exact absurd H (by simp)
            ·rw [if_neg c27] at H
             exact absurd H (by simp)
           ·rw [if_neg c26] at H
            exact absurd H (by simp)
        ·rw [if_neg c16] at H
         exact absurd H (by simp)
       ·rw [if_neg c15] at H
        exact absurd H (by simp)
      ·rw [if_neg c13] at H
       exact absurd H (by simp)
     ·rw [if_neg c12] at H
      exact absurd H (by simp)
    ·rw [if_neg c10] at H
     exact absurd H (by simp)
   ·rw [if_neg c9] at H
    have c9b0 : decide (x7_1 < (t320.length : Int)) = false := decide_eq_false c9
    clear c9
    obtain rfl := Option.some.inj H
    obtain ⟨Ao45, co45, eo45⟩ := Kd.R_slice HO_5.out
    subst eo45
    go_wp2
    repeat (go_quiet (fail); try go_wp2)
    go_ret
    exact ⟨_, z32_, z69_, z23_⟩

end Go.Proofs.Ytkpidjmhdagkfaa.QFnExactSchemesFor
-- halved
