-- Written by own_print.py of this session's repo over the kit's print (its output, turned at some places).
import Derived.Test.YtkpidjmhdagkfaaGreatDoorQFnExactIsRightFormx0
import Derived.Test.YtkpidjmhdagkfaaGreatDoorQFnExactIsRightFormx3
import Derived.Test.YtkpidjmhdagkfaaGreatDoorQFnExactIsRightFormx4
import Derived.Test.YtkpidjmhdagkfaaGreatDoorQFnExactIsRightFormx5
namespace Go.Proofs.YtkpidjmhdagkfaaGreatDoor.QFnExactIsRightForm
open Go.RowKit Go.Proofs.YtkpidjmhdagkfaaGreatDoorW.PrintWords Go.Proofs.YtkpidjmhdagkfaaGreatDoorW.PrintLast Go.Proofs.YtkpidjmhdagkfaaGreatDoorW.PrintMore
attribute [local go_sem] max2_int min2_int max_two min_two max_three min_three max_four min_four   -- for this text's walks alone
set_option linter.unusedVariables false
set_option linter.unusedSimpArgs false

/-! ### spec_l04Leaves: function 82 -/
mutual
def spec_l04Leaves.l0 : Nat → ByteArray → List (List (List (S64))) → Int → Option ((List (S64)))
 | 0, _, _, _ => none
 | k + 1, x2, x7, x8 => if x8 < (x2.size : Int) then (if 0 ≤ x8 then (if (bt x2 x8) = 76 then (spec_l04Leaves.j1 k x2 x7 x8 true) else (spec_l04Leaves.j1 k x2 x7 x8 ((bt x2 x8) == 82))) else (none)) else (if 0 < (x7.length : Int) then (if 0 < ((rd_L4 x7 0).length : Int) then (some (rd_L3 (rd_L4 x7 0) 0)) else (none)) else (none))
def spec_l04Leaves.j1 : Nat → ByteArray → List (List (List (S64))) → Int → Bool → Option ((List (S64)))
 | 0, _, _, _, _ => none
 | k + 1, x2, x7, x8, x27 => if x27 = true then (if 0 ≤ x8 then (if x8 < (x2.size : Int) then ((spec_l04Along.f k x7 (bt x2 x8)).bind fun t244 => (spec_l04Leaves.l0 k x2 t244 (wrap64 (x8 + 1)))) else (none)) else (none)) else (if 0 ≤ x8 then (if x8 < (x2.size : Int) then ((spec_l04Across.f k x7 (bt x2 x8)).bind fun t247 => (spec_l04Leaves.l0 k x2 t247 (wrap64 (x8 + 1)))) else (none)) else (none))
end
def spec_l04Leaves.f (k : Nat) (a0 : Int) (a1 : Int) (a2 : ByteArray) : Option ((List (S64))) := (spec_l04Start.f k a0 a1).bind fun t239 => (spec_l04Leaves.l0 k a2 t239 0)
theorem spec_l04Leaves.mono_l : ∀ k, (∀ y0 y1 y2, LeO (spec_l04Leaves.l0 k y0 y1 y2) (spec_l04Leaves.l0 (k + 1) y0 y1 y2)) ∧ (∀ y0 y1 y2 y3, LeO (spec_l04Leaves.j1 k y0 y1 y2 y3) (spec_l04Leaves.j1 (k + 1) y0 y1 y2 y3))
 | 0 => ⟨fun _ _ _ r h => by simp [spec_l04Leaves.l0] at h, fun _ _ _ _ r h => by simp [spec_l04Leaves.j1] at h⟩
 | k + 1 => by
  obtain ⟨ih0, ih1⟩ := spec_l04Leaves.mono_l k
  refine ⟨?_, ?_⟩
  ·intro y0 y1 y2
   unfold spec_l04Leaves.l0
   repeat' first
   | (with_reducible exact ih0 _ _ _)
   | (with_reducible exact ih1 _ _ _ _)
   | (with_reducible exact spec_l04Across.mono _ _ _)
   | (with_reducible exact spec_l04Along.mono _ _ _)
   | (with_reducible exact spec_l04Start.mono _ _ _)
   | (with_reducible exact LeO.refl _)
   | (with_reducible exact LeO.none _)
   | (with_reducible refine LeO.ite ?_ ?_)
   | (with_reducible refine LeO.bind ?_ (fun _ => ?_))
   | exact ih0 _ _ _
   | exact ih1 _ _ _ _
   | exact spec_l04Across.mono _ _ _
   | exact spec_l04Along.mono _ _ _
   | exact spec_l04Start.mono _ _ _
   | exact LeO.none _
   | refine LeO.ite ?_ ?_
   | refine LeO.bind ?_ (fun _ => ?_)
  ·intro y0 y1 y2 y3
   unfold spec_l04Leaves.j1
   repeat' first
   | (with_reducible exact ih0 _ _ _)
   | (with_reducible exact ih1 _ _ _ _)
   | (with_reducible exact spec_l04Across.mono _ _ _)
   | (with_reducible exact spec_l04Along.mono _ _ _)
   | (with_reducible exact spec_l04Start.mono _ _ _)
   | (with_reducible exact LeO.refl _)
   | (with_reducible exact LeO.none _)
   | (with_reducible refine LeO.ite ?_ ?_)
   | (with_reducible refine LeO.bind ?_ (fun _ => ?_))
   | exact ih0 _ _ _
   | exact ih1 _ _ _ _
   | exact spec_l04Across.mono _ _ _
   | exact spec_l04Along.mono _ _ _
   | exact spec_l04Start.mono _ _ _
   | exact LeO.none _
   | refine LeO.ite ?_ ?_
   | refine LeO.bind ?_ (fun _ => ?_)
theorem spec_l04Leaves.mono : ∀ a0 a1 a2 k, LeO (spec_l04Leaves.f k a0 a1 a2) (spec_l04Leaves.f (k + 1) a0 a1 a2) := by
 intro a0 a1 a2 k
 obtain ⟨ih0, ih1⟩ := spec_l04Leaves.mono_l k
 unfold spec_l04Leaves.f
 repeat' first
   | (with_reducible exact ih0 _ _ _)
   | (with_reducible exact ih1 _ _ _ _)
   | (with_reducible exact spec_l04Across.mono _ _ _)
   | (with_reducible exact spec_l04Along.mono _ _ _)
   | (with_reducible exact spec_l04Start.mono _ _ _)
   | (with_reducible exact LeO.refl _)
   | (with_reducible exact LeO.none _)
   | (with_reducible refine LeO.ite ?_ ?_)
   | (with_reducible refine LeO.bind ?_ (fun _ => ?_))
   | exact ih0 _ _ _
   | exact ih1 _ _ _ _
   | exact spec_l04Across.mono _ _ _
   | exact spec_l04Along.mono _ _ _
   | exact spec_l04Start.mono _ _ _
   | exact LeO.none _
   | refine LeO.ite ?_ ?_
   | refine LeO.bind ?_ (fun _ => ?_)
set_option maxHeartbeats 8000000 in
set_option maxRecDepth 100000 in
theorem spec_l04Leaves.calls (k : Nat) (a0 : Int) (a1 : Int) (a2 : ByteArray) (r : List (S64)) (w : World) (h : spec_l04Leaves.f k a0 a1 a2 = some r) :
  Calls Tryz.prog 82 #[.int .i64 a0, .int .i64 a1, .string a2] w fun e w' => ∃ v0_ : Value, e = .returned (v0_) ∧ Kd.R k64 64 w' w.heap.size (fun _ => True) v0_ r ∧ Below w.heap.size w w' := by
 have HB := a_ (Below.refl w.heap.size w)
 have H : ((spec_l04Start.f k a0 a1).bind fun t239 => (spec_l04Leaves.l0 k a2 t239 0)) = some r := h
 clear h
 replace H := Option.bind_eq_some_iff.mp H
 obtain ⟨t239, A40, H⟩ := H
 replace H : (spec_l04Leaves.l0 k a2 t239 0) = some r := H
 have A4 := Aside0.mk A40
 clear A40
 have H' := Aside0.mk H
 clear H
 go_enter Tryz.func82, Tryz.ntmps82
 go_wp2_with (first | ((with_reducible refine gate_callee (f := 97) rfl ?_); refine goesL_ (some 11) rfl rfl Tryz.func97 (by kernel_rfl) rfl #[.int .i64 a0, .int .i64 a1] rfl z34_ ?_; (with_reducible refine (spec_l04Start.calls k a0 a1 t239 _ A4.out).mono ?_); rintro e w5 ⟨v240, rfl, ho0, hb⟩; refine ⟨_, rfl, ?_⟩; have HO241 := a_ (Kd.R_lower ho0 (below_size z32_)); replace HB := a_ (below_step z32_ hb); (try clear hb); (try clear hb2); (try clear hk); (try clear hi); (try clear ho0)))
 go_loopg [7, 8] k (fun kq v7 v8 w' => ∃ (x7_1 : List (List (List (S64)))) (x8_1 : Int), v8 = .int .i64 x8_1 ∧ Aside0 (spec_l04Leaves.l0 kq a2 x7_1 x8_1 = some r) ∧ Aside0 (kq ≤ k) ∧ Aside0 (Kd.R (Kd.slice 61 (Kd.slice 64 k64)) 96 w' w.heap.size (fun _ => True) v7 x7_1) ∧ Aside0 (Below w.heap.size w w'))
 case atStart => exact ⟨(t239), (0), z76_, H', ⟨Nat.le_refl _⟩, ⟨by (with_reducible repeat (first | apply Kd.R_alloc | apply Kd.R_drewN | apply Kd.R_drew)); exact HO241.out⟩, ⟨z32_⟩⟩
 case round =>
  clear H'
  obtain ⟨x7_1, x8_1, rfl, HA, HK1, HO_7, HB⟩ := hrel
  cases gk with
  | zero => exact absurd HA.out (by simp [spec_l04Leaves.l0])
  | succ k1 =>
   have H := HA.out
   clear HA
   simp only [spec_l04Leaves.l0] at H
   by_cases c6 : x8_1 < (a2.size : Int)
   ·rw [if_pos c6] at H
    have c6b0 : decide (x8_1 < (a2.size : Int)) = true := decide_eq_true c6
    clear c6
    have HC7 := Aside0.mk H
    clear H
    go_upto_region 5 with (fail)
    go_cut [27] (fun v27 wc => ∃ (kq : Nat) (x27_6 : Bool), v27 = .bool x27_6 ∧ Aside0 (spec_l04Leaves.j1 kq a2 x7_1 x8_1 x27_6 = some r) ∧ Aside0 (kq ≤ k1) ∧ Aside0 (Kd.R (Kd.slice 61 (Kd.slice 64 k64)) 96 wc w.heap.size (fun _ => True) u7 x7_1) ∧ Aside0 (Below w.heap.size w wc))
    case first =>
     have H := HC7.out
     clear HC7
     by_cases c8 : 0 ≤ x8_1
     ·rw [if_pos c8] at H
      have c8b0 : decide (0 ≤ x8_1) = true := decide_eq_true c8
      clear c8
      (first | rw [c8b0] | (simp only [i64_w, i32_w]; rw [c8b0]) | skip)
      by_cases c10 : (bt a2 x8_1) = 76
      ·rw [if_pos c10] at H
       have c10b0 : ((bt a2 x8_1) == 76) = true := beq_iff_eq.mpr c10
       have c10b1 : ((bt a2 x8_1) != 76) = false := bne_eq_false_iff_eq.mpr c10
       clear c10
       have H' := Aside0.mk H
       clear H
       have p9 : 0 ≤ (x8_1 : Int) := of_decide_eq_true z75_
       have q9 : x8_1 < (a2.size : Int) := of_decide_eq_true z75_
       have hx9 := bt_at a2 x8_1
       replace p9 := eq_true p9
       replace q9 := eq_true q9
       go_wp2
       go_meet
       case rel => exact ⟨_, (true), z76_, H', ⟨z74_⟩, ⟨by (with_reducible repeat (first | apply Kd.R_alloc | apply Kd.R_drewN | apply Kd.R_drew)); exact HO_7.out⟩, ⟨z32_⟩⟩
      ·rw [if_neg c10] at H
       have c10b0 : ((bt a2 x8_1) == 76) = false := beq_eq_false_iff_ne.mpr c10
       have c10b1 : ((bt a2 x8_1) != 76) = true := bne_iff_ne.mpr c10
       have H' := Aside0.mk H
       clear H
       have p9 : 0 ≤ (x8_1 : Int) := of_decide_eq_true z75_
       have q9 : x8_1 < (a2.size : Int) := of_decide_eq_true z75_
       have hx9 := bt_at a2 x8_1
       replace p9 := eq_true p9
       replace q9 := eq_true q9
       have p11 : 0 ≤ (x8_1 : Int) := of_decide_eq_true z75_
       have q11 : x8_1 < (a2.size : Int) := of_decide_eq_true z75_
       have hx11 := bt_at a2 x8_1
       replace p11 := eq_true p11
       replace q11 := eq_true q11
       go_wp2
       go_meet
       case rel => exact ⟨_, (((bt a2 x8_1) == 82)), z76_, H', ⟨z74_⟩, ⟨by (with_reducible repeat (first | apply Kd.R_alloc | apply Kd.R_drewN | apply Kd.R_drew)); exact HO_7.out⟩, ⟨z32_⟩⟩
     ·rw [if_neg c8] at H
      exact absurd H (by simp)
    case rest =>
     clear HC7; try clear c6b0
     obtain ⟨kq, x27_6, rfl, HA, HJ6, HO_7, HB⟩ := hcut
     cases kq with
     | zero => exact absurd HA.out (by simp [spec_l04Leaves.j1])
     | succ kj6 =>
      have H := HA.out
      clear HA
      simp only [spec_l04Leaves.j1] at H
      by_cases c12 : x27_6 = true
      ·subst c12
       have H1 : (if 0 ≤ x8_1 then (if x8_1 < (a2.size : Int) then ((spec_l04Along.f kj6 x7_1 (bt a2 x8_1)).bind fun t244 => (spec_l04Leaves.l0 kj6 a2 t244 (wrap64 (x8_1 + 1)))) else (none)) else (none)) = some r := by rw [if_pos rfl] at H; exact H
       clear H
       have H := H1
       clear H1
       by_cases c13 : 0 ≤ x8_1
       ·rw [if_pos c13] at H
        have c13b0 : decide (0 ≤ x8_1) = true := decide_eq_true c13
        clear c13
        by_cases c14 : x8_1 < (a2.size : Int)
        ·rw [if_pos c14] at H
         have c14b0 : decide (x8_1 < (a2.size : Int)) = true := decide_eq_true c14
         clear c14
         replace H := Option.bind_eq_some_iff.mp H
         obtain ⟨t244, A160, H⟩ := H
         replace H : (spec_l04Leaves.l0 kj6 a2 t244 (wrap64 (x8_1 + 1))) = some r := H
         have A16 := Aside0.mk A160
         clear A160
         have H' := Aside0.mk H
         clear H
         have p15 : 0 ≤ (x8_1 : Int) := of_decide_eq_true z75_
         have q15 : x8_1 < (a2.size : Int) := of_decide_eq_true z75_
         have hx15 := bt_at a2 x8_1
         replace p15 := eq_true p15
         replace q15 := eq_true q15
         obtain ⟨Ao17, co17, eo17⟩ := Kd.R_slice HO_7.out
         subst eo17
         go_wp2_with (first | ((with_reducible refine gate_callee (f := 98) rfl ?_); refine goesL_ (some 32) rfl rfl Tryz.func98 (by kernel_rfl) rfl #[.slice Ao17 x7_1.length co17, .int .u8 (bt a2 x8_1)] rfl z34_ ?_; (with_reducible refine (spec_l04Along.calls kj6 _ _ x7_1 (bt a2 x8_1) t244 _ ?side1 ?side2 A16.out).mono ?_); (case side1 => exact z15_); (case side2 => exact (Kd.R_reads' HO_7.out).2.1); rintro e w18 ⟨v245, rfl, ho0, hb⟩; refine ⟨_, rfl, ?_⟩; have HO246 := a_ (Kd.R_lower (Kd.R_new' ho0 (Kd.R_lt (ra_ HO_7.out))) (below_size z32_)); replace HO_7 := a_ (Kd.R_elder' (ra_ HO_7.out) (Kd.R_base ho0) hb); replace HB := a_ (below_step z32_ hb); (try clear hb); (try clear hb2); (try clear hk); (try clear hi); (try clear ho0)))
         go_roundg kj6
         case measure => have := HK1.out; have := HJ6.out; omega
         case rel => exact ⟨(t244), (wrap64 (x8_1 + 1)), z76_, H', ⟨by have := HK1.out; have := HJ6.out; omega⟩, ⟨by (with_reducible repeat (first | apply Kd.R_alloc | apply Kd.R_drewN | apply Kd.R_drew)); exact Kd.R_mono HO246.out (fun _ hk => trivial)⟩, ⟨z32_⟩⟩
        ·rw [if_neg c14] at H
         exact absurd H (by simp)
       ·rw [if_neg c13] at H
        exact absurd H (by simp)
      ·replace c12 := Bool.eq_false_iff.mpr c12
       subst c12
       have H1 : (if 0 ≤ x8_1 then (if x8_1 < (a2.size : Int) then ((spec_l04Across.f kj6 x7_1 (bt a2 x8_1)).bind fun t247 => (spec_l04Leaves.l0 kj6 a2 t247 (wrap64 (x8_1 + 1)))) else (none)) else (none)) = some r := by rw [if_neg (show ¬ (false = true) by decide)] at H; exact H
       clear H
       have H := H1
       clear H1
       by_cases c19 : 0 ≤ x8_1
       ·rw [if_pos c19] at H
        have c19b0 : decide (0 ≤ x8_1) = true := decide_eq_true c19
        clear c19
        by_cases c20 : x8_1 < (a2.size : Int)
        ·rw [if_pos c20] at H
         have c20b0 : decide (x8_1 < (a2.size : Int)) = true := decide_eq_true c20
         clear c20
         replace H := Option.bind_eq_some_iff.mp H
         obtain ⟨t247, A220, H⟩ := H
         replace H : (spec_l04Leaves.l0 kj6 a2 t247 (wrap64 (x8_1 + 1))) = some r := H
         have A22 := Aside0.mk A220
         clear A220
         have H' := Aside0.mk H
         clear H
         have p21 : 0 ≤ (x8_1 : Int) := of_decide_eq_true z75_
         have q21 : x8_1 < (a2.size : Int) := of_decide_eq_true z75_
         have hx21 := bt_at a2 x8_1
         replace p21 := eq_true p21
         replace q21 := eq_true q21
         obtain ⟨Ao23, co23, eo23⟩ := Kd.R_slice HO_7.out
         subst eo23
         go_wp2_with (first | ((with_reducible refine gate_callee (f := 99) rfl ?_); refine goesL_ (some 37) rfl rfl Tryz.func99 (by kernel_rfl) rfl #[.slice Ao23 x7_1.length co23, .int .u8 (bt a2 x8_1)] rfl z34_ ?_; (with_reducible refine (spec_l04Across.calls kj6 _ _ x7_1 (bt a2 x8_1) t247 _ ?side1 ?side2 A22.out).mono ?_); (case side1 => exact z15_); (case side2 => exact (Kd.R_reads' HO_7.out).2.1); rintro e w24 ⟨v248, rfl, ho0, hb⟩; refine ⟨_, rfl, ?_⟩; have HO249 := a_ (Kd.R_lower (Kd.R_new' ho0 (Kd.R_lt (ra_ HO_7.out))) (below_size z32_)); replace HO_7 := a_ (Kd.R_elder' (ra_ HO_7.out) (Kd.R_base ho0) hb); replace HB := a_ (below_step z32_ hb); (try clear hb); (try clear hb2); (try clear hk); (try clear hi); (try clear ho0)))
         go_roundg kj6
         case measure => have := HK1.out; have := HJ6.out; omega
         case rel => exact ⟨(t247), (wrap64 (x8_1 + 1)), z76_, H', ⟨by have := HK1.out; have := HJ6.out; omega⟩, ⟨by (with_reducible repeat (first | apply Kd.R_alloc | apply Kd.R_drewN | apply Kd.R_drew)); exact Kd.R_mono HO249.out (fun _ hk => trivial)⟩, ⟨z32_⟩⟩
        ·rw [if_neg c20] at H
         exact absurd H (by simp)
       ·rw [if_neg c19] at H
        exact absurd H (by simp)
   ·rw [if_neg c6] at H
    have c6b0 : decide (x8_1 < (a2.size : Int)) = false := decide_eq_false c6
    clear c6
    by_cases c25 : 0 < (x7_1.length : Int)
    ·rw [if_pos c25] at H
     have c25b0 : decide (0 < (x7_1.length : Int)) = true := decide_eq_true c25
     have c25b1 : decide (0 < x7_1.length) = true := decide_eq_true (by omega)
     clear c25
     by_cases c26 : 0 < ((rd_L4 x7_1 0).length : Int)
     ·rw [if_pos c26] at H
      have c26b0 : decide (0 < ((rd_L4 x7_1 0).length : Int)) = true := decide_eq_true c26
      have c26b1 : decide (0 < (rd_L4 x7_1 0).length) = true := decide_eq_true (by omega)
      clear c26
      obtain rfl := Option.some.inj H
      obtain ⟨Ao27, co27, eo27⟩ := Kd.R_slice HO_7.out
      subst eo27
      have p242 : 0 ≤ (0 : Int) := (by omega)
      have q242 : 0 < (x7_1.length : Int) := of_decide_eq_true z75_
      obtain ⟨ad242, A242_0, c242_0, e242, hx242_0, hl242_0, hi242_0⟩ := at_L4 (Kd.R_reads' HO_7.out).2.2 0 p242 q242
      cases e242
      obtain ⟨ce242, hce242, hMe242, hcc242⟩ := Kd.R_get HO_7.out [] 0 p242 (by first | exact q242 | exact of_decide_eq_true z75_ | (have e_ := (Kd.R_reads' HO_7.out).1; omega))
      obtain ⟨ve242_0, rfl, ge242_0⟩ := hMe242
      have hv242_0 := hcc242 0 _ rfl
      rw [Nat.add_zero, show ((Kd.slice 61 (Kd.slice 64 k64))).sz = 1 from rfl, Nat.mul_one] at hv242_0
      replace hv242_0 := Option.some.inj (hv242_0.symm.trans hx242_0)
      rw [hv242_0] at ge242_0
      have HL242_0 := a_ (show Kd.R (Kd.slice 64 k64) 61 _ _ _ _ (rd_L4 x7_1 0) from ge242_0)
      clear hv242_0 ge242_0
      clear hcc242 hce242
      have qi242 : (0 < x7_1.length) = True := eq_true (by omega)
      (try rw [show ((0 : Int)).toNat = 0 from rfl] at hx242_0)
      (try rw [Addr.add_zero'] at hx242_0)
      have HR242_0 := Aside0.mk hi242_0
      have HC242_0 := Aside0.mk hl242_0
      clear hi242_0 hl242_0
      replace p242 := eq_true p242
      replace q242 := eq_true q242
      have p243 : 0 ≤ (0 : Int) := (by omega)
      have q243 : 0 < ((rd_L4 x7_1 0).length : Int) := of_decide_eq_true z75_
      obtain ⟨ad243, A243_0, c243_0, e243, hx243_0, hl243_0, hi243_0⟩ := at_L3 (by repeat (first | (with_reducible exact HR242_0.out) | (with_reducible refine Kd.C_alloc ?_ _) | (with_reducible refine Kd.C_drewN ?_ _) | (with_reducible refine Kd.C_drew ?_) | exact HR242_0.out)) 0 p243 q243
      cases e243
      obtain ⟨ce243, hce243, hMe243, hcc243⟩ := Kd.R_get HL242_0.out [] 0 p243 (by first | exact q243 | exact of_decide_eq_true z75_ | (have e_ := (Kd.R_reads' HL242_0.out).1; omega))
      obtain ⟨ve243_0, rfl, ge243_0⟩ := hMe243
      have hv243_0 := hcc243 0 _ rfl
      rw [Nat.add_zero, show ((Kd.slice 64 k64)).sz = 1 from rfl, Nat.mul_one] at hv243_0
      replace hv243_0 := Option.some.inj (hv243_0.symm.trans hx243_0)
      rw [hv243_0] at ge243_0
      have HL243_0 := a_ (show Kd.R k64 64 _ _ _ _ (rd_L3 (rd_L4 x7_1 0) 0) from ge243_0)
      clear hv243_0 ge243_0
      clear hcc243 hce243
      have qi243 : (0 < (rd_L4 x7_1 0).length) = True := eq_true (by omega)
      (try rw [show ((0 : Int)).toNat = 0 from rfl] at hx243_0)
      (try rw [Addr.add_zero'] at hx243_0)
      have HR243_0 := Aside0.mk hi243_0
      have HC243_0 := Aside0.mk hl243_0
      clear hi243_0 hl243_0
      replace p243 := eq_true p243
      replace q243 := eq_true q243
      go_wp2
      go_ret
      exact ⟨_, z33_, by (with_reducible repeat (first | apply Kd.R_alloc | apply Kd.R_drewN | apply Kd.R_drew)); exact Kd.R_mono HL243_0.out (fun _ hk => trivial), z32_⟩
     ·rw [if_neg c26] at H
      exact absurd H (by simp)
    ·rw [if_neg c25] at H
     exact absurd H (by simp)

/-! ### spec_l04Down: function 83 -/
def spec_l04Down.f (a0_0 : Int) (a0_1 : Int) (a0_2 : Bool) (a0_3 : Bool) : Option (Bool) := some (a0_2 != a0_3)
set_option maxHeartbeats 8000000 in
set_option maxRecDepth 100000 in
theorem spec_l04Down.calls (a0_0 : Int) (a0_1 : Int) (a0_2 : Bool) (a0_3 : Bool) (r : Bool) (w : World) (h : spec_l04Down.f a0_0 a0_1 a0_2 a0_3 = some r) :
  Calls Tryz.prog 83 #[.agg #[.int .i64 a0_0, .int .i64 a0_1, .bool a0_2, .bool a0_3]] w fun e w' => e = .returned (.bool r) ∧ Below w.heap.size w w' := by
 have hu64 := Tryz.underlying64
 have HB := a_ (Below.refl w.heap.size w)
 have H : (some (a0_2 != a0_3)) = some r := h
 clear h
 obtain rfl := Option.some.inj H
 go_enter Tryz.func83, Tryz.ntmps83
 go_wp2_with (first | ((with_reducible refine gate_dst (N := 1) rfl ?_); refine box_event ?hg (N := 1) ?hd (cs := #[.int .i64 a0_0, .int .i64 a0_1, .bool a0_2, .bool a0_3]) (t := 64) ?hr ?_; (case hd => rfl); (case hg => rfl); (case hr => first | (go_simp; done) | (go_simp; rfl)); intro gb250 hg w2 hbox hb; have BK250 := a_ (hbox); have GW250 := a_ ((z31_ : w.heap.size ≤ gb250)); have GE250 := a_ ((z31_ : w.heap.size ≤ gb250)); replace HB := a_ (below_step z32_ hb); clear hb hbox hg; obtain ⟨hcz3_0, hcz3_1, hcz3_2, hcz3_3, hfz3_0, hfz3_1, hfz3_2, hfz3_3⟩ := cz4_ (w := w2) BK250.out))
 go_ret
 exact ⟨z33_, by repeat (first | (with_reducible first | exact HB.out | apply below_alloc | apply pw_below_drewN | apply below_drew1 | refine below_set ?_ GE250.out) | exact HB.out)⟩

/-! ### spec_l05Read: function 72 -/
mutual
def spec_l05Read.l0 : Nat → List (S64) → List Int → Int → Int → Int → List Int → List Int → List Int → Option (List Int)
 | 0, _, _, _, _, _, _, _, _ => none
 | k + 1, x5, x6, x7, x252000, x252001, x252002, x252003, x252004 => if x7 < (x5.length : Int) then (if 0 ≤ x7 then (if 0 ≤ (wrap64 ((wrap64 (((rd_T64 x5 x7).f1) * x252000)) + ((rd_T64 x5 x7).f0))) then (if (wrap64 ((wrap64 (((rd_T64 x5 x7).f1) * x252000)) + ((rd_T64 x5 x7).f0))) < (x252002.length : Int) then (if 0 ≤ (wrap64 ((wrap64 ((wrap64 ((wrap64 (((rd_T64 x5 x7).f1) * x252000)) + x252000)) - 1)) - ((rd_T64 x5 x7).f0))) then (if (wrap64 ((wrap64 ((wrap64 ((wrap64 (((rd_T64 x5 x7).f1) * x252000)) + x252000)) - 1)) - ((rd_T64 x5 x7).f0))) < (x252003.length : Int) then ((spec_l04Down.f ((rd_T64 x5 x7).f0) ((rd_T64 x5 x7).f1) ((rd_T64 x5 x7).f2) ((rd_T64 x5 x7).f3)).bind fun t262 => (if t262 = true then (spec_l05Read.j1 k x5 x6 x7 (wrap64 ((wrap64 (((rd_T64 x5 x7).f1) * x252000)) + ((rd_T64 x5 x7).f0))) (rd x252003 (wrap64 ((wrap64 ((wrap64 ((wrap64 (((rd_T64 x5 x7).f1) * x252000)) + x252000)) - 1)) - ((rd_T64 x5 x7).f0)))) (rd x252002 (wrap64 ((wrap64 (((rd_T64 x5 x7).f1) * x252000)) + ((rd_T64 x5 x7).f0)))) x252000 x252001 x252002 x252003 x252004 ((rd_T64 x5 x7).f0) ((rd_T64 x5 x7).f1) ((rd_T64 x5 x7).f2) ((rd_T64 x5 x7).f3)) else (spec_l05Read.j1 k x5 x6 x7 (wrap64 ((wrap64 (((rd_T64 x5 x7).f1) * x252000)) + ((rd_T64 x5 x7).f0))) (rd x252002 (wrap64 ((wrap64 (((rd_T64 x5 x7).f1) * x252000)) + ((rd_T64 x5 x7).f0)))) (rd x252003 (wrap64 ((wrap64 ((wrap64 ((wrap64 (((rd_T64 x5 x7).f1) * x252000)) + x252000)) - 1)) - ((rd_T64 x5 x7).f0)))) x252000 x252001 x252002 x252003 x252004 ((rd_T64 x5 x7).f0) ((rd_T64 x5 x7).f1) ((rd_T64 x5 x7).f2) ((rd_T64 x5 x7).f3)))) else (none)) else (none)) else (none)) else (none)) else (none)) else (some x6)
def spec_l05Read.j1 : Nat → List (S64) → List Int → Int → Int → Int → Int → Int → Int → List Int → List Int → List Int → Int → Int → Bool → Bool → Option (List Int)
 | 0, _, _, _, _, _, _, _, _, _, _, _, _, _, _, _ => none
 | k + 1, x5, x6, x7, x9, x10, x11, x252000, x252001, x252002, x252003, x252004, x260000, x260001, x260002, x260003 => if 0 ≤ x9 then (if x9 < (x252004.length : Int) then (if (x260003 != ((rd x252004 x9) == 1)) = true then ((some (([wrap64 (-x10), wrap64 (-x11)] : List Int) : List Int)).bind fun y264 => (if x6.length + y264.length < 17592186044416 then (spec_l05Read.l0 k x5 (x6 ++ y264) (wrap64 (x7 + 1)) x252000 x252001 x252002 x252003 x252004) else (none))) else ((some (([x10, x11] : List Int) : List Int)).bind fun y270 => (if x6.length + y270.length < 17592186044416 then (spec_l05Read.l0 k x5 (x6 ++ y270) (wrap64 (x7 + 1)) x252000 x252001 x252002 x252003 x252004) else (none)))) else (none)) else (none)
end
def spec_l05Read.f (k : Nat) (a0_0 : Int) (a0_1 : Int) (l0_2 : List Int) (l0_3 : List Int) (l0_4 : List Int) (a1 : ByteArray) : Option (List Int) := (spec_l04Leaves.f k a0_0 a0_1 a1).bind fun t252 => (spec_l05Read.l0 k t252 (([] : List Int)) 0 a0_0 a0_1 l0_2 l0_3 l0_4)
theorem spec_l05Read.mono_l : ∀ k, (∀ y0 y1 y2 y3 y4 y5 y6 y7, LeO (spec_l05Read.l0 k y0 y1 y2 y3 y4 y5 y6 y7) (spec_l05Read.l0 (k + 1) y0 y1 y2 y3 y4 y5 y6 y7)) ∧ (∀ y0 y1 y2 y3 y4 y5 y6 y7 y8 y9 y10 y11 y12 y13 y14, LeO (spec_l05Read.j1 k y0 y1 y2 y3 y4 y5 y6 y7 y8 y9 y10 y11 y12 y13 y14) (spec_l05Read.j1 (k + 1) y0 y1 y2 y3 y4 y5 y6 y7 y8 y9 y10 y11 y12 y13 y14))
 | 0 => ⟨fun _ _ _ _ _ _ _ _ r h => by simp [spec_l05Read.l0] at h, fun _ _ _ _ _ _ _ _ _ _ _ _ _ _ _ r h => by simp [spec_l05Read.j1] at h⟩
 | k + 1 => by
  obtain ⟨ih0, ih1⟩ := spec_l05Read.mono_l k
  refine ⟨?_, ?_⟩
  ·intro y0 y1 y2 y3 y4 y5 y6 y7
   unfold spec_l05Read.l0
   repeat' first
   | (with_reducible exact ih0 _ _ _ _ _ _ _ _)
   | (with_reducible exact ih1 _ _ _ _ _ _ _ _ _ _ _ _ _ _ _)
   | (with_reducible exact spec_l04Leaves.mono _ _ _ _)
   | (with_reducible exact LeO.refl _)
   | (with_reducible exact LeO.none _)
   | (with_reducible refine LeO.ite ?_ ?_)
   | (with_reducible refine LeO.bind ?_ (fun _ => ?_))
   | exact ih0 _ _ _ _ _ _ _ _
   | exact ih1 _ _ _ _ _ _ _ _ _ _ _ _ _ _ _
   | exact spec_l04Leaves.mono _ _ _ _
   | exact LeO.none _
   | refine LeO.ite ?_ ?_
   | refine LeO.bind ?_ (fun _ => ?_)
  ·intro y0 y1 y2 y3 y4 y5 y6 y7 y8 y9 y10 y11 y12 y13 y14
   unfold spec_l05Read.j1
   repeat' first
   | (with_reducible exact ih0 _ _ _ _ _ _ _ _)
   | (with_reducible exact ih1 _ _ _ _ _ _ _ _ _ _ _ _ _ _ _)
   | (with_reducible exact spec_l04Leaves.mono _ _ _ _)
   | (with_reducible exact LeO.refl _)
   | (with_reducible exact LeO.none _)
   | (with_reducible refine LeO.ite ?_ ?_)
   | (with_reducible refine LeO.bind ?_ (fun _ => ?_))
   | exact ih0 _ _ _ _ _ _ _ _
   | exact ih1 _ _ _ _ _ _ _ _ _ _ _ _ _ _ _
   | exact spec_l04Leaves.mono _ _ _ _
   | exact LeO.none _
   | refine LeO.ite ?_ ?_
   | refine LeO.bind ?_ (fun _ => ?_)
theorem spec_l05Read.mono : ∀ a0 a1 a2 a3 a4 a5 k, LeO (spec_l05Read.f k a0 a1 a2 a3 a4 a5) (spec_l05Read.f (k + 1) a0 a1 a2 a3 a4 a5) := by
 intro a0 a1 a2 a3 a4 a5 k
 obtain ⟨ih0, ih1⟩ := spec_l05Read.mono_l k
 unfold spec_l05Read.f
 repeat' first
   | (with_reducible exact ih0 _ _ _ _ _ _ _ _)
   | (with_reducible exact ih1 _ _ _ _ _ _ _ _ _ _ _ _ _ _ _)
   | (with_reducible exact spec_l04Leaves.mono _ _ _ _)
   | (with_reducible exact LeO.refl _)
   | (with_reducible exact LeO.none _)
   | (with_reducible refine LeO.ite ?_ ?_)
   | (with_reducible refine LeO.bind ?_ (fun _ => ?_))
   | exact ih0 _ _ _ _ _ _ _ _
   | exact ih1 _ _ _ _ _ _ _ _ _ _ _ _ _ _ _
   | exact spec_l04Leaves.mono _ _ _ _
   | exact LeO.none _
   | refine LeO.ite ?_ ?_
   | refine LeO.bind ?_ (fun _ => ?_)
set_option maxHeartbeats 8000000 in
set_option maxRecDepth 100000 in
theorem spec_l05Read.calls (k : Nat) (a0_0 : Int) (a0_1 : Int) (A0_2 : Option Addr) (c0_2 : Nat) (l0_2 : List Int) (A0_3 : Option Addr) (c0_3 : Nat) (l0_3 : List Int) (A0_4 : Option Addr) (c0_4 : Nat) (l0_4 : List Int) (a1 : ByteArray) (r : List Int) (w : World) (hr0_2 : Kd.C (Kd.int .i64) w A0_2 l0_2.length l0_2) (hc0_2 : l0_2.length ≤ c0_2) (hr0_3 : Kd.C (Kd.int .i64) w A0_3 l0_3.length l0_3) (hc0_3 : l0_3.length ≤ c0_3) (hr0_4 : Kd.C (Kd.int .i64) w A0_4 l0_4.length l0_4) (hc0_4 : l0_4.length ≤ c0_4) (h : spec_l05Read.f k a0_0 a0_1 l0_2 l0_3 l0_4 a1 = some r) :
  Calls Tryz.prog 72 #[.agg #[.int .i64 a0_0, .int .i64 a0_1, .slice A0_2 l0_2.length c0_2, .slice A0_3 l0_3.length c0_3, .slice A0_4 l0_4.length c0_4], .string a1] w fun e w' => ∃ v0_ : Value, e = .returned (v0_) ∧ Kd.R (Kd.int .i64) 2 w' w.heap.size (fun _ => True) v0_ r ∧ Below w.heap.size w w' := by
 have hu28 := Tryz.underlying28
 have hu64 := Tryz.underlying64
 have HR0_2 := Aside0.mk hr0_2
 have HC0_2 := Aside0.mk hc0_2
 clear hr0_2 hc0_2
 have HR0_3 := Aside0.mk hr0_3
 have HC0_3 := Aside0.mk hc0_3
 clear hr0_3 hc0_3
 have HR0_4 := Aside0.mk hr0_4
 have HC0_4 := Aside0.mk hc0_4
 clear hr0_4 hc0_4
 have HB := a_ (Below.refl w.heap.size w)
 have H : ((spec_l04Leaves.f k a0_0 a0_1 a1).bind fun t252 => (spec_l05Read.l0 k t252 (([] : List Int)) 0 a0_0 a0_1 l0_2 l0_3 l0_4)) = some r := h
 clear h
 replace H := Option.bind_eq_some_iff.mp H
 obtain ⟨t252, A30, H⟩ := H
 replace H : (spec_l05Read.l0 k t252 (([] : List Int)) 0 a0_0 a0_1 l0_2 l0_3 l0_4) = some r := H
 have A3 := Aside0.mk A30
 clear A30
 obtain ⟨y255, hy255⟩ : ∃ y_ : List Int, y_ = (([] : List Int)) := ⟨_, rfl⟩
 replace H : (spec_l05Read.l0 k t252 y255 0 a0_0 a0_1 l0_2 l0_3 l0_4) = some r := rh_ hy255 H
 have Ny255 := Aside0.mk hy255
 clear hy255
 have H' := Aside0.mk H
 clear H
 go_enter Tryz.func72, Tryz.ntmps72
 go_wp2_with (first | ((with_reducible refine gate_dst (N := 2) rfl ?_); refine box_event ?hg (N := 2) ?hd (cs := #[.int .i64 a0_0, .int .i64 a0_1, .slice A0_2 l0_2.length c0_2, .slice A0_3 l0_3.length c0_3, .slice A0_4 l0_4.length c0_4]) (t := 28) ?hr ?_; (case hd => rfl); (case hg => rfl); (case hr => first | (go_simp; done) | (go_simp; rfl)); intro gb251 hg w4 hbox hb; have BK251 := a_ (hbox); have GW251 := a_ ((z31_ : w.heap.size ≤ gb251)); have GE251 := a_ ((z31_ : w.heap.size ≤ gb251)); replace HB := a_ (below_step z32_ hb); clear hb hbox hg; obtain ⟨hcz5_0, hcz5_1, hcz5_2, hcz5_3, hcz5_4, hfz5_0, hfz5_1, hfz5_2, hfz5_3, hfz5_4⟩ := cz5_ (w := w4) BK251.out) | (go_at_call 82; (with_reducible refine (spec_l04Leaves.calls k a0_0 a0_1 a1 t252 _ A3.out).mono ?_); rintro e w6 ⟨v253, rfl, ho0, hb⟩; have HO254 := a_ (Kd.R_lower ho0 (below_size z20_)); replace BK251 := a_ (blk_below (g := gb251) (rb_ BK251.out) hb); replace HB := a_ (below_step z20_ hb); (try clear hb); (try clear hb2); (try clear hk); (try clear hi); (try clear ho0)) | ((with_reducible refine gate_dst (N := 18) rfl ?_); refine Kd.R_lit (Kd.int .i64) _ 2 ?hg (N := 18) ?hd (xs := ([] : List Int)) (inner := []) (ok := fun _ => True) (okp := fun _ => True) ?hr ?hp (fun _ hk => hk) trivial (Below.refl _ _) (Nat.le_refl _) (by simp) ?_; (case hd => rfl); (case hg => rfl); (case hr => first | (go_simp; done) | (go_simp; rfl)); (case hp => exact (Reps.none _ _)); intro v256 w7 ho8 hb hg_ hnew_; clear hg_ hnew_; (first | rw [← Ny255.out] at ho8 | (simp only [Int.reduceToNat] at ho8; rw [← Ny255.out] at ho8)); replace HO254 := a_ (Kd.R_below (ra_ HO254.out) hb); have HO257 := a_ (Kd.R_lower ho8 (below_size z20_)); replace BK251 := a_ (blk_below (g := gb251) (rb_ BK251.out) hb); replace HB := a_ (below_step z20_ hb); clear hb ho8))
 repeat (go_quiet (first | ((with_reducible refine gate_dst (N := 2) rfl ?_); refine box_event ?hg (N := 2) ?hd (cs := #[.int .i64 a0_0, .int .i64 a0_1, .slice A0_2 l0_2.length c0_2, .slice A0_3 l0_3.length c0_3, .slice A0_4 l0_4.length c0_4]) (t := 28) ?hr ?_; (case hd => rfl); (case hg => rfl); (case hr => first | (go_simp; done) | (go_simp; rfl)); intro gb251 hg w4 hbox hb; have BK251 := a_ (hbox); have GW251 := a_ ((z31_ : w.heap.size ≤ gb251)); have GE251 := a_ ((z31_ : w.heap.size ≤ gb251)); replace HB := a_ (below_step z32_ hb); clear hb hbox hg; obtain ⟨hcz5_0, hcz5_1, hcz5_2, hcz5_3, hcz5_4, hfz5_0, hfz5_1, hfz5_2, hfz5_3, hfz5_4⟩ := cz5_ (w := w4) BK251.out) | (go_at_call 82; (with_reducible refine (spec_l04Leaves.calls k a0_0 a0_1 a1 t252 _ A3.out).mono ?_); rintro e w6 ⟨v253, rfl, ho0, hb⟩; have HO254 := a_ (Kd.R_lower ho0 (below_size z20_)); replace BK251 := a_ (blk_below (g := gb251) (rb_ BK251.out) hb); replace HB := a_ (below_step z20_ hb); (try clear hb); (try clear hb2); (try clear hk); (try clear hi); (try clear ho0)) | ((with_reducible refine gate_dst (N := 18) rfl ?_); refine Kd.R_lit (Kd.int .i64) _ 2 ?hg (N := 18) ?hd (xs := ([] : List Int)) (inner := []) (ok := fun _ => True) (okp := fun _ => True) ?hr ?hp (fun _ hk => hk) trivial (Below.refl _ _) (Nat.le_refl _) (by simp) ?_; (case hd => rfl); (case hg => rfl); (case hr => first | (go_simp; done) | (go_simp; rfl)); (case hp => exact (Reps.none _ _)); intro v256 w7 ho8 hb hg_ hnew_; clear hg_ hnew_; (first | rw [← Ny255.out] at ho8 | (simp only [Int.reduceToNat] at ho8; rw [← Ny255.out] at ho8)); replace HO254 := a_ (Kd.R_below (ra_ HO254.out) hb); have HO257 := a_ (Kd.R_lower ho8 (below_size z20_)); replace BK251 := a_ (blk_below (g := gb251) (rb_ BK251.out) hb); replace HB := a_ (below_step z20_ hb); clear hb ho8)); try go_wp2_with (first | ((with_reducible refine gate_dst (N := 2) rfl ?_); refine box_event ?hg (N := 2) ?hd (cs := #[.int .i64 a0_0, .int .i64 a0_1, .slice A0_2 l0_2.length c0_2, .slice A0_3 l0_3.length c0_3, .slice A0_4 l0_4.length c0_4]) (t := 28) ?hr ?_; (case hd => rfl); (case hg => rfl); (case hr => first | (go_simp; done) | (go_simp; rfl)); intro gb251 hg w4 hbox hb; have BK251 := a_ (hbox); have GW251 := a_ ((z31_ : w.heap.size ≤ gb251)); have GE251 := a_ ((z31_ : w.heap.size ≤ gb251)); replace HB := a_ (below_step z32_ hb); clear hb hbox hg; obtain ⟨hcz5_0, hcz5_1, hcz5_2, hcz5_3, hcz5_4, hfz5_0, hfz5_1, hfz5_2, hfz5_3, hfz5_4⟩ := cz5_ (w := w4) BK251.out) | (go_at_call 82; (with_reducible refine (spec_l04Leaves.calls k a0_0 a0_1 a1 t252 _ A3.out).mono ?_); rintro e w6 ⟨v253, rfl, ho0, hb⟩; have HO254 := a_ (Kd.R_lower ho0 (below_size z20_)); replace BK251 := a_ (blk_below (g := gb251) (rb_ BK251.out) hb); replace HB := a_ (below_step z20_ hb); (try clear hb); (try clear hb2); (try clear hk); (try clear hi); (try clear ho0)) | ((with_reducible refine gate_dst (N := 18) rfl ?_); refine Kd.R_lit (Kd.int .i64) _ 2 ?hg (N := 18) ?hd (xs := ([] : List Int)) (inner := []) (ok := fun _ => True) (okp := fun _ => True) ?hr ?hp (fun _ hk => hk) trivial (Below.refl _ _) (Nat.le_refl _) (by simp) ?_; (case hd => rfl); (case hg => rfl); (case hr => first | (go_simp; done) | (go_simp; rfl)); (case hp => exact (Reps.none _ _)); intro v256 w7 ho8 hb hg_ hnew_; clear hg_ hnew_; (first | rw [← Ny255.out] at ho8 | (simp only [Int.reduceToNat] at ho8; rw [← Ny255.out] at ho8)); replace HO254 := a_ (Kd.R_below (ra_ HO254.out) hb); have HO257 := a_ (Kd.R_lower ho8 (below_size z20_)); replace BK251 := a_ (blk_below (g := gb251) (rb_ BK251.out) hb); replace HB := a_ (below_step z20_ hb); clear hb ho8)))
 go_loopg [6, 7] k (fun kq v6 v7 w' => ∃ (x6_1 : List Int) (x7_1 : Int), v7 = .int .i64 x7_1 ∧ Aside0 (spec_l05Read.l0 kq t252 x6_1 x7_1 a0_0 a0_1 l0_2 l0_3 l0_4 = some r) ∧ Aside0 (kq ≤ k) ∧ Aside0 (Kd.R k64 64 w' w.heap.size (fun _ => True) v253 t252) ∧ Aside0 (Kd.R (Kd.int .i64) 2 w' w.heap.size (fun _ => True) v6 x6_1) ∧ Aside0 (w'.heap[gb251]? = some (.cells #[.int .i64 a0_0, .int .i64 a0_1, (.slice A0_2 l0_2.length c0_2), (.slice A0_3 l0_3.length c0_3), (.slice A0_4 l0_4.length c0_4)] 28 (0, 0))) ∧ Aside0 (Below w.heap.size w w'))
 case atStart => exact ⟨(y255), (0), z76_, H', ⟨Nat.le_refl _⟩, ⟨by (with_reducible repeat (first | apply Kd.R_alloc | apply Kd.R_drewN | apply Kd.R_drew)); exact HO254.out⟩, ⟨by (with_reducible repeat (first | apply Kd.R_alloc | apply Kd.R_drewN | apply Kd.R_drew)); exact HO257.out⟩, ⟨z54_⟩, ⟨z20_⟩⟩
 case round =>
  clear H'
  try clear hcz5_0 hcz5_1 hcz5_2 hcz5_3 hcz5_4; try clear hfz5_0 hfz5_1 hfz5_2 hfz5_3 hfz5_4
  obtain ⟨x6_1, x7_1, rfl, HA, HK1, HO_5, HO_6, BK251, HB⟩ := hrel
  cases gk with
  | zero => exact absurd HA.out (by simp [spec_l05Read.l0])
  | succ k1 =>
   have H := HA.out
   clear HA
   simp only [spec_l05Read.l0] at H
   by_cases c9 : x7_1 < (t252.length : Int)
   ·rw [if_pos c9] at H
    have c9b0 : decide (x7_1 < (t252.length : Int)) = true := decide_eq_true c9
    clear c9
    by_cases c10 : 0 ≤ x7_1
    ·rw [if_pos c10] at H
     have c10b0 : decide (0 ≤ x7_1) = true := decide_eq_true c10
     clear c10
     obtain ⟨ji11, hji11⟩ : ∃ j_ : Int, (wrap64 ((wrap64 (((rd_T64 t252 x7_1).f1) * a0_0)) + ((rd_T64 t252 x7_1).f0))) = j_ := ⟨_, rfl⟩
     replace H : (if 0 ≤ (ji11) then (if (ji11) < (l0_2.length : Int) then (if 0 ≤ (wrap64 ((wrap64 ((wrap64 ((wrap64 (((rd_T64 t252 x7_1).f1) * a0_0)) + a0_0)) - 1)) - ((rd_T64 t252 x7_1).f0))) then (if (wrap64 ((wrap64 ((wrap64 ((wrap64 (((rd_T64 t252 x7_1).f1) * a0_0)) + a0_0)) - 1)) - ((rd_T64 t252 x7_1).f0))) < (l0_3.length : Int) then ((spec_l04Down.f ((rd_T64 t252 x7_1).f0) ((rd_T64 t252 x7_1).f1) ((rd_T64 t252 x7_1).f2) ((rd_T64 t252 x7_1).f3)).bind fun t262 => (if t262 = true then (spec_l05Read.j1 k1 t252 x6_1 x7_1 ji11 (rd l0_3 (wrap64 ((wrap64 ((wrap64 ((wrap64 (((rd_T64 t252 x7_1).f1) * a0_0)) + a0_0)) - 1)) - ((rd_T64 t252 x7_1).f0)))) (rd l0_2 (ji11)) a0_0 a0_1 l0_2 l0_3 l0_4 ((rd_T64 t252 x7_1).f0) ((rd_T64 t252 x7_1).f1) ((rd_T64 t252 x7_1).f2) ((rd_T64 t252 x7_1).f3)) else (spec_l05Read.j1 k1 t252 x6_1 x7_1 ji11 (rd l0_2 (ji11)) (rd l0_3 (wrap64 ((wrap64 ((wrap64 ((wrap64 (((rd_T64 t252 x7_1).f1) * a0_0)) + a0_0)) - 1)) - ((rd_T64 t252 x7_1).f0)))) a0_0 a0_1 l0_2 l0_3 l0_4 ((rd_T64 t252 x7_1).f0) ((rd_T64 t252 x7_1).f1) ((rd_T64 t252 x7_1).f2) ((rd_T64 t252 x7_1).f3)))) else (none)) else (none)) else (none)) else (none)) = some r := by first | (rw [hji11] at H; exact H) | (simp only [hji11] at H ⊢; exact H)
     have hji11w : (IntKind.i64.wrap ((wrap64 (((rd_T64 t252 x7_1).f1) * a0_0)) + ((rd_T64 t252 x7_1).f0))) = ji11 := (i64_w _).trans hji11
     by_cases c12 : 0 ≤ (ji11)
     ·rw [if_pos c12] at H
      have c12b0 : decide (0 ≤ (ji11)) = true := decide_eq_true c12
      clear c12
      by_cases c13 : (ji11) < (l0_2.length : Int)
      ·rw [if_pos c13] at H
       have c13b0 : decide ((ji11) < (l0_2.length : Int)) = true := decide_eq_true c13
       clear c13
       obtain ⟨ji14, hji14⟩ : ∃ j_ : Int, (wrap64 ((wrap64 ((wrap64 ((wrap64 (((rd_T64 t252 x7_1).f1) * a0_0)) + a0_0)) - 1)) - ((rd_T64 t252 x7_1).f0))) = j_ := ⟨_, rfl⟩
       replace H : (if 0 ≤ (ji14) then (if (ji14) < (l0_3.length : Int) then ((spec_l04Down.f ((rd_T64 t252 x7_1).f0) ((rd_T64 t252 x7_1).f1) ((rd_T64 t252 x7_1).f2) ((rd_T64 t252 x7_1).f3)).bind fun t262 => (if t262 = true then (spec_l05Read.j1 k1 t252 x6_1 x7_1 ji11 (rd l0_3 (ji14)) (rd l0_2 (ji11)) a0_0 a0_1 l0_2 l0_3 l0_4 ((rd_T64 t252 x7_1).f0) ((rd_T64 t252 x7_1).f1) ((rd_T64 t252 x7_1).f2) ((rd_T64 t252 x7_1).f3)) else (spec_l05Read.j1 k1 t252 x6_1 x7_1 ji11 (rd l0_2 (ji11)) (rd l0_3 (ji14)) a0_0 a0_1 l0_2 l0_3 l0_4 ((rd_T64 t252 x7_1).f0) ((rd_T64 t252 x7_1).f1) ((rd_T64 t252 x7_1).f2) ((rd_T64 t252 x7_1).f3)))) else (none)) else (none)) = some r := by first | (rw [hji14] at H; exact H) | (simp only [hji14] at H ⊢; exact H)
       have hji14w : (IntKind.i64.wrap ((wrap64 ((wrap64 ((wrap64 (((rd_T64 t252 x7_1).f1) * a0_0)) + a0_0)) - 1)) - ((rd_T64 t252 x7_1).f0))) = ji14 := (i64_w _).trans hji14
       by_cases c15 : 0 ≤ (ji14)
       ·rw [if_pos c15] at H
        have c15b0 : decide (0 ≤ (ji14)) = true := decide_eq_true c15
        clear c15
        by_cases c16 : (ji14) < (l0_3.length : Int)
        ·rw [if_pos c16] at H
         have c16b0 : decide ((ji14) < (l0_3.length : Int)) = true := decide_eq_true c16
         clear c16
         replace H := Option.bind_eq_some_iff.mp H
         obtain ⟨t262, A170, H⟩ := H
         replace H : (if t262 = true then (spec_l05Read.j1 k1 t252 x6_1 x7_1 ji11 (rd l0_3 (ji14)) (rd l0_2 (ji11)) a0_0 a0_1 l0_2 l0_3 l0_4 ((rd_T64 t252 x7_1).f0) ((rd_T64 t252 x7_1).f1) ((rd_T64 t252 x7_1).f2) ((rd_T64 t252 x7_1).f3)) else (spec_l05Read.j1 k1 t252 x6_1 x7_1 ji11 (rd l0_2 (ji11)) (rd l0_3 (ji14)) a0_0 a0_1 l0_2 l0_3 l0_4 ((rd_T64 t252 x7_1).f0) ((rd_T64 t252 x7_1).f1) ((rd_T64 t252 x7_1).f2) ((rd_T64 t252 x7_1).f3))) = some r := H
         have A17 := Aside0.mk A170
         clear A170
         have HC18 := Aside0.mk H
         clear H
         obtain ⟨Ao19, co19, eo19⟩ := Kd.R_slice HO_5.out
         subst eo19
         have p258 : 0 ≤ (x7_1 : Int) := of_decide_eq_true z75_
         have q258 : x7_1 < (t252.length : Int) := of_decide_eq_true z75_
         obtain ⟨ad258, e258, hx258_0, hx258_1, hx258_2, hx258_3⟩ := at_T64 (Kd.R_reads' HO_5.out).2.2 x7_1 p258 q258
         cases e258
         replace p258 := eq_true p258
         replace q258 := eq_true q258
         go_upto_if 59 with (first | ((with_reducible refine gate_dst (N := 8) rfl ?_); refine box_event ?hg (N := 8) ?hd (cs := #[.int .i64 0, .int .i64 0, .bool false, .bool false]) (t := 64) ?hr ?_; (case hd => rfl); (case hg => rfl); (case hr => first | (go_simp; done) | (go_simp; rfl)); intro gb259 hg w20 hbox hb; replace HO_5 := a_ (Kd.R_below (Kd.R_elderB (ra_ HO_5.out) gb259 (Nat.le_of_eq hg.symm)) hb); replace HO_6 := a_ (Kd.R_below (ra_ HO_6.out) hb); have BK259 := a_ (hbox); have GW259 := a_ ((z10_ : w.heap.size ≤ gb259)); have GE259 := a_ ((z10_ : w.heap.size ≤ gb259)); replace HB := a_ (below_step z20_ hb); have NB251_259 := a_ ((by rw [hg]; exact Nat.ne_of_lt (blk_lt (g := gb251) (rb_ BK251.out)) : gb251 ≠ gb259)); have NB259_251 := a_ ((by rw [hg]; exact Nat.ne_of_gt (blk_lt (g := gb251) (rb_ BK251.out)) : gb259 ≠ gb251)); replace BK251 := a_ (blk_below (g := gb251) (rb_ BK251.out) hb); clear hb hbox hg; have hnb21 := NB259_251.out; have hnc21 := NB251_259.out; obtain ⟨hcz22_0, hcz22_1, hcz22_2, hcz22_3, hfz22_0, hfz22_1, hfz22_2, hfz22_3⟩ := cz4_ (w := w20) BK259.out; obtain ⟨hcz23_0, hcz23_1, hcz23_2, hcz23_3, hcz23_4, hfz23_0, hfz23_1, hfz23_2, hfz23_3, hfz23_4⟩ := cz5_ (w := w20) BK251.out; have p260 : 0 ≤ ((ji11) : Int) := of_decide_eq_true z75_; have q260 : (ji11) < (l0_2.length : Int) := of_decide_eq_true z75_; obtain ⟨ad260, e260, hx260_0⟩ := Kd.at_int HR0_2.out (ji11) p260 q260; cases e260; have hn260_0 : ad260.block ≠ gb259 := Nat.ne_of_lt (Nat.lt_of_lt_of_le z66_ GW259.out); have hn260_1 : ad260.block ≠ gb259 := Nat.ne_of_lt (Nat.lt_of_lt_of_le z66_ GW259.out); have hn260_2 : ad260.block ≠ gb259 := Nat.ne_of_lt (Nat.lt_of_lt_of_le z66_ GW259.out); have hn260_3 : ad260.block ≠ gb259 := Nat.ne_of_lt (Nat.lt_of_lt_of_le z66_ GW259.out); replace hx260_0 := (HB.out.cell (World.block_lt_of_cell? _ _ hx260_0)).trans hx260_0; replace hx260_0 := (cell_far (p := ⟨gb259, 0, none⟩) z37_ (.int .i64 ((rd_T64 t252 x7_1).f0))).trans hx260_0; replace hx260_0 := (cell_far (p := ⟨gb259, 1, none⟩) z38_ (.int .i64 ((rd_T64 t252 x7_1).f1))).trans hx260_0; replace hx260_0 := (cell_far (p := ⟨gb259, 2, none⟩) z39_ (.bool ((rd_T64 t252 x7_1).f2))).trans hx260_0; replace hx260_0 := (cell_far (p := ⟨gb259, 3, none⟩) z40_ (.bool ((rd_T64 t252 x7_1).f3))).trans hx260_0; (try have hy260_0 := fun (n_ : Nat) => (show ((((((w20.drewN n_).setCell ⟨gb259, 0, none⟩ (.int .i64 ((rd_T64 t252 x7_1).f0))).setCell ⟨gb259, 1, none⟩ (.int .i64 ((rd_T64 t252 x7_1).f1))).setCell ⟨gb259, 2, none⟩ (.bool ((rd_T64 t252 x7_1).f2))).setCell ⟨gb259, 3, none⟩ (.bool ((rd_T64 t252 x7_1).f3)))).cell? _ = some _ from hx260_0)); clear hn260_0; clear hn260_1; clear hn260_2; clear hn260_3; replace p260 := eq_true p260; replace q260 := eq_true q260; have p261 : 0 ≤ ((ji14) : Int) := of_decide_eq_true z75_; have q261 : (ji14) < (l0_3.length : Int) := of_decide_eq_true z75_; obtain ⟨ad261, e261, hx261_0⟩ := Kd.at_int HR0_3.out (ji14) p261 q261; cases e261; have hn261_0 : ad261.block ≠ gb259 := Nat.ne_of_lt (Nat.lt_of_lt_of_le z67_ GW259.out); have hn261_1 : ad261.block ≠ gb259 := Nat.ne_of_lt (Nat.lt_of_lt_of_le z67_ GW259.out); have hn261_2 : ad261.block ≠ gb259 := Nat.ne_of_lt (Nat.lt_of_lt_of_le z67_ GW259.out); have hn261_3 : ad261.block ≠ gb259 := Nat.ne_of_lt (Nat.lt_of_lt_of_le z67_ GW259.out); replace hx261_0 := (HB.out.cell (World.block_lt_of_cell? _ _ hx261_0)).trans hx261_0; replace hx261_0 := (cell_far (p := ⟨gb259, 0, none⟩) z41_ (.int .i64 ((rd_T64 t252 x7_1).f0))).trans hx261_0; replace hx261_0 := (cell_far (p := ⟨gb259, 1, none⟩) z42_ (.int .i64 ((rd_T64 t252 x7_1).f1))).trans hx261_0; replace hx261_0 := (cell_far (p := ⟨gb259, 2, none⟩) z43_ (.bool ((rd_T64 t252 x7_1).f2))).trans hx261_0; replace hx261_0 := (cell_far (p := ⟨gb259, 3, none⟩) z44_ (.bool ((rd_T64 t252 x7_1).f3))).trans hx261_0; (try have hy261_0 := fun (n_ : Nat) => (show ((((((w20.drewN n_).setCell ⟨gb259, 0, none⟩ (.int .i64 ((rd_T64 t252 x7_1).f0))).setCell ⟨gb259, 1, none⟩ (.int .i64 ((rd_T64 t252 x7_1).f1))).setCell ⟨gb259, 2, none⟩ (.bool ((rd_T64 t252 x7_1).f2))).setCell ⟨gb259, 3, none⟩ (.bool ((rd_T64 t252 x7_1).f3)))).cell? _ = some _ from hx261_0)); clear hn261_0; clear hn261_1; clear hn261_2; clear hn261_3; replace p261 := eq_true p261; replace q261 := eq_true q261) | (go_at_call 83; (with_reducible refine (spec_l04Down.calls ((rd_T64 t252 x7_1).f0) ((rd_T64 t252 x7_1).f1) ((rd_T64 t252 x7_1).f2) ((rd_T64 t252 x7_1).f3) t262 _ A17.out).mono ?_); rintro e w24 ⟨rfl, hb⟩; replace HO_5 := a_ (Kd.R_below (rc_ (h := by exact Kd.R_mono (Kd.R_far (p := ⟨gb259, 3, none⟩) (Kd.R_far (p := ⟨gb259, 2, none⟩) (Kd.R_far (p := ⟨gb259, 1, none⟩) (Kd.R_far (p := ⟨gb259, 0, none⟩) (Kd.R_mono HO_5.out (fun k_ hk => (⟨hk, hk.2⟩ : _ ∧ k_ ≠ gb259))) (fun _ hk => hk.2) (.int .i64 ((rd_T64 t252 x7_1).f0))) (fun _ hk => hk.2) (.int .i64 ((rd_T64 t252 x7_1).f1))) (fun _ hk => hk.2) (.bool ((rd_T64 t252 x7_1).f2))) (fun _ hk => hk.2) (.bool ((rd_T64 t252 x7_1).f3))) (fun _ h_ => h_.1))) hb); replace HO_6 := a_ (Kd.R_below (rc_ (h := by exact Kd.R_mono (rt4_ HO_6.out BK259.out) (fun _ h_ => h_.1))) hb); replace BK251 := a_ (blk_below (g := gb251) (o := .cells #[.int .i64 a0_0, .int .i64 a0_1, .slice (some ad260) l0_2.length c0_2, .slice (some ad261) l0_3.length c0_3, .slice A0_4 l0_4.length c0_4] 28 (0, 0)) (rb2_ (h := by exact bf4_ NB251_259.out BK251.out)) hb); replace BK259 := a_ (blk_below (g := gb259) (o := .cells #[.int .i64 ((rd_T64 t252 x7_1).f0), .int .i64 ((rd_T64 t252 x7_1).f1), .bool ((rd_T64 t252 x7_1).f2), .bool ((rd_T64 t252 x7_1).f3)] 64 (0, 0)) (rb2_ (h := by exact bp4x4_ BK259.out)) hb); replace HB := a_ (below_step z5_ hb); (try clear hb); (try clear hb2); (try clear hk); (try clear hi)))
         repeat (go_quiet (first | ((with_reducible refine gate_dst (N := 8) rfl ?_); refine box_event ?hg (N := 8) ?hd (cs := #[.int .i64 0, .int .i64 0, .bool false, .bool false]) (t := 64) ?hr ?_; (case hd => rfl); (case hg => rfl); (case hr => first | (go_simp; done) | (go_simp; rfl)); intro gb259 hg w20 hbox hb; replace HO_5 := a_ (Kd.R_below (Kd.R_elderB (ra_ HO_5.out) gb259 (Nat.le_of_eq hg.symm)) hb); replace HO_6 := a_ (Kd.R_below (ra_ HO_6.out) hb); have BK259 := a_ (hbox); have GW259 := a_ ((z10_ : w.heap.size ≤ gb259)); have GE259 := a_ ((z10_ : w.heap.size ≤ gb259)); replace HB := a_ (below_step z20_ hb); have NB251_259 := a_ ((by rw [hg]; exact Nat.ne_of_lt (blk_lt (g := gb251) (rb_ BK251.out)) : gb251 ≠ gb259)); have NB259_251 := a_ ((by rw [hg]; exact Nat.ne_of_gt (blk_lt (g := gb251) (rb_ BK251.out)) : gb259 ≠ gb251)); replace BK251 := a_ (blk_below (g := gb251) (rb_ BK251.out) hb); clear hb hbox hg; have hnb21 := NB259_251.out; have hnc21 := NB251_259.out; obtain ⟨hcz22_0, hcz22_1, hcz22_2, hcz22_3, hfz22_0, hfz22_1, hfz22_2, hfz22_3⟩ := cz4_ (w := w20) BK259.out; obtain ⟨hcz23_0, hcz23_1, hcz23_2, hcz23_3, hcz23_4, hfz23_0, hfz23_1, hfz23_2, hfz23_3, hfz23_4⟩ := cz5_ (w := w20) BK251.out; have p260 : 0 ≤ ((ji11) : Int) := of_decide_eq_true z75_; have q260 : (ji11) < (l0_2.length : Int) := of_decide_eq_true z75_; obtain ⟨ad260, e260, hx260_0⟩ := Kd.at_int HR0_2.out (ji11) p260 q260; cases e260; have hn260_0 : ad260.block ≠ gb259 := Nat.ne_of_lt (Nat.lt_of_lt_of_le z66_ GW259.out); have hn260_1 : ad260.block ≠ gb259 := Nat.ne_of_lt (Nat.lt_of_lt_of_le z66_ GW259.out); have hn260_2 : ad260.block ≠ gb259 := Nat.ne_of_lt (Nat.lt_of_lt_of_le z66_ GW259.out); have hn260_3 : ad260.block ≠ gb259 := Nat.ne_of_lt (Nat.lt_of_lt_of_le z66_ GW259.out); replace hx260_0 := (HB.out.cell (World.block_lt_of_cell? _ _ hx260_0)).trans hx260_0; replace hx260_0 := (cell_far (p := ⟨gb259, 0, none⟩) z37_ (.int .i64 ((rd_T64 t252 x7_1).f0))).trans hx260_0; replace hx260_0 := (cell_far (p := ⟨gb259, 1, none⟩) z38_ (.int .i64 ((rd_T64 t252 x7_1).f1))).trans hx260_0; replace hx260_0 := (cell_far (p := ⟨gb259, 2, none⟩) z39_ (.bool ((rd_T64 t252 x7_1).f2))).trans hx260_0; replace hx260_0 := (cell_far (p := ⟨gb259, 3, none⟩) z40_ (.bool ((rd_T64 t252 x7_1).f3))).trans hx260_0; (try have hy260_0 := fun (n_ : Nat) => (show ((((((w20.drewN n_).setCell ⟨gb259, 0, none⟩ (.int .i64 ((rd_T64 t252 x7_1).f0))).setCell ⟨gb259, 1, none⟩ (.int .i64 ((rd_T64 t252 x7_1).f1))).setCell ⟨gb259, 2, none⟩ (.bool ((rd_T64 t252 x7_1).f2))).setCell ⟨gb259, 3, none⟩ (.bool ((rd_T64 t252 x7_1).f3)))).cell? _ = some _ from hx260_0)); clear hn260_0; clear hn260_1; clear hn260_2; clear hn260_3; replace p260 := eq_true p260; replace q260 := eq_true q260; have p261 : 0 ≤ ((ji14) : Int) := of_decide_eq_true z75_; have q261 : (ji14) < (l0_3.length : Int) := of_decide_eq_true z75_; obtain ⟨ad261, e261, hx261_0⟩ := Kd.at_int HR0_3.out (ji14) p261 q261; cases e261; have hn261_0 : ad261.block ≠ gb259 := Nat.ne_of_lt (Nat.lt_of_lt_of_le z67_ GW259.out); have hn261_1 : ad261.block ≠ gb259 := Nat.ne_of_lt (Nat.lt_of_lt_of_le z67_ GW259.out); have hn261_2 : ad261.block ≠ gb259 := Nat.ne_of_lt (Nat.lt_of_lt_of_le z67_ GW259.out); have hn261_3 : ad261.block ≠ gb259 := Nat.ne_of_lt (Nat.lt_of_lt_of_le z67_ GW259.out); replace hx261_0 := (HB.out.cell (World.block_lt_of_cell? _ _ hx261_0)).trans hx261_0; replace hx261_0 := (cell_far (p := ⟨gb259, 0, none⟩) z41_ (.int .i64 ((rd_T64 t252 x7_1).f0))).trans hx261_0; replace hx261_0 := (cell_far (p := ⟨gb259, 1, none⟩) z42_ (.int .i64 ((rd_T64 t252 x7_1).f1))).trans hx261_0; replace hx261_0 := (cell_far (p := ⟨gb259, 2, none⟩) z43_ (.bool ((rd_T64 t252 x7_1).f2))).trans hx261_0; replace hx261_0 := (cell_far (p := ⟨gb259, 3, none⟩) z44_ (.bool ((rd_T64 t252 x7_1).f3))).trans hx261_0; (try have hy261_0 := fun (n_ : Nat) => (show ((((((w20.drewN n_).setCell ⟨gb259, 0, none⟩ (.int .i64 ((rd_T64 t252 x7_1).f0))).setCell ⟨gb259, 1, none⟩ (.int .i64 ((rd_T64 t252 x7_1).f1))).setCell ⟨gb259, 2, none⟩ (.bool ((rd_T64 t252 x7_1).f2))).setCell ⟨gb259, 3, none⟩ (.bool ((rd_T64 t252 x7_1).f3)))).cell? _ = some _ from hx261_0)); clear hn261_0; clear hn261_1; clear hn261_2; clear hn261_3; replace p261 := eq_true p261; replace q261 := eq_true q261) | (go_at_call 83; (with_reducible refine (spec_l04Down.calls ((rd_T64 t252 x7_1).f0) ((rd_T64 t252 x7_1).f1) ((rd_T64 t252 x7_1).f2) ((rd_T64 t252 x7_1).f3) t262 _ A17.out).mono ?_); rintro e w24 ⟨rfl, hb⟩; replace HO_5 := a_ (Kd.R_below (rc_ (h := by exact Kd.R_mono (Kd.R_far (p := ⟨gb259, 3, none⟩) (Kd.R_far (p := ⟨gb259, 2, none⟩) (Kd.R_far (p := ⟨gb259, 1, none⟩) (Kd.R_far (p := ⟨gb259, 0, none⟩) (Kd.R_mono HO_5.out (fun k_ hk => (⟨hk, hk.2⟩ : _ ∧ k_ ≠ gb259))) (fun _ hk => hk.2) (.int .i64 ((rd_T64 t252 x7_1).f0))) (fun _ hk => hk.2) (.int .i64 ((rd_T64 t252 x7_1).f1))) (fun _ hk => hk.2) (.bool ((rd_T64 t252 x7_1).f2))) (fun _ hk => hk.2) (.bool ((rd_T64 t252 x7_1).f3))) (fun _ h_ => h_.1))) hb); replace HO_6 := a_ (Kd.R_below (rc_ (h := by exact Kd.R_mono (rt4_ HO_6.out BK259.out) (fun _ h_ => h_.1))) hb); replace BK251 := a_ (blk_below (g := gb251) (o := .cells #[.int .i64 a0_0, .int .i64 a0_1, .slice (some ad260) l0_2.length c0_2, .slice (some ad261) l0_3.length c0_3, .slice A0_4 l0_4.length c0_4] 28 (0, 0)) (rb2_ (h := by exact bf4_ NB251_259.out BK251.out)) hb); replace BK259 := a_ (blk_below (g := gb259) (o := .cells #[.int .i64 ((rd_T64 t252 x7_1).f0), .int .i64 ((rd_T64 t252 x7_1).f1), .bool ((rd_T64 t252 x7_1).f2), .bool ((rd_T64 t252 x7_1).f3)] 64 (0, 0)) (rb2_ (h := by exact bp4x4_ BK259.out)) hb); replace HB := a_ (below_step z5_ hb); (try clear hb); (try clear hb2); (try clear hk); (try clear hi))); go_upto_if 59 with (first | ((with_reducible refine gate_dst (N := 8) rfl ?_); refine box_event ?hg (N := 8) ?hd (cs := #[.int .i64 0, .int .i64 0, .bool false, .bool false]) (t := 64) ?hr ?_; (case hd => rfl); (case hg => rfl); (case hr => first | (go_simp; done) | (go_simp; rfl)); intro gb259 hg w20 hbox hb; replace HO_5 := a_ (Kd.R_below (Kd.R_elderB (ra_ HO_5.out) gb259 (Nat.le_of_eq hg.symm)) hb); replace HO_6 := a_ (Kd.R_below (ra_ HO_6.out) hb); have BK259 := a_ (hbox); have GW259 := a_ ((z10_ : w.heap.size ≤ gb259)); have GE259 := a_ ((z10_ : w.heap.size ≤ gb259)); replace HB := a_ (below_step z20_ hb); have NB251_259 := a_ ((by rw [hg]; exact Nat.ne_of_lt (blk_lt (g := gb251) (rb_ BK251.out)) : gb251 ≠ gb259)); have NB259_251 := a_ ((by rw [hg]; exact Nat.ne_of_gt (blk_lt (g := gb251) (rb_ BK251.out)) : gb259 ≠ gb251)); replace BK251 := a_ (blk_below (g := gb251) (rb_ BK251.out) hb); clear hb hbox hg; have hnb21 := NB259_251.out; have hnc21 := NB251_259.out; obtain ⟨hcz22_0, hcz22_1, hcz22_2, hcz22_3, hfz22_0, hfz22_1, hfz22_2, hfz22_3⟩ := cz4_ (w := w20) BK259.out; obtain ⟨hcz23_0, hcz23_1, hcz23_2, hcz23_3, hcz23_4, hfz23_0, hfz23_1, hfz23_2, hfz23_3, hfz23_4⟩ := cz5_ (w := w20) BK251.out; have p260 : 0 ≤ ((ji11) : Int) := of_decide_eq_true z75_; have q260 : (ji11) < (l0_2.length : Int) := of_decide_eq_true z75_; obtain ⟨ad260, e260, hx260_0⟩ := Kd.at_int HR0_2.out (ji11) p260 q260; cases e260; have hn260_0 : ad260.block ≠ gb259 := Nat.ne_of_lt (Nat.lt_of_lt_of_le z66_ GW259.out); have hn260_1 : ad260.block ≠ gb259 := Nat.ne_of_lt (Nat.lt_of_lt_of_le z66_ GW259.out); have hn260_2 : ad260.block ≠ gb259 := Nat.ne_of_lt (Nat.lt_of_lt_of_le z66_ GW259.out); have hn260_3 : ad260.block ≠ gb259 := Nat.ne_of_lt (Nat.lt_of_lt_of_le z66_ GW259.out); replace hx260_0 := (HB.out.cell (World.block_lt_of_cell? _ _ hx260_0)).trans hx260_0; replace hx260_0 := (cell_far (p := ⟨gb259, 0, none⟩) z37_ (.int .i64 ((rd_T64 t252 x7_1).f0))).trans hx260_0; replace hx260_0 := (cell_far (p := ⟨gb259, 1, none⟩) z38_ (.int .i64 ((rd_T64 t252 x7_1).f1))).trans hx260_0; replace hx260_0 := (cell_far (p := ⟨gb259, 2, none⟩) z39_ (.bool ((rd_T64 t252 x7_1).f2))).trans hx260_0; replace hx260_0 := (cell_far (p := ⟨gb259, 3, none⟩) z40_ (.bool ((rd_T64 t252 x7_1).f3))).trans hx260_0; (try have hy260_0 := fun (n_ : Nat) => (show ((((((w20.drewN n_).setCell ⟨gb259, 0, none⟩ (.int .i64 ((rd_T64 t252 x7_1).f0))).setCell ⟨gb259, 1, none⟩ (.int .i64 ((rd_T64 t252 x7_1).f1))).setCell ⟨gb259, 2, none⟩ (.bool ((rd_T64 t252 x7_1).f2))).setCell ⟨gb259, 3, none⟩ (.bool ((rd_T64 t252 x7_1).f3)))).cell? _ = some _ from hx260_0)); clear hn260_0; clear hn260_1; clear hn260_2; clear hn260_3; replace p260 := eq_true p260; replace q260 := eq_true q260; have p261 : 0 ≤ ((ji14) : Int) := of_decide_eq_true z75_; have q261 : (ji14) < (l0_3.length : Int) := of_decide_eq_true z75_; obtain ⟨ad261, e261, hx261_0⟩ := Kd.at_int HR0_3.out (ji14) p261 q261; cases e261; have hn261_0 : ad261.block ≠ gb259 := Nat.ne_of_lt (Nat.lt_of_lt_of_le z67_ GW259.out); have hn261_1 : ad261.block ≠ gb259 := Nat.ne_of_lt (Nat.lt_of_lt_of_le z67_ GW259.out); have hn261_2 : ad261.block ≠ gb259 := Nat.ne_of_lt (Nat.lt_of_lt_of_le z67_ GW259.out); have hn261_3 : ad261.block ≠ gb259 := Nat.ne_of_lt (Nat.lt_of_lt_of_le z67_ GW259.out); replace hx261_0 := (HB.out.cell (World.block_lt_of_cell? _ _ hx261_0)).trans hx261_0; replace hx261_0 := (cell_far (p := ⟨gb259, 0, none⟩) z41_ (.int .i64 ((rd_T64 t252 x7_1).f0))).trans hx261_0; replace hx261_0 := (cell_far (p := ⟨gb259, 1, none⟩) z42_ (.int .i64 ((rd_T64 t252 x7_1).f1))).trans hx261_0; replace hx261_0 := (cell_far (p := ⟨gb259, 2, none⟩) z43_ (.bool ((rd_T64 t252 x7_1).f2))).trans hx261_0; replace hx261_0 := (cell_far (p := ⟨gb259, 3, none⟩) z44_ (.bool ((rd_T64 t252 x7_1).f3))).trans hx261_0; (try have hy261_0 := fun (n_ : Nat) => (show ((((((w20.drewN n_).setCell ⟨gb259, 0, none⟩ (.int .i64 ((rd_T64 t252 x7_1).f0))).setCell ⟨gb259, 1, none⟩ (.int .i64 ((rd_T64 t252 x7_1).f1))).setCell ⟨gb259, 2, none⟩ (.bool ((rd_T64 t252 x7_1).f2))).setCell ⟨gb259, 3, none⟩ (.bool ((rd_T64 t252 x7_1).f3)))).cell? _ = some _ from hx261_0)); clear hn261_0; clear hn261_1; clear hn261_2; clear hn261_3; replace p261 := eq_true p261; replace q261 := eq_true q261) | (go_at_call 83; (with_reducible refine (spec_l04Down.calls ((rd_T64 t252 x7_1).f0) ((rd_T64 t252 x7_1).f1) ((rd_T64 t252 x7_1).f2) ((rd_T64 t252 x7_1).f3) t262 _ A17.out).mono ?_); rintro e w24 ⟨rfl, hb⟩; replace HO_5 := a_ (Kd.R_below (rc_ (h := by exact Kd.R_mono (Kd.R_far (p := ⟨gb259, 3, none⟩) (Kd.R_far (p := ⟨gb259, 2, none⟩) (Kd.R_far (p := ⟨gb259, 1, none⟩) (Kd.R_far (p := ⟨gb259, 0, none⟩) (Kd.R_mono HO_5.out (fun k_ hk => (⟨hk, hk.2⟩ : _ ∧ k_ ≠ gb259))) (fun _ hk => hk.2) (.int .i64 ((rd_T64 t252 x7_1).f0))) (fun _ hk => hk.2) (.int .i64 ((rd_T64 t252 x7_1).f1))) (fun _ hk => hk.2) (.bool ((rd_T64 t252 x7_1).f2))) (fun _ hk => hk.2) (.bool ((rd_T64 t252 x7_1).f3))) (fun _ h_ => h_.1))) hb); replace HO_6 := a_ (Kd.R_below (rc_ (h := by exact Kd.R_mono (rt4_ HO_6.out BK259.out) (fun _ h_ => h_.1))) hb); replace BK251 := a_ (blk_below (g := gb251) (o := .cells #[.int .i64 a0_0, .int .i64 a0_1, .slice (some ad260) l0_2.length c0_2, .slice (some ad261) l0_3.length c0_3, .slice A0_4 l0_4.length c0_4] 28 (0, 0)) (rb2_ (h := by exact bf4_ NB251_259.out BK251.out)) hb); replace BK259 := a_ (blk_below (g := gb259) (o := .cells #[.int .i64 ((rd_T64 t252 x7_1).f0), .int .i64 ((rd_T64 t252 x7_1).f1), .bool ((rd_T64 t252 x7_1).f2), .bool ((rd_T64 t252 x7_1).f3)] 64 (0, 0)) (rb2_ (h := by exact bp4x4_ BK259.out)) hb); replace HB := a_ (below_step z5_ hb); (try clear hb); (try clear hb2); (try clear hk); (try clear hi))))
         (try simp only [Act.put, List.setIfInBounds_toArray, List.set_cons_zero, List.set_cons_succ])
         go_cut [10, 11] (fun v10 v11 wc => ∃ (kq : Nat) (x10_17 : Int) (x11_17 : Int), v10 = .int .i64 x10_17 ∧ v11 = .int .i64 x11_17 ∧ Aside0 (spec_l05Read.j1 kq t252 x6_1 x7_1 ji11 x10_17 x11_17 a0_0 a0_1 l0_2 l0_3 l0_4 ((rd_T64 t252 x7_1).f0) ((rd_T64 t252 x7_1).f1) ((rd_T64 t252 x7_1).f2) ((rd_T64 t252 x7_1).f3) = some r) ∧ Aside0 (kq ≤ k1) ∧ Aside0 (Kd.R k64 64 wc w.heap.size (fun k_ => k_ ≠ gb259) (.slice (some ad258) t252.length co19) t252) ∧ Aside0 (Kd.R (Kd.int .i64) 2 wc w.heap.size (fun _ => True) u6 x6_1) ∧ Aside0 (wc.heap[gb251]? = some (.cells #[.int .i64 a0_0, .int .i64 a0_1, (.slice (some ad260) l0_2.length c0_2), (.slice (some ad261) l0_3.length c0_3), (.slice A0_4 l0_4.length c0_4)] 28 (0, 0))) ∧ Aside0 (wc.heap[gb259]? = some (.cells #[.int .i64 ((rd_T64 t252 x7_1).f0), .int .i64 ((rd_T64 t252 x7_1).f1), .bool ((rd_T64 t252 x7_1).f2), .bool ((rd_T64 t252 x7_1).f3)] 64 (0, 0))) ∧ Aside0 (Below w.heap.size w wc))
         case first =>
          have H := HC18.out
          clear HC18
          by_cases c25 : t262 = true
          ·subst c25
           have H1 : (spec_l05Read.j1 k1 t252 x6_1 x7_1 ji11 (rd l0_3 (ji14)) (rd l0_2 (ji11)) a0_0 a0_1 l0_2 l0_3 l0_4 ((rd_T64 t252 x7_1).f0) ((rd_T64 t252 x7_1).f1) ((rd_T64 t252 x7_1).f2) ((rd_T64 t252 x7_1).f3)) = some r := by rw [if_pos rfl] at H; exact H
           clear H
           have H := H1
           clear H1
           have H' := Aside0.mk H
           clear H
           go_wp2
           repeat (go_quiet (fail); try go_wp2)
           go_meet
           case rel => exact ⟨_, (rd l0_3 (ji14)), (rd l0_2 (ji11)), (by first | rfl | (simp; done) | (simp only [← hji14] <;> (first | rfl | simp)) | (simp [*]; done)), (by first | rfl | (simp; done) | (simp only [← hji11] <;> (first | rfl | simp)) | (simp [*]; done)), H', ⟨z74_⟩, ⟨z35_⟩, ⟨z64_⟩, ⟨z54_⟩, ⟨by (with_reducible repeat (first | refine blk_drewN ?_ _ | refine blk_drew ?_ | refine blk_alloc ?_ _)); exact BK259.out⟩, ⟨z5_⟩⟩
          ·replace c25 := Bool.eq_false_iff.mpr c25
           subst c25
           have H1 : (spec_l05Read.j1 k1 t252 x6_1 x7_1 ji11 (rd l0_2 (ji11)) (rd l0_3 (ji14)) a0_0 a0_1 l0_2 l0_3 l0_4 ((rd_T64 t252 x7_1).f0) ((rd_T64 t252 x7_1).f1) ((rd_T64 t252 x7_1).f2) ((rd_T64 t252 x7_1).f3)) = some r := by rw [if_neg (show ¬ (false = true) by decide)] at H; exact H
           clear H
           have H := H1
           clear H1
           have H' := Aside0.mk H
           clear H
           go_wp2
           repeat (go_quiet (fail); try go_wp2)
           go_meet
           case rel => exact ⟨_, (rd l0_2 (ji11)), (rd l0_3 (ji14)), (by first | rfl | (simp; done) | (simp only [← hji11] <;> (first | rfl | simp)) | (simp [*]; done)), (by first | rfl | (simp; done) | (simp only [← hji14] <;> (first | rfl | simp)) | (simp [*]; done)), H', ⟨z74_⟩, ⟨z35_⟩, ⟨z64_⟩, ⟨z54_⟩, ⟨by (with_reducible repeat (first | refine blk_drewN ?_ _ | refine blk_drew ?_ | refine blk_alloc ?_ _)); exact BK259.out⟩, ⟨z5_⟩⟩
         case rest =>
          clear HC18; try clear c9b0; try clear c10b0; try clear c12b0; try clear c13b0; try clear c15b0; try clear c16b0; try clear hcz22_0 hcz22_1 hcz22_2 hcz22_3; try clear hcz23_0 hcz23_1 hcz23_2 hcz23_3 hcz23_4; try clear hfz22_0 hfz22_1 hfz22_2 hfz22_3; try clear hfz23_0 hfz23_1 hfz23_2 hfz23_3 hfz23_4; try clear hx258_0; try clear hx258_1; try clear hx258_2; try clear hx258_3; try clear hx260_0; try clear hx261_0; try clear p258; try clear p260; try clear p261; try clear q258; try clear q260; try clear q261
          obtain ⟨kq, x10_17, x11_17, rfl, rfl, HA, HJ17, HO_5, HO_6, BK251, BK259, HB⟩ := hcut
          cases kq with
          | zero => exact absurd HA.out (by simp [spec_l05Read.j1])
          | succ kj17 =>
           have H := HA.out
           clear HA
           simp only [spec_l05Read.j1] at H
           by_cases c26 : 0 ≤ ji11
           ·rw [if_pos c26] at H
            have c26b0 : decide (0 ≤ ji11) = true := decide_eq_true c26
            clear c26
            by_cases c27 : ji11 < (l0_4.length : Int)
            ·rw [if_pos c27] at H
             have c27b0 : decide (ji11 < (l0_4.length : Int)) = true := decide_eq_true c27
             clear c27
             by_cases c28 : (((rd_T64 t252 x7_1).f3) != ((rd l0_4 ji11) == 1)) = true
             ·rw [if_pos c28] at H
              have c28b0 : (((rd_T64 t252 x7_1).f3) != ((rd l0_4 ji11) == 1)) = true := c28
              (try (have c28b1 : decide (((rd_T64 t252 x7_1).f3) = ((rd l0_4 ji11) == 1)) = false := by simpa using c28))
              (try (have c28b2 : (((rd_T64 t252 x7_1).f3) == ((rd l0_4 ji11) == 1)) = false := by simpa using c28))
              (try (have c28b3 : ¬ (((rd_T64 t252 x7_1).f3) = ((rd l0_4 ji11) == 1)) := by simpa using c28))
              clear c28
              obtain ⟨y264, hy264⟩ : ∃ y_ : List Int, y_ = (([wrap64 (-x10_17), wrap64 (-x11_17)] : List Int)) := ⟨_, rfl⟩
              replace H : (if x6_1.length + y264.length < 17592186044416 then (spec_l05Read.l0 kj17 t252 (x6_1 ++ y264) (wrap64 (x7_1 + 1)) a0_0 a0_1 l0_2 l0_3 l0_4) else (none)) = some r := rh_ hy264 H
              have Ny264 := Aside0.mk hy264
              clear hy264
              by_cases c29 : x6_1.length + y264.length < 17592186044416
              ·rw [if_pos c29] at H
               have LMc29 := Aside0.mk c29
               clear c29
               obtain ⟨y267, hy267⟩ : ∃ y_ : List Int, y_ = (x6_1 ++ y264) := ⟨_, rfl⟩
               replace H : (spec_l05Read.l0 kj17 t252 y267 (wrap64 (x7_1 + 1)) a0_0 a0_1 l0_2 l0_3 l0_4) = some r := rh_ hy267 H
               have Ny267 := Aside0.mk hy267
               clear hy267
               have H' := Aside0.mk H
               clear H
               have hnb30 := NB259_251.out
               have hnc30 := NB251_259.out
               obtain ⟨hcz31_0, hcz31_1, hcz31_2, hcz31_3, hfz31_0, hfz31_1, hfz31_2, hfz31_3⟩ := cz4_ (w := wc) BK259.out
               obtain ⟨hcz32_0, hcz32_1, hcz32_2, hcz32_3, hcz32_4, hfz32_0, hfz32_1, hfz32_2, hfz32_3, hfz32_4⟩ := cz5_ (w := wc) BK251.out
               have p263 : 0 ≤ (ji11 : Int) := of_decide_eq_true z75_
               have q263 : ji11 < (l0_4.length : Int) := of_decide_eq_true z75_
               obtain ⟨ad263, e263, hx263_0⟩ := Kd.at_int HR0_4.out ji11 p263 q263
               cases e263
               replace hx263_0 := (HB.out.cell (World.block_lt_of_cell? _ _ hx263_0)).trans hx263_0
               replace p263 := eq_true p263
               replace q263 := eq_true q263
               go_wp2_with (first | ((with_reducible refine gate_dst (N := 78) rfl ?_); refine Kd.R_lit (Kd.int .i64) _ 2 ?hg (N := 78) ?hd (xs := ([wrap64 (-x10_17), wrap64 (-x11_17)] : List Int)) (inner := [.int .i64 (wrap64 (-x10_17)), .int .i64 (wrap64 (-x11_17))]) (ok := fun _ => True) (okp := fun _ => True) ?hr ?hp (fun _ hk => hk) trivial (Below.refl _ _) (Nat.le_refl _) (by simp) ?_; (case hd => rfl); (case hg => rfl); (case hr => first | (go_simp; done) | (go_simp; rfl)); (case hp => exact (Reps.one (show Kd.M (Kd.int .i64) _ _ _ (wrap64 (-x10_17)) [.int .i64 (wrap64 (-x10_17))] from rfl) (Reps.one (show Kd.M (Kd.int .i64) _ _ _ (wrap64 (-x11_17)) [.int .i64 (wrap64 (-x11_17))] from rfl) (Reps.none _ _)))); intro v265 w33 ho34 hb hg_ hnew_; clear hg_ hnew_; (first | rw [← Ny264.out] at ho34 | (simp only [Int.reduceToNat] at ho34; rw [← Ny264.out] at ho34)); replace HO_5 := a_ (Kd.R_below (ra_ HO_5.out) hb); have HO266 := a_ (Kd.R_lower (Kd.R_new' ho34 (Kd.R_lt (ra_ HO_6.out))) (below_size z5_)); replace HO_6 := a_ (Kd.R_elder' (ra_ HO_6.out) (Kd.R_base ho34) hb); replace BK251 := a_ (blk_below (g := gb251) (rb_ BK251.out) hb); replace BK259 := a_ (blk_below (g := gb259) (rb_ BK259.out) hb); replace HB := a_ (below_step z5_ hb); clear hb ho34; obtain ⟨Ao36, co36, eo36⟩ := Kd.R_slice HO266.out; subst eo36) | ((with_reducible refine gate_builtin (b := .append) (xs := #[.tmp 75, .tmp 78]) rfl ?_); at_builtin; refine Kd.R_append_rows (Kd.int .i64) (w0 := w) w.heap.size rfl (.tmp 75) (.tmp 78) 22 2 (.int .i64 0) 8 rfl Tryz.underlying22 info2 rfl (by decide) (by omega) u6 x6_1 y264 _ _ _ (fun k_ => nb_ k_ Ao36 y264.length co36) (fun _ => False) rfl rfl ?aO ?aR (fun _ _ h => h) (fun _ h => h.elim) ?aF ?aB ?aS ?aL ?_; (case aR => repeat (first | exact (Kd.R_reads' HO266.out).2.2 | (with_reducible refine Kd.C_alloc ?_ _) | (with_reducible refine Kd.C_drewN ?_ _) | (with_reducible refine Kd.C_drew ?_))); (case aB => exact z5_); (case aF => exact (fun k_ hk => Kd.fresh' (Kd.R_lt (ra_ HO266.out)) k_ hk)); (case aO => exact (rc_ (h := by exact Kd.R_mono HO_6.out (fun _ hk => hk.2)))); (case aS => exact (below_size z5_)); (case aL => have := LMc29.out; omega); intro v268 w35 ho hb hg hat; rw [← Ny267.out] at ho; replace HO_5 := a_ (Kd.R_over' (ra_ HO_5.out) (Kd.R_typed (ra_ HO_6.out)) (by decide) hg); replace BK251 := a_ (blk_grown (g := gb251) (rb_ BK251.out) hg (Kd.R_ne HO_6.out BK251.out (by decide))); replace BK259 := a_ (blk_grown (g := gb259) (rb_ BK259.out) hg (Kd.R_ne HO_6.out BK259.out (by decide))); replace HO266 := a_ (Kd.R_after (ok := (fun _ => True)) (ra_ HO266.out) hg hat); replace HB := a_ (hb); have HO269 := a_ (ho); clear HO_6; clear ho hb hg hat))
               repeat (go_quiet (first | ((with_reducible refine gate_dst (N := 78) rfl ?_); refine Kd.R_lit (Kd.int .i64) _ 2 ?hg (N := 78) ?hd (xs := ([wrap64 (-x10_17), wrap64 (-x11_17)] : List Int)) (inner := [.int .i64 (wrap64 (-x10_17)), .int .i64 (wrap64 (-x11_17))]) (ok := fun _ => True) (okp := fun _ => True) ?hr ?hp (fun _ hk => hk) trivial (Below.refl _ _) (Nat.le_refl _) (by simp) ?_; (case hd => rfl); (case hg => rfl); (case hr => first | (go_simp; done) | (go_simp; rfl)); (case hp => exact (Reps.one (show Kd.M (Kd.int .i64) _ _ _ (wrap64 (-x10_17)) [.int .i64 (wrap64 (-x10_17))] from rfl) (Reps.one (show Kd.M (Kd.int .i64) _ _ _ (wrap64 (-x11_17)) [.int .i64 (wrap64 (-x11_17))] from rfl) (Reps.none _ _)))); intro v265 w33 ho34 hb hg_ hnew_; clear hg_ hnew_; (first | rw [← Ny264.out] at ho34 | (simp only [Int.reduceToNat] at ho34; rw [← Ny264.out] at ho34)); replace HO_5 := a_ (Kd.R_below (ra_ HO_5.out) hb); have HO266 := a_ (Kd.R_lower (Kd.R_new' ho34 (Kd.R_lt (ra_ HO_6.out))) (below_size z5_)); replace HO_6 := a_ (Kd.R_elder' (ra_ HO_6.out) (Kd.R_base ho34) hb); replace BK251 := a_ (blk_below (g := gb251) (rb_ BK251.out) hb); replace BK259 := a_ (blk_below (g := gb259) (rb_ BK259.out) hb); replace HB := a_ (below_step z5_ hb); clear hb ho34; obtain ⟨Ao36, co36, eo36⟩ := Kd.R_slice HO266.out; subst eo36) | ((with_reducible refine gate_builtin (b := .append) (xs := #[.tmp 75, .tmp 78]) rfl ?_); at_builtin; refine Kd.R_append_rows (Kd.int .i64) (w0 := w) w.heap.size rfl (.tmp 75) (.tmp 78) 22 2 (.int .i64 0) 8 rfl Tryz.underlying22 info2 rfl (by decide) (by omega) u6 x6_1 y264 _ _ _ (fun k_ => nb_ k_ Ao36 y264.length co36) (fun _ => False) rfl rfl ?aO ?aR (fun _ _ h => h) (fun _ h => h.elim) ?aF ?aB ?aS ?aL ?_; (case aR => repeat (first | exact (Kd.R_reads' HO266.out).2.2 | (with_reducible refine Kd.C_alloc ?_ _) | (with_reducible refine Kd.C_drewN ?_ _) | (with_reducible refine Kd.C_drew ?_))); (case aB => exact z5_); (case aF => exact (fun k_ hk => Kd.fresh' (Kd.R_lt (ra_ HO266.out)) k_ hk)); (case aO => exact (rc_ (h := by exact Kd.R_mono HO_6.out (fun _ hk => hk.2)))); (case aS => exact (below_size z5_)); (case aL => have := LMc29.out; omega); intro v268 w35 ho hb hg hat; rw [← Ny267.out] at ho; replace HO_5 := a_ (Kd.R_over' (ra_ HO_5.out) (Kd.R_typed (ra_ HO_6.out)) (by decide) hg); replace BK251 := a_ (blk_grown (g := gb251) (rb_ BK251.out) hg (Kd.R_ne HO_6.out BK251.out (by decide))); replace BK259 := a_ (blk_grown (g := gb259) (rb_ BK259.out) hg (Kd.R_ne HO_6.out BK259.out (by decide))); replace HO266 := a_ (Kd.R_after (ok := (fun _ => True)) (ra_ HO266.out) hg hat); replace HB := a_ (hb); have HO269 := a_ (ho); clear HO_6; clear ho hb hg hat)); try go_wp2_with (first | ((with_reducible refine gate_dst (N := 78) rfl ?_); refine Kd.R_lit (Kd.int .i64) _ 2 ?hg (N := 78) ?hd (xs := ([wrap64 (-x10_17), wrap64 (-x11_17)] : List Int)) (inner := [.int .i64 (wrap64 (-x10_17)), .int .i64 (wrap64 (-x11_17))]) (ok := fun _ => True) (okp := fun _ => True) ?hr ?hp (fun _ hk => hk) trivial (Below.refl _ _) (Nat.le_refl _) (by simp) ?_; (case hd => rfl); (case hg => rfl); (case hr => first | (go_simp; done) | (go_simp; rfl)); (case hp => exact (Reps.one (show Kd.M (Kd.int .i64) _ _ _ (wrap64 (-x10_17)) [.int .i64 (wrap64 (-x10_17))] from rfl) (Reps.one (show Kd.M (Kd.int .i64) _ _ _ (wrap64 (-x11_17)) [.int .i64 (wrap64 (-x11_17))] from rfl) (Reps.none _ _)))); intro v265 w33 ho34 hb hg_ hnew_; clear hg_ hnew_; (first | rw [← Ny264.out] at ho34 | (simp only [Int.reduceToNat] at ho34; rw [← Ny264.out] at ho34)); replace HO_5 := a_ (Kd.R_below (ra_ HO_5.out) hb); have HO266 := a_ (Kd.R_lower (Kd.R_new' ho34 (Kd.R_lt (ra_ HO_6.out))) (below_size z5_)); replace HO_6 := a_ (Kd.R_elder' (ra_ HO_6.out) (Kd.R_base ho34) hb); replace BK251 := a_ (blk_below (g := gb251) (rb_ BK251.out) hb); replace BK259 := a_ (blk_below (g := gb259) (rb_ BK259.out) hb); replace HB := a_ (below_step z5_ hb); clear hb ho34; obtain ⟨Ao36, co36, eo36⟩ := Kd.R_slice HO266.out; subst eo36) | ((with_reducible refine gate_builtin (b := .append) (xs := #[.tmp 75, .tmp 78]) rfl ?_); at_builtin; refine Kd.R_append_rows (Kd.int .i64) (w0 := w) w.heap.size rfl (.tmp 75) (.tmp 78) 22 2 (.int .i64 0) 8 rfl Tryz.underlying22 info2 rfl (by decide) (by omega) u6 x6_1 y264 _ _ _ (fun k_ => nb_ k_ Ao36 y264.length co36) (fun _ => False) rfl rfl ?aO ?aR (fun _ _ h => h) (fun _ h => h.elim) ?aF ?aB ?aS ?aL ?_; (case aR => repeat (first | exact (Kd.R_reads' HO266.out).2.2 | (with_reducible refine Kd.C_alloc ?_ _) | (with_reducible refine Kd.C_drewN ?_ _) | (with_reducible refine Kd.C_drew ?_))); (case aB => exact z5_); (case aF => exact (fun k_ hk => Kd.fresh' (Kd.R_lt (ra_ HO266.out)) k_ hk)); (case aO => exact (rc_ (h := by exact Kd.R_mono HO_6.out (fun _ hk => hk.2)))); (case aS => exact (below_size z5_)); (case aL => have := LMc29.out; omega); intro v268 w35 ho hb hg hat; rw [← Ny267.out] at ho; replace HO_5 := a_ (Kd.R_over' (ra_ HO_5.out) (Kd.R_typed (ra_ HO_6.out)) (by decide) hg); replace BK251 := a_ (blk_grown (g := gb251) (rb_ BK251.out) hg (Kd.R_ne HO_6.out BK251.out (by decide))); replace BK259 := a_ (blk_grown (g := gb259) (rb_ BK259.out) hg (Kd.R_ne HO_6.out BK259.out (by decide))); replace HO266 := a_ (Kd.R_after (ok := (fun _ => True)) (ra_ HO266.out) hg hat); replace HB := a_ (hb); have HO269 := a_ (ho); clear HO_6; clear ho hb hg hat)))
               try (have hw1_ := Go.IntWalk.i64_left (-x10_17); have hw2_ := Go.IntWalk.i64_left (-x11_17); (go_quiet (first | ((with_reducible refine gate_dst (N := 78) rfl ?_); refine Kd.R_lit (Kd.int .i64) _ 2 ?hg (N := 78) ?hd (xs := ([wrap64 (-x10_17), wrap64 (-x11_17)] : List Int)) (inner := [.int .i64 (wrap64 (-x10_17)), .int .i64 (wrap64 (-x11_17))]) (ok := fun _ => True) (okp := fun _ => True) ?hr ?hp (fun _ hk => hk) trivial (Below.refl _ _) (Nat.le_refl _) (by simp) ?_; (case hd => rfl); (case hg => rfl); (case hr => first | (go_simp; done) | (go_simp; rfl)); (case hp => exact (Reps.one (show Kd.M (Kd.int .i64) _ _ _ (wrap64 (-x10_17)) [.int .i64 (wrap64 (-x10_17))] from rfl) (Reps.one (show Kd.M (Kd.int .i64) _ _ _ (wrap64 (-x11_17)) [.int .i64 (wrap64 (-x11_17))] from rfl) (Reps.none _ _)))); intro v265 w33 ho34 hb hg_ hnew_; clear hg_ hnew_; (first | rw [← Ny264.out] at ho34 | (simp only [Int.reduceToNat] at ho34; rw [← Ny264.out] at ho34)); replace HO_5 := a_ (Kd.R_below (ra_ HO_5.out) hb); have HO266 := a_ (Kd.R_lower (Kd.R_new' ho34 (Kd.R_lt (ra_ HO_6.out))) (below_size z5_)); replace HO_6 := a_ (Kd.R_elder' (ra_ HO_6.out) (Kd.R_base ho34) hb); replace BK251 := a_ (blk_below (g := gb251) (rb_ BK251.out) hb); replace BK259 := a_ (blk_below (g := gb259) (rb_ BK259.out) hb); replace HB := a_ (below_step z5_ hb); clear hb ho34; obtain ⟨Ao36, co36, eo36⟩ := Kd.R_slice HO266.out; subst eo36) | ((with_reducible refine gate_builtin (b := .append) (xs := #[.tmp 75, .tmp 78]) rfl ?_); at_builtin; refine Kd.R_append_rows (Kd.int .i64) (w0 := w) w.heap.size rfl (.tmp 75) (.tmp 78) 22 2 (.int .i64 0) 8 rfl Tryz.underlying22 info2 rfl (by decide) (by omega) u6 x6_1 y264 _ _ _ (fun k_ => nb_ k_ Ao36 y264.length co36) (fun _ => False) rfl rfl ?aO ?aR (fun _ _ h => h) (fun _ h => h.elim) ?aF ?aB ?aS ?aL ?_; (case aR => repeat (first | exact (Kd.R_reads' HO266.out).2.2 | (with_reducible refine Kd.C_alloc ?_ _) | (with_reducible refine Kd.C_drewN ?_ _) | (with_reducible refine Kd.C_drew ?_))); (case aB => exact z5_); (case aF => exact (fun k_ hk => Kd.fresh' (Kd.R_lt (ra_ HO266.out)) k_ hk)); (case aO => exact (rc_ (h := by exact Kd.R_mono HO_6.out (fun _ hk => hk.2)))); (case aS => exact (below_size z5_)); (case aL => have := LMc29.out; omega); intro v268 w35 ho hb hg hat; rw [← Ny267.out] at ho; replace HO_5 := a_ (Kd.R_over' (ra_ HO_5.out) (Kd.R_typed (ra_ HO_6.out)) (by decide) hg); replace BK251 := a_ (blk_grown (g := gb251) (rb_ BK251.out) hg (Kd.R_ne HO_6.out BK251.out (by decide))); replace BK259 := a_ (blk_grown (g := gb259) (rb_ BK259.out) hg (Kd.R_ne HO_6.out BK259.out (by decide))); replace HO266 := a_ (Kd.R_after (ok := (fun _ => True)) (ra_ HO266.out) hg hat); replace HB := a_ (hb); have HO269 := a_ (ho); clear HO_6; clear ho hb hg hat))); (try go_wp2_with (first | ((with_reducible refine gate_dst (N := 78) rfl ?_); refine Kd.R_lit (Kd.int .i64) _ 2 ?hg (N := 78) ?hd (xs := ([wrap64 (-x10_17), wrap64 (-x11_17)] : List Int)) (inner := [.int .i64 (wrap64 (-x10_17)), .int .i64 (wrap64 (-x11_17))]) (ok := fun _ => True) (okp := fun _ => True) ?hr ?hp (fun _ hk => hk) trivial (Below.refl _ _) (Nat.le_refl _) (by simp) ?_; (case hd => rfl); (case hg => rfl); (case hr => first | (go_simp; done) | (go_simp; rfl)); (case hp => exact (Reps.one (show Kd.M (Kd.int .i64) _ _ _ (wrap64 (-x10_17)) [.int .i64 (wrap64 (-x10_17))] from rfl) (Reps.one (show Kd.M (Kd.int .i64) _ _ _ (wrap64 (-x11_17)) [.int .i64 (wrap64 (-x11_17))] from rfl) (Reps.none _ _)))); intro v265 w33 ho34 hb hg_ hnew_; clear hg_ hnew_; (first | rw [← Ny264.out] at ho34 | (simp only [Int.reduceToNat] at ho34; rw [← Ny264.out] at ho34)); replace HO_5 := a_ (Kd.R_below (ra_ HO_5.out) hb); have HO266 := a_ (Kd.R_lower (Kd.R_new' ho34 (Kd.R_lt (ra_ HO_6.out))) (below_size z5_)); replace HO_6 := a_ (Kd.R_elder' (ra_ HO_6.out) (Kd.R_base ho34) hb); replace BK251 := a_ (blk_below (g := gb251) (rb_ BK251.out) hb); replace BK259 := a_ (blk_below (g := gb259) (rb_ BK259.out) hb); replace HB := a_ (below_step z5_ hb); clear hb ho34; obtain ⟨Ao36, co36, eo36⟩ := Kd.R_slice HO266.out; subst eo36) | ((with_reducible refine gate_builtin (b := .append) (xs := #[.tmp 75, .tmp 78]) rfl ?_); at_builtin; refine Kd.R_append_rows (Kd.int .i64) (w0 := w) w.heap.size rfl (.tmp 75) (.tmp 78) 22 2 (.int .i64 0) 8 rfl Tryz.underlying22 info2 rfl (by decide) (by omega) u6 x6_1 y264 _ _ _ (fun k_ => nb_ k_ Ao36 y264.length co36) (fun _ => False) rfl rfl ?aO ?aR (fun _ _ h => h) (fun _ h => h.elim) ?aF ?aB ?aS ?aL ?_; (case aR => repeat (first | exact (Kd.R_reads' HO266.out).2.2 | (with_reducible refine Kd.C_alloc ?_ _) | (with_reducible refine Kd.C_drewN ?_ _) | (with_reducible refine Kd.C_drew ?_))); (case aB => exact z5_); (case aF => exact (fun k_ hk => Kd.fresh' (Kd.R_lt (ra_ HO266.out)) k_ hk)); (case aO => exact (rc_ (h := by exact Kd.R_mono HO_6.out (fun _ hk => hk.2)))); (case aS => exact (below_size z5_)); (case aL => have := LMc29.out; omega); intro v268 w35 ho hb hg hat; rw [← Ny267.out] at ho; replace HO_5 := a_ (Kd.R_over' (ra_ HO_5.out) (Kd.R_typed (ra_ HO_6.out)) (by decide) hg); replace BK251 := a_ (blk_grown (g := gb251) (rb_ BK251.out) hg (Kd.R_ne HO_6.out BK251.out (by decide))); replace BK259 := a_ (blk_grown (g := gb259) (rb_ BK259.out) hg (Kd.R_ne HO_6.out BK259.out (by decide))); replace HO266 := a_ (Kd.R_after (ok := (fun _ => True)) (ra_ HO266.out) hg hat); replace HB := a_ (hb); have HO269 := a_ (ho); clear HO_6; clear ho hb hg hat))))
               go_roundg kj17
               case measure => have := HK1.out; have := HJ17.out; omega
               case rel => exact ⟨(y267), (wrap64 (x7_1 + 1)), z76_, H', ⟨by have := HK1.out; have := HJ17.out; omega⟩, ⟨by (with_reducible repeat (first | apply Kd.R_alloc | apply Kd.R_drewN | apply Kd.R_drew)); exact Kd.R_mono HO_5.out (fun _ hk => trivial)⟩, ⟨by (with_reducible repeat (first | apply Kd.R_alloc | apply Kd.R_drewN | apply Kd.R_drew)); exact Kd.R_mono HO269.out (fun _ hk => trivial)⟩, ⟨z54_⟩, ⟨z5_⟩⟩
              ·rw [if_neg c29] at H
               exact absurd H (by simp)
             ·rw [if_neg c28] at H
              have c28b0 : (((rd_T64 t252 x7_1).f3) != ((rd l0_4 ji11) == 1)) = false := by simpa using c28
              (try (have c28b1 : decide (((rd_T64 t252 x7_1).f3) = ((rd l0_4 ji11) == 1)) = true := by simpa using c28))
              (try (have c28b2 : (((rd_T64 t252 x7_1).f3) == ((rd l0_4 ji11) == 1)) = true := by simpa using c28))
              clear c28
              obtain ⟨y270, hy270⟩ : ∃ y_ : List Int, y_ = (([x10_17, x11_17] : List Int)) := ⟨_, rfl⟩
              replace H : (if x6_1.length + y270.length < 17592186044416 then (spec_l05Read.l0 kj17 t252 (x6_1 ++ y270) (wrap64 (x7_1 + 1)) a0_0 a0_1 l0_2 l0_3 l0_4) else (none)) = some r := rh_ hy270 H
              have Ny270 := Aside0.mk hy270
              clear hy270
              by_cases c37 : x6_1.length + y270.length < 17592186044416
              ·rw [if_pos c37] at H
               have LMc37 := Aside0.mk c37
               clear c37
               obtain ⟨y273, hy273⟩ : ∃ y_ : List Int, y_ = (x6_1 ++ y270) := ⟨_, rfl⟩
               replace H : (spec_l05Read.l0 kj17 t252 y273 (wrap64 (x7_1 + 1)) a0_0 a0_1 l0_2 l0_3 l0_4) = some r := rh_ hy273 H
               have Ny273 := Aside0.mk hy273
               clear hy273
               have H' := Aside0.mk H
               clear H
               have hnb38 := NB259_251.out
               have hnc38 := NB251_259.out
               obtain ⟨hcz39_0, hcz39_1, hcz39_2, hcz39_3, hfz39_0, hfz39_1, hfz39_2, hfz39_3⟩ := cz4_ (w := wc) BK259.out
               obtain ⟨hcz40_0, hcz40_1, hcz40_2, hcz40_3, hcz40_4, hfz40_0, hfz40_1, hfz40_2, hfz40_3, hfz40_4⟩ := cz5_ (w := wc) BK251.out
               have p263 : 0 ≤ (ji11 : Int) := of_decide_eq_true z75_
               have q263 : ji11 < (l0_4.length : Int) := of_decide_eq_true z75_
               obtain ⟨ad263, e263, hx263_0⟩ := Kd.at_int HR0_4.out ji11 p263 q263
               cases e263
               replace hx263_0 := (HB.out.cell (World.block_lt_of_cell? _ _ hx263_0)).trans hx263_0
               replace p263 := eq_true p263
               replace q263 := eq_true q263
               go_wp2_with (first | ((with_reducible refine gate_dst (N := 78) rfl ?_); refine Kd.R_lit (Kd.int .i64) _ 2 ?hg (N := 78) ?hd (xs := ([x10_17, x11_17] : List Int)) (inner := [.int .i64 x10_17, .int .i64 x11_17]) (ok := fun _ => True) (okp := fun _ => True) ?hr ?hp (fun _ hk => hk) trivial (Below.refl _ _) (Nat.le_refl _) (by simp) ?_; (case hd => rfl); (case hg => rfl); (case hr => first | (go_simp; done) | (go_simp; rfl)); (case hp => exact (Reps.one (show Kd.M (Kd.int .i64) _ _ _ x10_17 [.int .i64 x10_17] from rfl) (Reps.one (show Kd.M (Kd.int .i64) _ _ _ x11_17 [.int .i64 x11_17] from rfl) (Reps.none _ _)))); intro v271 w41 ho42 hb hg_ hnew_; clear hg_ hnew_; (first | rw [← Ny270.out] at ho42 | (simp only [Int.reduceToNat] at ho42; rw [← Ny270.out] at ho42)); replace HO_5 := a_ (Kd.R_below (ra_ HO_5.out) hb); have HO272 := a_ (Kd.R_lower (Kd.R_new' ho42 (Kd.R_lt (ra_ HO_6.out))) (below_size z5_)); replace HO_6 := a_ (Kd.R_elder' (ra_ HO_6.out) (Kd.R_base ho42) hb); replace BK251 := a_ (blk_below (g := gb251) (rb_ BK251.out) hb); replace BK259 := a_ (blk_below (g := gb259) (rb_ BK259.out) hb); replace HB := a_ (below_step z5_ hb); clear hb ho42; obtain ⟨Ao44, co44, eo44⟩ := Kd.R_slice HO272.out; subst eo44) | ((with_reducible refine gate_builtin (b := .append) (xs := #[.tmp 75, .tmp 78]) rfl ?_); at_builtin; refine Kd.R_append_rows (Kd.int .i64) (w0 := w) w.heap.size rfl (.tmp 75) (.tmp 78) 22 2 (.int .i64 0) 8 rfl Tryz.underlying22 info2 rfl (by decide) (by omega) u6 x6_1 y270 _ _ _ (fun k_ => nb_ k_ Ao44 y270.length co44) (fun _ => False) rfl rfl ?aO ?aR (fun _ _ h => h) (fun _ h => h.elim) ?aF ?aB ?aS ?aL ?_; (case aR => repeat (first | exact (Kd.R_reads' HO272.out).2.2 | (with_reducible refine Kd.C_alloc ?_ _) | (with_reducible refine Kd.C_drewN ?_ _) | (with_reducible refine Kd.C_drew ?_))); (case aB => exact z5_); (case aF => exact (fun k_ hk => Kd.fresh' (Kd.R_lt (ra_ HO272.out)) k_ hk)); (case aO => exact (rc_ (h := by exact Kd.R_mono HO_6.out (fun _ hk => hk.2)))); (case aS => exact (below_size z5_)); (case aL => have := LMc37.out; omega); intro v274 w43 ho hb hg hat; rw [← Ny273.out] at ho; replace HO_5 := a_ (Kd.R_over' (ra_ HO_5.out) (Kd.R_typed (ra_ HO_6.out)) (by decide) hg); replace BK251 := a_ (blk_grown (g := gb251) (rb_ BK251.out) hg (Kd.R_ne HO_6.out BK251.out (by decide))); replace BK259 := a_ (blk_grown (g := gb259) (rb_ BK259.out) hg (Kd.R_ne HO_6.out BK259.out (by decide))); replace HO272 := a_ (Kd.R_after (ok := (fun _ => True)) (ra_ HO272.out) hg hat); replace HB := a_ (hb); have HO275 := a_ (ho); clear HO_6; clear ho hb hg hat))
               repeat (go_quiet (first | ((with_reducible refine gate_dst (N := 78) rfl ?_); refine Kd.R_lit (Kd.int .i64) _ 2 ?hg (N := 78) ?hd (xs := ([x10_17, x11_17] : List Int)) (inner := [.int .i64 x10_17, .int .i64 x11_17]) (ok := fun _ => True) (okp := fun _ => True) ?hr ?hp (fun _ hk => hk) trivial (Below.refl _ _) (Nat.le_refl _) (by simp) ?_; (case hd => rfl); (case hg => rfl); (case hr => first | (go_simp; done) | (go_simp; rfl)); (case hp => exact (Reps.one (show Kd.M (Kd.int .i64) _ _ _ x10_17 [.int .i64 x10_17] from rfl) (Reps.one (show Kd.M (Kd.int .i64) _ _ _ x11_17 [.int .i64 x11_17] from rfl) (Reps.none _ _)))); intro v271 w41 ho42 hb hg_ hnew_; clear hg_ hnew_; (first | rw [← Ny270.out] at ho42 | (simp only [Int.reduceToNat] at ho42; rw [← Ny270.out] at ho42)); replace HO_5 := a_ (Kd.R_below (ra_ HO_5.out) hb); have HO272 := a_ (Kd.R_lower (Kd.R_new' ho42 (Kd.R_lt (ra_ HO_6.out))) (below_size z5_)); replace HO_6 := a_ (Kd.R_elder' (ra_ HO_6.out) (Kd.R_base ho42) hb); replace BK251 := a_ (blk_below (g := gb251) (rb_ BK251.out) hb); replace BK259 := a_ (blk_below (g := gb259) (rb_ BK259.out) hb); replace HB := a_ (below_step z5_ hb); clear hb ho42; obtain ⟨Ao44, co44, eo44⟩ := Kd.R_slice HO272.out; subst eo44) | ((with_reducible refine gate_builtin (b := .append) (xs := #[.tmp 75, .tmp 78]) rfl ?_); at_builtin; refine Kd.R_append_rows (Kd.int .i64) (w0 := w) w.heap.size rfl (.tmp 75) (.tmp 78) 22 2 (.int .i64 0) 8 rfl Tryz.underlying22 info2 rfl (by decide) (by omega) u6 x6_1 y270 _ _ _ (fun k_ => nb_ k_ Ao44 y270.length co44) (fun _ => False) rfl rfl ?aO ?aR (fun _ _ h => h) (fun _ h => h.elim) ?aF ?aB ?aS ?aL ?_; (case aR => repeat (first | exact (Kd.R_reads' HO272.out).2.2 | (with_reducible refine Kd.C_alloc ?_ _) | (with_reducible refine Kd.C_drewN ?_ _) | (with_reducible refine Kd.C_drew ?_))); (case aB => exact z5_); (case aF => exact (fun k_ hk => Kd.fresh' (Kd.R_lt (ra_ HO272.out)) k_ hk)); (case aO => exact (rc_ (h := by exact Kd.R_mono HO_6.out (fun _ hk => hk.2)))); (case aS => exact (below_size z5_)); (case aL => have := LMc37.out; omega); intro v274 w43 ho hb hg hat; rw [← Ny273.out] at ho; replace HO_5 := a_ (Kd.R_over' (ra_ HO_5.out) (Kd.R_typed (ra_ HO_6.out)) (by decide) hg); replace BK251 := a_ (blk_grown (g := gb251) (rb_ BK251.out) hg (Kd.R_ne HO_6.out BK251.out (by decide))); replace BK259 := a_ (blk_grown (g := gb259) (rb_ BK259.out) hg (Kd.R_ne HO_6.out BK259.out (by decide))); replace HO272 := a_ (Kd.R_after (ok := (fun _ => True)) (ra_ HO272.out) hg hat); replace HB := a_ (hb); have HO275 := a_ (ho); clear HO_6; clear ho hb hg hat)); try go_wp2_with (first | ((with_reducible refine gate_dst (N := 78) rfl ?_); refine Kd.R_lit (Kd.int .i64) _ 2 ?hg (N := 78) ?hd (xs := ([x10_17, x11_17] : List Int)) (inner := [.int .i64 x10_17, .int .i64 x11_17]) (ok := fun _ => True) (okp := fun _ => True) ?hr ?hp (fun _ hk => hk) trivial (Below.refl _ _) (Nat.le_refl _) (by simp) ?_; (case hd => rfl); (case hg => rfl); (case hr => first | (go_simp; done) | (go_simp; rfl)); (case hp => exact (Reps.one (show Kd.M (Kd.int .i64) _ _ _ x10_17 [.int .i64 x10_17] from rfl) (Reps.one (show Kd.M (Kd.int .i64) _ _ _ x11_17 [.int .i64 x11_17] from rfl) (Reps.none _ _)))); intro v271 w41 ho42 hb hg_ hnew_; clear hg_ hnew_; (first | rw [← Ny270.out] at ho42 | (simp only [Int.reduceToNat] at ho42; rw [← Ny270.out] at ho42)); replace HO_5 := a_ (Kd.R_below (ra_ HO_5.out) hb); have HO272 := a_ (Kd.R_lower (Kd.R_new' ho42 (Kd.R_lt (ra_ HO_6.out))) (below_size z5_)); replace HO_6 := a_ (Kd.R_elder' (ra_ HO_6.out) (Kd.R_base ho42) hb); replace BK251 := a_ (blk_below (g := gb251) (rb_ BK251.out) hb); replace BK259 := a_ (blk_below (g := gb259) (rb_ BK259.out) hb); replace HB := a_ (below_step z5_ hb); clear hb ho42; obtain ⟨Ao44, co44, eo44⟩ := Kd.R_slice HO272.out; subst eo44) | ((with_reducible refine gate_builtin (b := .append) (xs := #[.tmp 75, .tmp 78]) rfl ?_); at_builtin; refine Kd.R_append_rows (Kd.int .i64) (w0 := w) w.heap.size rfl (.tmp 75) (.tmp 78) 22 2 (.int .i64 0) 8 rfl Tryz.underlying22 info2 rfl (by decide) (by omega) u6 x6_1 y270 _ _ _ (fun k_ => nb_ k_ Ao44 y270.length co44) (fun _ => False) rfl rfl ?aO ?aR (fun _ _ h => h) (fun _ h => h.elim) ?aF ?aB ?aS ?aL ?_; (case aR => repeat (first | exact (Kd.R_reads' HO272.out).2.2 | (with_reducible refine Kd.C_alloc ?_ _) | (with_reducible refine Kd.C_drewN ?_ _) | (with_reducible refine Kd.C_drew ?_))); (case aB => exact z5_); (case aF => exact (fun k_ hk => Kd.fresh' (Kd.R_lt (ra_ HO272.out)) k_ hk)); (case aO => exact (rc_ (h := by exact Kd.R_mono HO_6.out (fun _ hk => hk.2)))); (case aS => exact (below_size z5_)); (case aL => have := LMc37.out; omega); intro v274 w43 ho hb hg hat; rw [← Ny273.out] at ho; replace HO_5 := a_ (Kd.R_over' (ra_ HO_5.out) (Kd.R_typed (ra_ HO_6.out)) (by decide) hg); replace BK251 := a_ (blk_grown (g := gb251) (rb_ BK251.out) hg (Kd.R_ne HO_6.out BK251.out (by decide))); replace BK259 := a_ (blk_grown (g := gb259) (rb_ BK259.out) hg (Kd.R_ne HO_6.out BK259.out (by decide))); replace HO272 := a_ (Kd.R_after (ok := (fun _ => True)) (ra_ HO272.out) hg hat); replace HB := a_ (hb); have HO275 := a_ (ho); clear HO_6; clear ho hb hg hat)))
               go_roundg kj17
               case measure => have := HK1.out; have := HJ17.out; omega
               case rel => exact ⟨(y273), (wrap64 (x7_1 + 1)), z76_, H', ⟨by have := HK1.out; have := HJ17.out; omega⟩, ⟨by (with_reducible repeat (first | apply Kd.R_alloc | apply Kd.R_drewN | apply Kd.R_drew)); exact Kd.R_mono HO_5.out (fun _ hk => trivial)⟩, ⟨by (with_reducible repeat (first | apply Kd.R_alloc | apply Kd.R_drewN | apply Kd.R_drew)); exact Kd.R_mono HO275.out (fun _ hk => trivial)⟩, ⟨z54_⟩, ⟨z5_⟩⟩
              ·rw [if_neg c37] at H
               exact absurd H (by simp)
            ·rw [if_neg c27] at H
             exact absurd H (by simp)
           ·rw [if_neg c26] at H
            exact absurd H (by simp)
        ·rw [if_neg c16] at H
         exact absurd H (by simp)
       ·rw [if_neg c15] at H
        exact absurd H (by simp)
      ·rw [if_neg c13] at H
       exact absurd H (by simp)
     ·rw [if_neg c12] at H
      exact absurd H (by simp)
    ·rw [if_neg c10] at H
     exact absurd H (by simp)
   ·rw [if_neg c9] at H
    have c9b0 : decide (x7_1 < (t252.length : Int)) = false := decide_eq_false c9
    clear c9
    obtain rfl := Option.some.inj H
    obtain ⟨Ao45, co45, eo45⟩ := Kd.R_slice HO_5.out
    subst eo45
    go_wp2
    repeat (go_quiet (fail); try go_wp2)
    go_ret
    exact ⟨_, z33_, z64_, z20_⟩

end Go.Proofs.YtkpidjmhdagkfaaGreatDoor.QFnExactIsRightForm
-- halved
