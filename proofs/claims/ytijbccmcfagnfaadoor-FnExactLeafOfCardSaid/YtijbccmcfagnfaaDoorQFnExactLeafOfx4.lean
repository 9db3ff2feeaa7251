-- Written by own_print.py of this session's repo over the kit's print (its output, turned at some places).
import Derived.Test.YtijbccmcfagnfaaDoorQFnExactLeafOfx0
import Derived.Test.YtijbccmcfagnfaaDoorQFnExactLeafOfx1
import Derived.Test.YtijbccmcfagnfaaDoorQFnExactLeafOfx2
import Derived.Test.YtijbccmcfagnfaaDoorQFnExactLeafOfx3
namespace Go.Proofs.YtijbccmcfagnfaaDoor.QFnExactLeafOf
open Go.RowKit Go.Proofs.YtijbccmcfagnfaaDoorW.PrintWords Go.Proofs.YtijbccmcfagnfaaDoorW.PrintLast Go.Proofs.YtijbccmcfagnfaaDoorW.PrintMore
attribute [local go_sem] max2_int min2_int max_two min_two max_three min_three max_four min_four   -- for this text's walks alone
set_option linter.unusedVariables false
set_option linter.unusedSimpArgs false

/-! ### spec_l04Leaves: function 46 -/
mutual
def spec_l04Leaves.l0 : Nat → ByteArray → List (List (List (S39))) → Int → Option ((List (S39)))
  | 0, _, _, _ => none
  | k + 1, x2, x7, x8 => if x8 < (x2.size : Int) then (if 0 ≤ x8 then (if (bt x2 x8) = 76 then (spec_l04Leaves.j1 k x2 x7 x8 true) else (spec_l04Leaves.j1 k x2 x7 x8 ((bt x2 x8) == 82))) else (none)) else (if 0 < (x7.length : Int) then (if 0 < ((rd_L4 x7 0).length : Int) then (some (rd_L3 (rd_L4 x7 0) 0)) else (none)) else (none))
def spec_l04Leaves.j1 : Nat → ByteArray → List (List (List (S39))) → Int → Bool → Option ((List (S39)))
  | 0, _, _, _, _ => none
  | k + 1, x2, x7, x8, x27 => if x27 = true then (if 0 ≤ x8 then (if x8 < (x2.size : Int) then ((spec_l04Along.f k x7 (bt x2 x8)).bind fun t208 => (spec_l04Leaves.l0 k x2 t208 (wrap64 (x8 + 1)))) else (none)) else (none)) else (if 0 ≤ x8 then (if x8 < (x2.size : Int) then ((spec_l04Across.f k x7 (bt x2 x8)).bind fun t211 => (spec_l04Leaves.l0 k x2 t211 (wrap64 (x8 + 1)))) else (none)) else (none))
end
def spec_l04Leaves.f (k : Nat) (a0 : Int) (a1 : Int) (a2 : ByteArray) : Option ((List (S39))) := (spec_l04Start.f k a0 a1).bind fun t203 => (spec_l04Leaves.l0 k a2 t203 0)
theorem spec_l04Leaves.mono_l : ∀ k, (∀ y0 y1 y2, LeO (spec_l04Leaves.l0 k y0 y1 y2) (spec_l04Leaves.l0 (k + 1) y0 y1 y2)) ∧ (∀ y0 y1 y2 y3, LeO (spec_l04Leaves.j1 k y0 y1 y2 y3) (spec_l04Leaves.j1 (k + 1) y0 y1 y2 y3))
  | 0 => ⟨fun _ _ _ r h => by simp [spec_l04Leaves.l0] at h, fun _ _ _ _ r h => by simp [spec_l04Leaves.j1] at h⟩
  | k + 1 => by
    obtain ⟨ih0, ih1⟩ := spec_l04Leaves.mono_l k
    refine ⟨?_, ?_⟩
    · intro y0 y1 y2
      unfold spec_l04Leaves.l0
      repeat' first
      | (with_reducible exact ih0 _ _ _)
      | (with_reducible exact ih1 _ _ _ _)
      | (with_reducible exact spec_l04Across.mono _ _ _)
      | (with_reducible exact spec_l04Along.mono _ _ _)
      | (with_reducible exact spec_l04Start.mono _ _ _)
      | (with_reducible exact LeO.refl _)
      | (with_reducible exact LeO.none _)
      | (with_reducible refine LeO.ite ?_ ?_)
      | (with_reducible refine LeO.bind ?_ (fun _ => ?_))
      | exact ih0 _ _ _
      | exact ih1 _ _ _ _
      | exact spec_l04Across.mono _ _ _
      | exact spec_l04Along.mono _ _ _
      | exact spec_l04Start.mono _ _ _
      | exact LeO.none _
      | refine LeO.ite ?_ ?_
      | refine LeO.bind ?_ (fun _ => ?_)
    · intro y0 y1 y2 y3
      unfold spec_l04Leaves.j1
      repeat' first
      | (with_reducible exact ih0 _ _ _)
      | (with_reducible exact ih1 _ _ _ _)
      | (with_reducible exact spec_l04Across.mono _ _ _)
      | (with_reducible exact spec_l04Along.mono _ _ _)
      | (with_reducible exact spec_l04Start.mono _ _ _)
      | (with_reducible exact LeO.refl _)
      | (with_reducible exact LeO.none _)
      | (with_reducible refine LeO.ite ?_ ?_)
      | (with_reducible refine LeO.bind ?_ (fun _ => ?_))
      | exact ih0 _ _ _
      | exact ih1 _ _ _ _
      | exact spec_l04Across.mono _ _ _
      | exact spec_l04Along.mono _ _ _
      | exact spec_l04Start.mono _ _ _
      | exact LeO.none _
      | refine LeO.ite ?_ ?_
      | refine LeO.bind ?_ (fun _ => ?_)
theorem spec_l04Leaves.mono : ∀ a0 a1 a2 k, LeO (spec_l04Leaves.f k a0 a1 a2) (spec_l04Leaves.f (k + 1) a0 a1 a2) := by
  intro a0 a1 a2 k
  obtain ⟨ih0, ih1⟩ := spec_l04Leaves.mono_l k
  unfold spec_l04Leaves.f
  repeat' first
      | (with_reducible exact ih0 _ _ _)
      | (with_reducible exact ih1 _ _ _ _)
      | (with_reducible exact spec_l04Across.mono _ _ _)
      | (with_reducible exact spec_l04Along.mono _ _ _)
      | (with_reducible exact spec_l04Start.mono _ _ _)
      | (with_reducible exact LeO.refl _)
      | (with_reducible exact LeO.none _)
      | (with_reducible refine LeO.ite ?_ ?_)
      | (with_reducible refine LeO.bind ?_ (fun _ => ?_))
      | exact ih0 _ _ _
      | exact ih1 _ _ _ _
      | exact spec_l04Across.mono _ _ _
      | exact spec_l04Along.mono _ _ _
      | exact spec_l04Start.mono _ _ _
      | exact LeO.none _
      | refine LeO.ite ?_ ?_
      | refine LeO.bind ?_ (fun _ => ?_)
set_option maxHeartbeats 8000000 in
set_option maxRecDepth 100000 in
theorem spec_l04Leaves.calls (k : Nat) (a0 : Int) (a1 : Int) (a2 : ByteArray) (r : List (S39)) (w : World) (h : spec_l04Leaves.f k a0 a1 a2 = some r) :
    Calls Tryd.prog 46 #[.int .i64 a0, .int .i64 a1, .string a2] w fun e w' => ∃ v0_ : Value, e = .returned (v0_) ∧ Kd.R k39 39 w' w.heap.size (fun _ => True) v0_ r ∧ Below w.heap.size w w' := by
  have HB := Aside0.mk (Below.refl w.heap.size w)
  have H : ((spec_l04Start.f k a0 a1).bind fun t203 => (spec_l04Leaves.l0 k a2 t203 0)) = some r := h
  clear h
  replace H := Option.bind_eq_some_iff.mp H
  obtain ⟨t203, A40, H⟩ := H
  replace H : (spec_l04Leaves.l0 k a2 t203 0) = some r := H
  have A4 := Aside0.mk A40
  clear A40
  have H' := Aside0.mk H
  clear H
  go_enter Tryd.func46, Tryd.ntmps46
  go_wp2_with (first | ((with_reducible refine gate_callee (f := 87) rfl ?_); refine goesL_ (some 11) rfl rfl Tryd.func87 (by kernel_rfl) rfl #[.int .i64 a0, .int .i64 a1] rfl (by (try simp only [List.map_toArray, List.map_cons, List.map_nil]); first | done | rfl | (simp only [List.length_drop, List.length_take]; rfl)) ?_; (with_reducible refine (spec_l04Start.calls k a0 a1 t203 _ A4.out).mono ?_); rintro e w5 ⟨v204, rfl, ho0, hb⟩; refine ⟨_, rfl, ?_⟩; have n0_ := Aside0.mk (Kd.R_lower ho0 (below_size (by repeat (first | (with_reducible first | exact HB.out | apply below_alloc | apply pw_below_drewN | apply below_drew1) | exact HB.out)))); have n1_ := Aside0.mk (below_step (by repeat (first | (with_reducible first | exact HB.out | apply below_alloc | apply pw_below_drewN | apply below_drew1) | exact HB.out)) hb); clear HB; have HO205 := n0_; have HB := n1_; clear n0_ n1_; (try clear hb); (try clear hb2); (try clear hk); (try clear hi); (try clear ho0)))
  go_loopg [7, 8] k (fun kq v7 v8 w' => ∃ (x7_1 : List (List (List (S39)))) (x8_1 : Int), v8 = .int .i64 x8_1 ∧ Aside0 (spec_l04Leaves.l0 kq a2 x7_1 x8_1 = some r) ∧ Aside0 (kq ≤ k) ∧ Aside0 (Kd.R (Kd.slice 27 (Kd.slice 39 k39)) 97 w' w.heap.size (fun _ => True) v7 x7_1) ∧ Aside0 (Below w.heap.size w w'))
  case atStart => exact ⟨(t203), (0), (by first | rfl | (simp; done) | (simp [*]; done)), H', ⟨Nat.le_refl _⟩, ⟨by (with_reducible repeat (first | apply Kd.R_alloc | apply Kd.R_drewN | apply Kd.R_drew)); exact HO205.out⟩, ⟨by repeat (first | (with_reducible first | exact HB.out | apply below_alloc | apply pw_below_drewN | apply below_drew1) | exact HB.out)⟩⟩
  case round =>
    clear H'
    try clear p2
    try clear c4
    obtain ⟨x7_1, x8_1, rfl, HA, HK1, HO_7, HB⟩ := hrel
    cases gk with
    | zero => exact absurd HA.out (by simp [spec_l04Leaves.l0])
    | succ k1 =>
      have H := HA.out
      clear HA
      simp only [spec_l04Leaves.l0] at H
      by_cases c6 : x8_1 < (a2.size : Int)
      · rw [if_pos c6] at H
        have c6b0 : decide (x8_1 < (a2.size : Int)) = true := decide_eq_true c6
        clear c6
        have HC7 := Aside0.mk H
        clear H
        go_upto_region 5 with (fail)
        go_cut [27] (fun v27 wc => ∃ (kq : Nat) (x27_6 : Bool), v27 = .bool x27_6 ∧ Aside0 (spec_l04Leaves.j1 kq a2 x7_1 x8_1 x27_6 = some r) ∧ Aside0 (kq ≤ k1) ∧ Aside0 (Kd.R (Kd.slice 27 (Kd.slice 39 k39)) 97 wc w.heap.size (fun _ => True) u7 x7_1) ∧ Aside0 (Below w.heap.size w wc))
        case first =>
          have H := HC7.out
          clear HC7
          by_cases c8 : 0 ≤ x8_1
          · rw [if_pos c8] at H
            have c8b0 : decide (0 ≤ x8_1) = true := decide_eq_true c8
            clear c8
            (first | rw [c8b0] | (simp only [i64_w, i32_w]; rw [c8b0]) | skip)
            by_cases c10 : (bt a2 x8_1) = 76
            · rw [if_pos c10] at H
              have c10b0 : ((bt a2 x8_1) == 76) = true := beq_iff_eq.mpr c10
              have c10b1 : ((bt a2 x8_1) != 76) = false := bne_eq_false_iff_eq.mpr c10
              clear c10
              have H' := Aside0.mk H
              clear H
              have p9 : 0 ≤ (x8_1 : Int) := of_decide_eq_true (by first | (with_reducible assumption) | assumption)
              have q9 : x8_1 < (a2.size : Int) := of_decide_eq_true (by first | (with_reducible assumption) | assumption)
              have hx9 := bt_at a2 x8_1
              replace p9 := eq_true p9
              replace q9 := eq_true q9
              go_wp2
              go_meet
              case rel => exact ⟨_, (true), (by first | rfl | (simp; done) | (simp [*]; done)), H', ⟨by have := HK1.out; first | omega | exact Nat.le_refl _⟩, ⟨by (with_reducible repeat (first | apply Kd.R_alloc | apply Kd.R_drewN | apply Kd.R_drew)); exact HO_7.out⟩, ⟨by repeat (first | (with_reducible first | exact HB.out | apply below_alloc | apply pw_below_drewN | apply below_drew1) | exact HB.out)⟩⟩
            · rw [if_neg c10] at H
              have c10b0 : ((bt a2 x8_1) == 76) = false := beq_eq_false_iff_ne.mpr c10
              have c10b1 : ((bt a2 x8_1) != 76) = true := bne_iff_ne.mpr c10
              have H' := Aside0.mk H
              clear H
              have p9 : 0 ≤ (x8_1 : Int) := of_decide_eq_true (by first | (with_reducible assumption) | assumption)
              have q9 : x8_1 < (a2.size : Int) := of_decide_eq_true (by first | (with_reducible assumption) | assumption)
              have hx9 := bt_at a2 x8_1
              replace p9 := eq_true p9
              replace q9 := eq_true q9
              have p11 : 0 ≤ (x8_1 : Int) := of_decide_eq_true (by first | (with_reducible assumption) | assumption)
              have q11 : x8_1 < (a2.size : Int) := of_decide_eq_true (by first | (with_reducible assumption) | assumption)
              have hx11 := bt_at a2 x8_1
              replace p11 := eq_true p11
              replace q11 := eq_true q11
              go_wp2
              go_meet
              case rel => exact ⟨_, (((bt a2 x8_1) == 82)), (by first | rfl | (simp; done) | (simp [*]; done)), H', ⟨by have := HK1.out; first | omega | exact Nat.le_refl _⟩, ⟨by (with_reducible repeat (first | apply Kd.R_alloc | apply Kd.R_drewN | apply Kd.R_drew)); exact HO_7.out⟩, ⟨by repeat (first | (with_reducible first | exact HB.out | apply below_alloc | apply pw_below_drewN | apply below_drew1) | exact HB.out)⟩⟩
          · rw [if_neg c8] at H
            exact absurd H (by simp)
        case rest =>
          clear HC7
          try clear c1
          try clear p1
          try clear q1
          try clear hx1
          try clear p2
          try clear c4
          try clear c6
          try clear c6b0
          try clear c8
          try clear c8b0
          try clear p9
          try clear q9
          try clear hx9
          try clear c10
          try clear c10b0
          try clear c10b1
          try clear p11
          try clear q11
          try clear hx11
          try clear p11
          try clear p2
          try clear p9
          try clear q11
          try clear q9
          obtain ⟨kq, x27_6, rfl, HA, HJ6, HO_7, HB⟩ := hcut
          cases kq with
          | zero => exact absurd HA.out (by simp [spec_l04Leaves.j1])
          | succ kj6 =>
            have H := HA.out
            clear HA
            simp only [spec_l04Leaves.j1] at H
            by_cases c12 : x27_6 = true
            · subst c12
              have H1 : (if 0 ≤ x8_1 then (if x8_1 < (a2.size : Int) then ((spec_l04Along.f kj6 x7_1 (bt a2 x8_1)).bind fun t208 => (spec_l04Leaves.l0 kj6 a2 t208 (wrap64 (x8_1 + 1)))) else (none)) else (none)) = some r := by rw [if_pos rfl] at H; exact H
              clear H
              have H := H1
              clear H1
              by_cases c13 : 0 ≤ x8_1
              · rw [if_pos c13] at H
                have c13b0 : decide (0 ≤ x8_1) = true := decide_eq_true c13
                clear c13
                by_cases c14 : x8_1 < (a2.size : Int)
                · rw [if_pos c14] at H
                  have c14b0 : decide (x8_1 < (a2.size : Int)) = true := decide_eq_true c14
                  clear c14
                  replace H := Option.bind_eq_some_iff.mp H
                  obtain ⟨t208, A160, H⟩ := H
                  replace H : (spec_l04Leaves.l0 kj6 a2 t208 (wrap64 (x8_1 + 1))) = some r := H
                  have A16 := Aside0.mk A160
                  clear A160
                  have H' := Aside0.mk H
                  clear H
                  have p15 : 0 ≤ (x8_1 : Int) := of_decide_eq_true (by first | (with_reducible assumption) | assumption)
                  have q15 : x8_1 < (a2.size : Int) := of_decide_eq_true (by first | (with_reducible assumption) | assumption)
                  have hx15 := bt_at a2 x8_1
                  replace p15 := eq_true p15
                  replace q15 := eq_true q15
                  obtain ⟨Ao17, co17, eo17⟩ := Kd.R_slice HO_7.out
                  subst eo17
                  go_wp2_with (first | ((with_reducible refine gate_callee (f := 88) rfl ?_); refine goesL_ (some 32) rfl rfl Tryd.func88 (by kernel_rfl) rfl #[.slice Ao17 x7_1.length co17, .int .u8 (bt a2 x8_1)] rfl (by (try simp only [List.map_toArray, List.map_cons, List.map_nil]); first | done | rfl | (simp only [List.length_drop, List.length_take]; rfl)) ?_; (with_reducible refine (spec_l04Along.calls kj6 _ _ x7_1 (bt a2 x8_1) t208 _ ?side1 ?side2 A16.out).mono ?_); (case side1 => repeat (first | exact (Kd.R_reads' HO_7.out).2.2 | (with_reducible refine Kd.C_alloc ?_ _) | (with_reducible refine Kd.C_drewN ?_ _) | (with_reducible refine Kd.C_drew ?_))); (case side2 => exact (Kd.R_reads' HO_7.out).2.1); rintro e w18 ⟨v209, rfl, ho0, hb⟩; refine ⟨_, rfl, ?_⟩; have n0_ := Aside0.mk (Kd.R_elder' (by (with_reducible repeat (first | apply Kd.R_alloc | apply Kd.R_drewN | apply Kd.R_drew)); exact HO_7.out) (Kd.R_base ho0) hb); have n1_ := Aside0.mk (Kd.R_lower (Kd.R_new' ho0 (Kd.R_lt (by (with_reducible repeat (first | apply Kd.R_alloc | apply Kd.R_drewN | apply Kd.R_drew)); exact HO_7.out))) (below_size (by repeat (first | (with_reducible first | exact HB.out | apply below_alloc | apply pw_below_drewN | apply below_drew1) | exact HB.out)))); have n2_ := Aside0.mk (below_step (by repeat (first | (with_reducible first | exact HB.out | apply below_alloc | apply pw_below_drewN | apply below_drew1) | exact HB.out)) hb); clear HO_7; clear HB; have HO_7 := n0_; have HO210 := n1_; have HB := n2_; clear n0_ n1_ n2_; (try clear hb); (try clear hb2); (try clear hk); (try clear hi); (try clear ho0)))
                  go_roundg kj6
                  case measure => have := HK1.out; have := HJ6.out; omega
                  case rel => exact ⟨(t208), (wrap64 (x8_1 + 1)), (by first | rfl | (simp; done) | (simp [*]; done)), H', ⟨by have := HK1.out; have := HJ6.out; omega⟩, ⟨by (with_reducible repeat (first | apply Kd.R_alloc | apply Kd.R_drewN | apply Kd.R_drew)); exact Kd.R_mono HO210.out (fun _ hk => trivial)⟩, ⟨by repeat (first | (with_reducible first | exact HB.out | apply below_alloc | apply pw_below_drewN | apply below_drew1) | exact HB.out)⟩⟩
                · rw [if_neg c14] at H
                  exact absurd H (by simp)
              · rw [if_neg c13] at H
                exact absurd H (by simp)
            · replace c12 := Bool.eq_false_iff.mpr c12
              subst c12
              have H1 : (if 0 ≤ x8_1 then (if x8_1 < (a2.size : Int) then ((spec_l04Across.f kj6 x7_1 (bt a2 x8_1)).bind fun t211 => (spec_l04Leaves.l0 kj6 a2 t211 (wrap64 (x8_1 + 1)))) else (none)) else (none)) = some r := by rw [if_neg (show ¬ (false = true) by decide)] at H; exact H
              clear H
              have H := H1
              clear H1
              by_cases c19 : 0 ≤ x8_1
              · rw [if_pos c19] at H
                have c19b0 : decide (0 ≤ x8_1) = true := decide_eq_true c19
                clear c19
                by_cases c20 : x8_1 < (a2.size : Int)
                · rw [if_pos c20] at H
                  have c20b0 : decide (x8_1 < (a2.size : Int)) = true := decide_eq_true c20
                  clear c20
                  replace H := Option.bind_eq_some_iff.mp H
                  obtain ⟨t211, A220, H⟩ := H
                  replace H : (spec_l04Leaves.l0 kj6 a2 t211 (wrap64 (x8_1 + 1))) = some r := H
                  have A22 := Aside0.mk A220
                  clear A220
                  have H' := Aside0.mk H
                  clear H
                  have p21 : 0 ≤ (x8_1 : Int) := of_decide_eq_true (by first | (with_reducible assumption) | assumption)
                  have q21 : x8_1 < (a2.size : Int) := of_decide_eq_true (by first | (with_reducible assumption) | assumption)
                  have hx21 := bt_at a2 x8_1
                  replace p21 := eq_true p21
                  replace q21 := eq_true q21
                  obtain ⟨Ao23, co23, eo23⟩ := Kd.R_slice HO_7.out
                  subst eo23
                  go_wp2_with (first | ((with_reducible refine gate_callee (f := 89) rfl ?_); refine goesL_ (some 37) rfl rfl Tryd.func89 (by kernel_rfl) rfl #[.slice Ao23 x7_1.length co23, .int .u8 (bt a2 x8_1)] rfl (by (try simp only [List.map_toArray, List.map_cons, List.map_nil]); first | done | rfl | (simp only [List.length_drop, List.length_take]; rfl)) ?_; (with_reducible refine (spec_l04Across.calls kj6 _ _ x7_1 (bt a2 x8_1) t211 _ ?side1 ?side2 A22.out).mono ?_); (case side1 => repeat (first | exact (Kd.R_reads' HO_7.out).2.2 | (with_reducible refine Kd.C_alloc ?_ _) | (with_reducible refine Kd.C_drewN ?_ _) | (with_reducible refine Kd.C_drew ?_))); (case side2 => exact (Kd.R_reads' HO_7.out).2.1); rintro e w24 ⟨v212, rfl, ho0, hb⟩; refine ⟨_, rfl, ?_⟩; have n0_ := Aside0.mk (Kd.R_elder' (by (with_reducible repeat (first | apply Kd.R_alloc | apply Kd.R_drewN | apply Kd.R_drew)); exact HO_7.out) (Kd.R_base ho0) hb); have n1_ := Aside0.mk (Kd.R_lower (Kd.R_new' ho0 (Kd.R_lt (by (with_reducible repeat (first | apply Kd.R_alloc | apply Kd.R_drewN | apply Kd.R_drew)); exact HO_7.out))) (below_size (by repeat (first | (with_reducible first | exact HB.out | apply below_alloc | apply pw_below_drewN | apply below_drew1) | exact HB.out)))); have n2_ := Aside0.mk (below_step (by repeat (first | (with_reducible first | exact HB.out | apply below_alloc | apply pw_below_drewN | apply below_drew1) | exact HB.out)) hb); clear HO_7; clear HB; have HO_7 := n0_; have HO213 := n1_; have HB := n2_; clear n0_ n1_ n2_; (try clear hb); (try clear hb2); (try clear hk); (try clear hi); (try clear ho0)))
                  go_roundg kj6
                  case measure => have := HK1.out; have := HJ6.out; omega
                  case rel => exact ⟨(t211), (wrap64 (x8_1 + 1)), (by first | rfl | (simp; done) | (simp [*]; done)), H', ⟨by have := HK1.out; have := HJ6.out; omega⟩, ⟨by (with_reducible repeat (first | apply Kd.R_alloc | apply Kd.R_drewN | apply Kd.R_drew)); exact Kd.R_mono HO213.out (fun _ hk => trivial)⟩, ⟨by repeat (first | (with_reducible first | exact HB.out | apply below_alloc | apply pw_below_drewN | apply below_drew1) | exact HB.out)⟩⟩
                · rw [if_neg c20] at H
                  exact absurd H (by simp)
              · rw [if_neg c19] at H
                exact absurd H (by simp)
      · rw [if_neg c6] at H
        have c6b0 : decide (x8_1 < (a2.size : Int)) = false := decide_eq_false c6
        clear c6
        by_cases c25 : 0 < (x7_1.length : Int)
        · rw [if_pos c25] at H
          have c25b0 : decide (0 < (x7_1.length : Int)) = true := decide_eq_true c25
          have c25b1 : decide (0 < x7_1.length) = true := decide_eq_true (by omega)
          clear c25
          by_cases c26 : 0 < ((rd_L4 x7_1 0).length : Int)
          · rw [if_pos c26] at H
            have c26b0 : decide (0 < ((rd_L4 x7_1 0).length : Int)) = true := decide_eq_true c26
            have c26b1 : decide (0 < (rd_L4 x7_1 0).length) = true := decide_eq_true (by omega)
            clear c26
            obtain rfl := Option.some.inj H
            obtain ⟨Ao27, co27, eo27⟩ := Kd.R_slice HO_7.out
            subst eo27
            have p206 : 0 ≤ (0 : Int) := (by omega)
            have q206 : 0 < (x7_1.length : Int) := of_decide_eq_true (by first | (with_reducible assumption) | assumption)
            obtain ⟨ad206, A206_0, c206_0, e206, hx206_0, hl206_0, hi206_0⟩ := at_L4 (Kd.R_reads' HO_7.out).2.2 0 p206 q206
            cases e206
            obtain ⟨ce206, hce206, hMe206, hcc206⟩ := Kd.R_get HO_7.out [] 0 p206 (by first | exact q206 | exact of_decide_eq_true (by first | (with_reducible assumption) | assumption) | (have e_ := (Kd.R_reads' HO_7.out).1; omega))
            obtain ⟨ve206_0, rfl, ge206_0⟩ := hMe206
            have hv206_0 := hcc206 0 _ rfl
            rw [Nat.add_zero, show ((Kd.slice 27 (Kd.slice 39 k39))).sz = 1 from rfl, Nat.mul_one] at hv206_0
            replace hv206_0 := Option.some.inj (hv206_0.symm.trans hx206_0)
            rw [hv206_0] at ge206_0
            have HL206_0 := Aside0.mk (show Kd.R (Kd.slice 39 k39) 27 _ _ _ _ (rd_L4 x7_1 0) from ge206_0)
            clear hv206_0 ge206_0
            clear hcc206 hce206
            have qi206 : (0 < x7_1.length) = True := eq_true (by omega)
            (try rw [show ((0 : Int)).toNat = 0 from rfl] at hx206_0)
            (try rw [Addr.add_zero'] at hx206_0)
            have HR206_0 := Aside0.mk hi206_0
            have HC206_0 := Aside0.mk hl206_0
            clear hi206_0 hl206_0
            replace p206 := eq_true p206
            replace q206 := eq_true q206
            have p207 : 0 ≤ (0 : Int) := (by omega)
            have q207 : 0 < ((rd_L4 x7_1 0).length : Int) := of_decide_eq_true (by first | (with_reducible assumption) | assumption)
            obtain ⟨ad207, A207_0, c207_0, e207, hx207_0, hl207_0, hi207_0⟩ := at_L3 (by repeat (first | (with_reducible exact HR206_0.out) | (with_reducible refine Kd.C_alloc ?_ _) | (with_reducible refine Kd.C_drewN ?_ _) | (with_reducible refine Kd.C_drew ?_) | exact HR206_0.out)) 0 p207 q207
            cases e207
            obtain ⟨ce207, hce207, hMe207, hcc207⟩ := Kd.R_get HL206_0.out [] 0 p207 (by first | exact q207 | exact of_decide_eq_true (by first | (with_reducible assumption) | assumption) | (have e_ := (Kd.R_reads' HL206_0.out).1; omega))
            obtain ⟨ve207_0, rfl, ge207_0⟩ := hMe207
            have hv207_0 := hcc207 0 _ rfl
            rw [Nat.add_zero, show ((Kd.slice 39 k39)).sz = 1 from rfl, Nat.mul_one] at hv207_0
            replace hv207_0 := Option.some.inj (hv207_0.symm.trans hx207_0)
            rw [hv207_0] at ge207_0
            have HL207_0 := Aside0.mk (show Kd.R k39 39 _ _ _ _ (rd_L3 (rd_L4 x7_1 0) 0) from ge207_0)
            clear hv207_0 ge207_0
            clear hcc207 hce207
            have qi207 : (0 < (rd_L4 x7_1 0).length) = True := eq_true (by omega)
            (try rw [show ((0 : Int)).toNat = 0 from rfl] at hx207_0)
            (try rw [Addr.add_zero'] at hx207_0)
            have HR207_0 := Aside0.mk hi207_0
            have HC207_0 := Aside0.mk hl207_0
            clear hi207_0 hl207_0
            replace p207 := eq_true p207
            replace q207 := eq_true q207
            go_wp2
            go_ret
            exact ⟨_, by first | rfl | (simp only [Go.IntWalk.i64_left]; first | done | rfl) | (simp [errW_none, errW_some] <;> rfl) | (simp [*, errW_none, errW_some] <;> rfl), by (with_reducible repeat (first | apply Kd.R_alloc | apply Kd.R_drewN | apply Kd.R_drew)); exact Kd.R_mono HL207_0.out (fun _ hk => trivial), by repeat (first | (with_reducible first | exact HB.out | apply below_alloc | apply pw_below_drewN | apply below_drew1) | exact HB.out)⟩
          · rw [if_neg c26] at H
            exact absurd H (by simp)
        · rw [if_neg c25] at H
          exact absurd H (by simp)

/-! ### spec_l01In: function 51 -/
def spec_l01In.f (a0 : Int) (a1 : Int) (a2 : Int) : Option (Bool) := if a0 ≥ a1 then (some (decide (a0 ≤ a2))) else (some false)
set_option maxHeartbeats 8000000 in
set_option maxRecDepth 100000 in
theorem spec_l01In.calls (a0 : Int) (a1 : Int) (a2 : Int) (r : Bool) (w : World) (h : spec_l01In.f a0 a1 a2 = some r) :
    Calls Tryd.prog 51 #[.int .i64 a0, .int .i64 a1, .int .i64 a2] w fun e w' => e = .returned (.bool r) ∧ Drawn0 w w' := by
  have H : (if a0 ≥ a1 then (some (decide (a0 ≤ a2))) else (some false)) = some r := h
  clear h
  by_cases c4 : a0 ≥ a1
  · rw [if_pos c4] at H
    have c4b0 : decide (a1 ≤ a0) = true := decide_eq_true c4
    clear c4
    obtain rfl := Option.some.inj H
    go_enter Tryd.func51, Tryd.ntmps51
    go_wp2
    go_ret
    exact ⟨by first | rfl | (simp only [Go.IntWalk.i64_left]; first | done | rfl) | (simp; done) | (simp [*]; done), by repeat (first | exact Drawn0.refl _ | apply Drawn0.step)⟩
  · rw [if_neg c4] at H
    have c4b0 : decide (a1 ≤ a0) = false := decide_eq_false c4
    clear c4
    obtain rfl := Option.some.inj H
    go_enter Tryd.func51, Tryd.ntmps51
    go_wp2
    go_ret
    exact ⟨by first | rfl | (simp only [Go.IntWalk.i64_left]; first | done | rfl) | (simp; done) | (simp [*]; done), by repeat (first | exact Drawn0.refl _ | apply Drawn0.step)⟩

/-! ### spec_LeafOf: function 14 -/
mutual
def spec_LeafOf.j0 : Nat → Int → Int → ByteArray → Int → Int → Int → Bool → Option (Int × Int)
  | 0, _, _, _, _, _, _, _ => none
  | k + 1, x0, x1, x2, x3, x4, x12, x34 => if x34 = true then (spec_LeafOf.j1 k x0 x1 x2 x3 x4 2) else (spec_LeafOf.j1 k x0 x1 x2 x3 x4 x12)
def spec_LeafOf.j1 : Nat → Int → Int → ByteArray → Int → Int → Int → Option (Int × Int)
  | 0, _, _, _, _, _, _ => none
  | k + 1, x0, x1, x2, x3, x4, x12 => if x12 = 0 then ((spec_l04Leaves.f k x0 x1 x2).bind fun t217 => (spec_LeafOf.l0 k x3 x4 t217 0)) else (some (0, x12))
def spec_LeafOf.l0 : Nat → Int → Int → List (S39) → Int → Option (Int × Int)
  | 0, _, _, _, _ => none
  | k + 1, x3, x4, x13, x14 => if 0 ≤ x14 then (if x14 < (x13.length : Int) then (if ((rd_T39 x13 x14).f0) = x3 then (if ((rd_T39 x13 x14).f1) = x4 then (some (x14, 0)) else (spec_LeafOf.l0 k x3 x4 x13 (wrap64 (x14 + 1)))) else (spec_LeafOf.l0 k x3 x4 x13 (wrap64 (x14 + 1)))) else (none)) else (none)
end
def spec_LeafOf.f (k : Nat) (a0 : Int) (a1 : Int) (a2 : ByteArray) (a3 : Int) (a4 : Int) : Option (Int × Int) := (spec_l04Code.f k a0 a1 a2).bind fun t214 => (if t214 = 0 then ((spec_l01In.f a3 0 (wrap64 (a0 - 1))).bind fun t215 => (if t215 = true then ((spec_l01In.f a4 0 (wrap64 (a1 - 1))).bind fun t216 => (spec_LeafOf.j0 k a0 a1 a2 a3 a4 t214 (!t216))) else (spec_LeafOf.j0 k a0 a1 a2 a3 a4 t214 true))) else (spec_LeafOf.j0 k a0 a1 a2 a3 a4 t214 false))
theorem spec_LeafOf.mono_l : ∀ k, (∀ y0 y1 y2 y3 y4 y5 y6, LeO (spec_LeafOf.j0 k y0 y1 y2 y3 y4 y5 y6) (spec_LeafOf.j0 (k + 1) y0 y1 y2 y3 y4 y5 y6)) ∧ (∀ y0 y1 y2 y3 y4 y5, LeO (spec_LeafOf.j1 k y0 y1 y2 y3 y4 y5) (spec_LeafOf.j1 (k + 1) y0 y1 y2 y3 y4 y5)) ∧ (∀ y0 y1 y2 y3, LeO (spec_LeafOf.l0 k y0 y1 y2 y3) (spec_LeafOf.l0 (k + 1) y0 y1 y2 y3))
  | 0 => ⟨fun _ _ _ _ _ _ _ r h => by simp [spec_LeafOf.j0] at h, fun _ _ _ _ _ _ r h => by simp [spec_LeafOf.j1] at h, fun _ _ _ _ r h => by simp [spec_LeafOf.l0] at h⟩
  | k + 1 => by
    obtain ⟨ih0, ih1, ih2⟩ := spec_LeafOf.mono_l k
    refine ⟨?_, ?_, ?_⟩
    · intro y0 y1 y2 y3 y4 y5 y6
      unfold spec_LeafOf.j0
      repeat' first
      | (with_reducible exact ih0 _ _ _ _ _ _ _)
      | (with_reducible exact ih1 _ _ _ _ _ _)
      | (with_reducible exact ih2 _ _ _ _)
      | (with_reducible exact spec_l04Code.mono _ _ _ _)
      | (with_reducible exact spec_l04Leaves.mono _ _ _ _)
      | (with_reducible exact LeO.refl _)
      | (with_reducible exact LeO.none _)
      | (with_reducible refine LeO.ite ?_ ?_)
      | (with_reducible refine LeO.bind ?_ (fun _ => ?_))
      | exact ih0 _ _ _ _ _ _ _
      | exact ih1 _ _ _ _ _ _
      | exact ih2 _ _ _ _
      | exact spec_l04Code.mono _ _ _ _
      | exact spec_l04Leaves.mono _ _ _ _
      | exact LeO.none _
      | refine LeO.ite ?_ ?_
      | refine LeO.bind ?_ (fun _ => ?_)
    · intro y0 y1 y2 y3 y4 y5
      unfold spec_LeafOf.j1
      repeat' first
      | (with_reducible exact ih0 _ _ _ _ _ _ _)
      | (with_reducible exact ih1 _ _ _ _ _ _)
      | (with_reducible exact ih2 _ _ _ _)
      | (with_reducible exact spec_l04Code.mono _ _ _ _)
      | (with_reducible exact spec_l04Leaves.mono _ _ _ _)
      | (with_reducible exact LeO.refl _)
      | (with_reducible exact LeO.none _)
      | (with_reducible refine LeO.ite ?_ ?_)
      | (with_reducible refine LeO.bind ?_ (fun _ => ?_))
      | exact ih0 _ _ _ _ _ _ _
      | exact ih1 _ _ _ _ _ _
      | exact ih2 _ _ _ _
      | exact spec_l04Code.mono _ _ _ _
      | exact spec_l04Leaves.mono _ _ _ _
      | exact LeO.none _
      | refine LeO.ite ?_ ?_
      | refine LeO.bind ?_ (fun _ => ?_)
    · intro y0 y1 y2 y3
      unfold spec_LeafOf.l0
      repeat' first
      | (with_reducible exact ih0 _ _ _ _ _ _ _)
      | (with_reducible exact ih1 _ _ _ _ _ _)
      | (with_reducible exact ih2 _ _ _ _)
      | (with_reducible exact spec_l04Code.mono _ _ _ _)
      | (with_reducible exact spec_l04Leaves.mono _ _ _ _)
      | (with_reducible exact LeO.refl _)
      | (with_reducible exact LeO.none _)
      | (with_reducible refine LeO.ite ?_ ?_)
      | (with_reducible refine LeO.bind ?_ (fun _ => ?_))
      | exact ih0 _ _ _ _ _ _ _
      | exact ih1 _ _ _ _ _ _
      | exact ih2 _ _ _ _
      | exact spec_l04Code.mono _ _ _ _
      | exact spec_l04Leaves.mono _ _ _ _
      | exact LeO.none _
      | refine LeO.ite ?_ ?_
      | refine LeO.bind ?_ (fun _ => ?_)
theorem spec_LeafOf.mono : ∀ a0 a1 a2 a3 a4 k, LeO (spec_LeafOf.f k a0 a1 a2 a3 a4) (spec_LeafOf.f (k + 1) a0 a1 a2 a3 a4) := by
  intro a0 a1 a2 a3 a4 k
  obtain ⟨ih0, ih1, ih2⟩ := spec_LeafOf.mono_l k
  unfold spec_LeafOf.f
  repeat' first
      | (with_reducible exact ih0 _ _ _ _ _ _ _)
      | (with_reducible exact ih1 _ _ _ _ _ _)
      | (with_reducible exact ih2 _ _ _ _)
      | (with_reducible exact spec_l04Code.mono _ _ _ _)
      | (with_reducible exact spec_l04Leaves.mono _ _ _ _)
      | (with_reducible exact LeO.refl _)
      | (with_reducible exact LeO.none _)
      | (with_reducible refine LeO.ite ?_ ?_)
      | (with_reducible refine LeO.bind ?_ (fun _ => ?_))
      | exact ih0 _ _ _ _ _ _ _
      | exact ih1 _ _ _ _ _ _
      | exact ih2 _ _ _ _
      | exact spec_l04Code.mono _ _ _ _
      | exact spec_l04Leaves.mono _ _ _ _
      | exact LeO.none _
      | refine LeO.ite ?_ ?_
      | refine LeO.bind ?_ (fun _ => ?_)
set_option maxHeartbeats 8000000 in
set_option maxRecDepth 100000 in
theorem spec_LeafOf.calls (k : Nat) (a0 : Int) (a1 : Int) (a2 : ByteArray) (a3 : Int) (a4 : Int) (r1 : Int) (r2 : Int) (w : World) (h : spec_LeafOf.f k a0 a1 a2 a3 a4 = some (r1, r2)) :
    Calls Tryd.prog 14 #[.int .i64 a0, .int .i64 a1, .string a2, .int .i64 a3, .int .i64 a4] w fun e w' => e = .returned (.tuple #[.int .i64 r1, .int .i64 r2]) ∧ Below w.heap.size w w' := by
  have HB := Aside0.mk (Below.refl w.heap.size w)
  have H : ((spec_l04Code.f k a0 a1 a2).bind fun t214 => (if t214 = 0 then ((spec_l01In.f a3 0 (wrap64 (a0 - 1))).bind fun t215 => (if t215 = true then ((spec_l01In.f a4 0 (wrap64 (a1 - 1))).bind fun t216 => (spec_LeafOf.j0 k a0 a1 a2 a3 a4 t214 (!t216))) else (spec_LeafOf.j0 k a0 a1 a2 a3 a4 t214 true))) else (spec_LeafOf.j0 k a0 a1 a2 a3 a4 t214 false))) = some (r1, r2) := h
  clear h
  replace H := Option.bind_eq_some_iff.mp H
  obtain ⟨t214, A60, H⟩ := H
  replace H : (if t214 = 0 then ((spec_l01In.f a3 0 (wrap64 (a0 - 1))).bind fun t215 => (if t215 = true then ((spec_l01In.f a4 0 (wrap64 (a1 - 1))).bind fun t216 => (spec_LeafOf.j0 k a0 a1 a2 a3 a4 t214 (!t216))) else (spec_LeafOf.j0 k a0 a1 a2 a3 a4 t214 true))) else (spec_LeafOf.j0 k a0 a1 a2 a3 a4 t214 false)) = some (r1, r2) := H
  have A6 := Aside0.mk A60
  clear A60
  have HC7 := Aside0.mk H
  clear H
  go_enter Tryd.func14, Tryd.ntmps14
  go_upto_region 2 with (first | ((with_reducible refine gate_callee (f := 45) rfl ?_); refine goesL_ (some 18) rfl rfl Tryd.func45 (by kernel_rfl) rfl #[.int .i64 a0, .int .i64 a1, .string a2] rfl (by (try simp only [List.map_toArray, List.map_cons, List.map_nil]); first | done | rfl | (simp only [List.length_drop, List.length_take]; rfl)) ?_; (with_reducible refine (spec_l04Code.calls k a0 a1 a2 t214 _ A6.out).mono ?_); rintro e w' ⟨rfl, ⟨nd, rfl⟩⟩; refine ⟨_, rfl, ?_⟩))
  (try simp only [Act.put, List.setIfInBounds_toArray, List.set_cons_zero, List.set_cons_succ])
  go_cut [34] (fun v34 wc => ∃ (kq : Nat) (x34_6 : Bool), v34 = .bool x34_6 ∧ Aside0 (spec_LeafOf.j0 kq a0 a1 a2 a3 a4 t214 x34_6 = some (r1, r2)) ∧ Aside0 (kq ≤ k) ∧ Aside0 (Below w.heap.size w wc))
  case first =>
    have H := HC7.out
    clear HC7
    by_cases c8 : t214 = 0
    · rw [if_pos c8] at H
      have c8b0 : (t214 == 0) = true := beq_iff_eq.mpr c8
      have c8b1 : (t214 != 0) = false := bne_eq_false_iff_eq.mpr c8
      clear c8
      (first | rw [c8b0] | (simp only [i64_w, i32_w]; rw [c8b0]) | skip)
      replace H := Option.bind_eq_some_iff.mp H
      obtain ⟨t215, A90, H⟩ := H
      replace H : (if t215 = true then ((spec_l01In.f a4 0 (wrap64 (a1 - 1))).bind fun t216 => (spec_LeafOf.j0 k a0 a1 a2 a3 a4 t214 (!t216))) else (spec_LeafOf.j0 k a0 a1 a2 a3 a4 t214 true)) = some (r1, r2) := H
      have A9 := Aside0.mk A90
      clear A90
      by_cases c10 : t215 = true
      · subst c10
        have H1 : ((spec_l01In.f a4 0 (wrap64 (a1 - 1))).bind fun t216 => (spec_LeafOf.j0 k a0 a1 a2 a3 a4 t214 (!t216))) = some (r1, r2) := by rw [if_pos rfl] at H; exact H
        clear H
        have H := H1
        clear H1
        replace H := Option.bind_eq_some_iff.mp H
        obtain ⟨t216, A110, H⟩ := H
        replace H : (spec_LeafOf.j0 k a0 a1 a2 a3 a4 t214 (!t216)) = some (r1, r2) := H
        have A11 := Aside0.mk A110
        clear A110
        have H' := Aside0.mk H
        clear H
        go_wp2_with (first | (go_at_call 51; (with_reducible refine (spec_l01In.calls a3 0 (wrap64 (a0 - 1)) true _ A9.out).mono ?_); rintro e w' ⟨rfl, ⟨nd, rfl⟩⟩) | (go_at_call 51; (with_reducible refine (spec_l01In.calls a4 0 (wrap64 (a1 - 1)) t216 _ A11.out).mono ?_); rintro e w' ⟨rfl, ⟨nd, rfl⟩⟩))
        go_meet
        case rel => exact ⟨_, (!t216), (by first | rfl | (simp; done) | (simp [*]; done)), H', ⟨by first | omega | exact Nat.le_refl _⟩, ⟨by repeat (first | (with_reducible first | exact HB.out | apply below_alloc | apply pw_below_drewN | apply below_drew1) | exact HB.out)⟩⟩
      · replace c10 := Bool.eq_false_iff.mpr c10
        subst c10
        have H1 : (spec_LeafOf.j0 k a0 a1 a2 a3 a4 t214 true) = some (r1, r2) := by rw [if_neg (show ¬ (false = true) by decide)] at H; exact H
        clear H
        have H := H1
        clear H1
        have H' := Aside0.mk H
        clear H
        go_wp2_with (first | (go_at_call 51; (with_reducible refine (spec_l01In.calls a3 0 (wrap64 (a0 - 1)) false _ A9.out).mono ?_); rintro e w' ⟨rfl, ⟨nd, rfl⟩⟩))
        go_meet
        case rel => exact ⟨_, (true), (by first | rfl | (simp; done) | (simp [*]; done)), H', ⟨by first | omega | exact Nat.le_refl _⟩, ⟨by repeat (first | (with_reducible first | exact HB.out | apply below_alloc | apply pw_below_drewN | apply below_drew1) | exact HB.out)⟩⟩
    · rw [if_neg c8] at H
      have c8b0 : (t214 == 0) = false := beq_eq_false_iff_ne.mpr c8
      have c8b1 : (t214 != 0) = true := bne_iff_ne.mpr c8
      (first | rw [c8b0] | (simp only [i64_w, i32_w]; rw [c8b0]) | skip)
      have H' := Aside0.mk H
      clear H
      go_wp2
      go_meet
      case rel => exact ⟨_, (false), (by first | rfl | (simp; done) | (simp [*]; done)), H', ⟨by first | omega | exact Nat.le_refl _⟩, ⟨by repeat (first | (with_reducible first | exact HB.out | apply below_alloc | apply pw_below_drewN | apply below_drew1) | exact HB.out)⟩⟩
  case rest =>
    clear HC7
    try clear c1
    try clear p2
    try clear c4
    try clear p6
    try clear c8
    try clear c8b0
    try clear c8b1
    try clear c10
    obtain ⟨kq, x34_6, rfl, HA, HJ6, HB⟩ := hcut
    cases kq with
    | zero => exact absurd HA.out (by simp [spec_LeafOf.j0])
    | succ kj6 =>
      have H := HA.out
      clear HA
      simp only [spec_LeafOf.j0] at H
      have HC12 := Aside0.mk H
      clear H
      go_upto_if 34 with (fail)
      go_cut [12] (fun v12 wc => ∃ (kq : Nat) (x12_11 : Int), v12 = .int .i64 x12_11 ∧ Aside0 (spec_LeafOf.j1 kq a0 a1 a2 a3 a4 x12_11 = some (r1, r2)) ∧ Aside0 (kq ≤ kj6) ∧ Aside0 (Below w.heap.size w wc))
      case first =>
        have H := HC12.out
        clear HC12
        by_cases c13 : x34_6 = true
        · subst c13
          have H1 : (spec_LeafOf.j1 kj6 a0 a1 a2 a3 a4 2) = some (r1, r2) := by rw [if_pos rfl] at H; exact H
          clear H
          have H := H1
          clear H1
          have H' := Aside0.mk H
          clear H
          go_wp2
          go_meet
          case rel => exact ⟨_, (2), (by first | rfl | (simp; done) | (simp [*]; done)), H', ⟨by have := HJ6.out; first | omega | exact Nat.le_refl _⟩, ⟨by repeat (first | (with_reducible first | exact HB.out | apply below_alloc | apply pw_below_drewN | apply below_drew1) | exact HB.out)⟩⟩
        · replace c13 := Bool.eq_false_iff.mpr c13
          subst c13
          have H1 : (spec_LeafOf.j1 kj6 a0 a1 a2 a3 a4 t214) = some (r1, r2) := by rw [if_neg (show ¬ (false = true) by decide)] at H; exact H
          clear H
          have H := H1
          clear H1
          have H' := Aside0.mk H
          clear H
          go_wp2
          go_meet
          case rel => exact ⟨_, (t214), (by first | rfl | (simp; done) | (simp [*]; done)), H', ⟨by have := HJ6.out; first | omega | exact Nat.le_refl _⟩, ⟨by repeat (first | (with_reducible first | exact HB.out | apply below_alloc | apply pw_below_drewN | apply below_drew1) | exact HB.out)⟩⟩
      case rest =>
        clear HC12
        try clear c1
        try clear p2
        try clear c4
        try clear p6
        try clear c8
        try clear c8b0
        try clear c8b1
        try clear c10
        try clear c13
        try clear p2
        try clear p6
        obtain ⟨kq, x12_11, rfl, HA, HJ11, HB⟩ := hcut
        cases kq with
        | zero => exact absurd HA.out (by simp [spec_LeafOf.j1])
        | succ kj11 =>
          have H := HA.out
          clear HA
          simp only [spec_LeafOf.j1] at H
          by_cases c14 : x12_11 = 0
          · rw [if_pos c14] at H
            have c14b0 : (x12_11 == 0) = true := beq_iff_eq.mpr c14
            have c14b1 : (x12_11 != 0) = false := bne_eq_false_iff_eq.mpr c14
            clear c14
            replace H := Option.bind_eq_some_iff.mp H
            obtain ⟨t217, A150, H⟩ := H
            replace H : (spec_LeafOf.l0 kj11 a3 a4 t217 0) = some (r1, r2) := H
            have A15 := Aside0.mk A150
            clear A150
            have H' := Aside0.mk H
            clear H
            go_wp2_with (first | ((with_reducible refine gate_callee (f := 46) rfl ?_); refine goesL_ (some 41) rfl rfl Tryd.func46 (by kernel_rfl) rfl #[.int .i64 a0, .int .i64 a1, .string a2] rfl (by (try simp only [List.map_toArray, List.map_cons, List.map_nil]); first | done | rfl | (simp only [List.length_drop, List.length_take]; rfl)) ?_; (with_reducible refine (spec_l04Leaves.calls kj11 a0 a1 a2 t217 _ A15.out).mono ?_); rintro e w16 ⟨v218, rfl, ho0, hb⟩; refine ⟨_, rfl, ?_⟩; have n0_ := Aside0.mk (Kd.R_lower ho0 (below_size (by repeat (first | (with_reducible first | exact HB.out | apply below_alloc | apply pw_below_drewN | apply below_drew1) | exact HB.out)))); have n1_ := Aside0.mk (below_step (by repeat (first | (with_reducible first | exact HB.out | apply below_alloc | apply pw_below_drewN | apply below_drew1) | exact HB.out)) hb); clear HB; have HO219 := n0_; have HB := n1_; clear n0_ n1_; (try clear hb); (try clear hb2); (try clear hk); (try clear hi); (try clear ho0)))
            go_loopg [14] kj11 (fun kq v14 w' => ∃ (x14_3 : Int), v14 = .int .i64 x14_3 ∧ Aside0 (spec_LeafOf.l0 kq a3 a4 t217 x14_3 = some (r1, r2)) ∧ Aside0 (kq ≤ kj11) ∧ Aside0 (Kd.R k39 39 w' w.heap.size (fun _ => True) v218 t217) ∧ Aside0 (Below w.heap.size w w'))
            case atStart => exact ⟨(0), (by first | rfl | (simp; done) | (simp [*]; done)), H', ⟨Nat.le_refl _⟩, ⟨by (with_reducible repeat (first | apply Kd.R_alloc | apply Kd.R_drewN | apply Kd.R_drew)); exact HO219.out⟩, ⟨by repeat (first | (with_reducible first | exact HB.out | apply below_alloc | apply pw_below_drewN | apply below_drew1) | exact HB.out)⟩⟩
            case round =>
              clear H'
              try clear c1
              try clear p2
              try clear c4
              try clear p6
              try clear c8
              try clear c8b0
              try clear c8b1
              try clear c10
              try clear c13
              try clear c14
              try clear c14b0
              try clear c14b1
              try clear p2
              try clear p6
              obtain ⟨x14_3, rfl, HA, HK3, HO_13, HB⟩ := hrel
              cases gk with
              | zero => exact absurd HA.out (by simp [spec_LeafOf.l0])
              | succ k3 =>
                have H := HA.out
                clear HA
                simp only [spec_LeafOf.l0] at H
                by_cases c17 : 0 ≤ x14_3
                · rw [if_pos c17] at H
                  have c17b0 : decide (0 ≤ x14_3) = true := decide_eq_true c17
                  clear c17
                  by_cases c18 : x14_3 < (t217.length : Int)
                  · rw [if_pos c18] at H
                    have c18b0 : decide (x14_3 < (t217.length : Int)) = true := decide_eq_true c18
                    clear c18
                    by_cases c19 : ((rd_T39 t217 x14_3).f0) = a3
                    · rw [if_pos c19] at H
                      have c19b0 : (((rd_T39 t217 x14_3).f0) == a3) = true := beq_iff_eq.mpr c19
                      have c19b1 : (((rd_T39 t217 x14_3).f0) != a3) = false := bne_eq_false_iff_eq.mpr c19
                      clear c19
                      by_cases c20 : ((rd_T39 t217 x14_3).f1) = a4
                      · rw [if_pos c20] at H
                        have c20b0 : (((rd_T39 t217 x14_3).f1) == a4) = true := beq_iff_eq.mpr c20
                        have c20b1 : (((rd_T39 t217 x14_3).f1) != a4) = false := bne_eq_false_iff_eq.mpr c20
                        clear c20
                        simp only [Option.some.injEq, Prod.mk.injEq] at H
                        obtain ⟨rfl, rfl⟩ := H
                        obtain ⟨Ao21, co21, eo21⟩ := Kd.R_slice HO_13.out
                        subst eo21
                        have p220 : 0 ≤ (x14_3 : Int) := of_decide_eq_true (by first | (with_reducible assumption) | assumption)
                        have q220 : x14_3 < (t217.length : Int) := of_decide_eq_true (by first | (with_reducible assumption) | assumption)
                        obtain ⟨ad220, e220, hx220_0, hx220_1, hx220_2, hx220_3⟩ := at_T39 (Kd.R_reads' HO_13.out).2.2 x14_3 p220 q220
                        cases e220
                        replace p220 := eq_true p220
                        replace q220 := eq_true q220
                        have p221 : 0 ≤ (x14_3 : Int) := of_decide_eq_true (by first | (with_reducible assumption) | assumption)
                        have q221 : x14_3 < (t217.length : Int) := of_decide_eq_true (by first | (with_reducible assumption) | assumption)
                        obtain ⟨ad221, e221, hx221_0, hx221_1, hx221_2, hx221_3⟩ := at_T39 (Kd.R_reads' HO_13.out).2.2 x14_3 p221 q221
                        obtain rfl : ad220 = ad221 := (by injection e221)
                        replace p221 := eq_true p221
                        replace q221 := eq_true q221
                        go_wp2
                        go_ret2
                        exact ⟨by first | rfl | (simp only [Go.IntWalk.i64_left]; first | done | rfl) | (simp [errW_none, errW_some] <;> rfl) | (simp [*, errW_none, errW_some] <;> rfl), by repeat (first | (with_reducible first | exact HB.out | apply below_alloc | apply pw_below_drewN | apply below_drew1) | exact HB.out)⟩
                      · rw [if_neg c20] at H
                        have c20b0 : (((rd_T39 t217 x14_3).f1) == a4) = false := beq_eq_false_iff_ne.mpr c20
                        have c20b1 : (((rd_T39 t217 x14_3).f1) != a4) = true := bne_iff_ne.mpr c20
                        have H' := Aside0.mk H
                        clear H
                        obtain ⟨Ao22, co22, eo22⟩ := Kd.R_slice HO_13.out
                        subst eo22
                        have p220 : 0 ≤ (x14_3 : Int) := of_decide_eq_true (by first | (with_reducible assumption) | assumption)
                        have q220 : x14_3 < (t217.length : Int) := of_decide_eq_true (by first | (with_reducible assumption) | assumption)
                        obtain ⟨ad220, e220, hx220_0, hx220_1, hx220_2, hx220_3⟩ := at_T39 (Kd.R_reads' HO_13.out).2.2 x14_3 p220 q220
                        cases e220
                        replace p220 := eq_true p220
                        replace q220 := eq_true q220
                        have p221 : 0 ≤ (x14_3 : Int) := of_decide_eq_true (by first | (with_reducible assumption) | assumption)
                        have q221 : x14_3 < (t217.length : Int) := of_decide_eq_true (by first | (with_reducible assumption) | assumption)
                        obtain ⟨ad221, e221, hx221_0, hx221_1, hx221_2, hx221_3⟩ := at_T39 (Kd.R_reads' HO_13.out).2.2 x14_3 p221 q221
                        obtain rfl : ad220 = ad221 := (by injection e221)
                        replace p221 := eq_true p221
                        replace q221 := eq_true q221
                        go_wp2
                        go_roundg k3
                        case measure => have := HJ6.out; have := HJ11.out; have := HK3.out; omega
                        case rel => exact ⟨(wrap64 (x14_3 + 1)), (by first | rfl | (simp; done) | (simp [*]; done)), H', ⟨by have := HJ6.out; have := HJ11.out; have := HK3.out; omega⟩, ⟨by (with_reducible repeat (first | apply Kd.R_alloc | apply Kd.R_drewN | apply Kd.R_drew)); exact HO_13.out⟩, ⟨by repeat (first | (with_reducible first | exact HB.out | apply below_alloc | apply pw_below_drewN | apply below_drew1) | exact HB.out)⟩⟩
                    · rw [if_neg c19] at H
                      have c19b0 : (((rd_T39 t217 x14_3).f0) == a3) = false := beq_eq_false_iff_ne.mpr c19
                      have c19b1 : (((rd_T39 t217 x14_3).f0) != a3) = true := bne_iff_ne.mpr c19
                      have H' := Aside0.mk H
                      clear H
                      obtain ⟨Ao23, co23, eo23⟩ := Kd.R_slice HO_13.out
                      subst eo23
                      have p220 : 0 ≤ (x14_3 : Int) := of_decide_eq_true (by first | (with_reducible assumption) | assumption)
                      have q220 : x14_3 < (t217.length : Int) := of_decide_eq_true (by first | (with_reducible assumption) | assumption)
                      obtain ⟨ad220, e220, hx220_0, hx220_1, hx220_2, hx220_3⟩ := at_T39 (Kd.R_reads' HO_13.out).2.2 x14_3 p220 q220
                      cases e220
                      replace p220 := eq_true p220
                      replace q220 := eq_true q220
                      go_wp2
                      go_roundg k3
                      case measure => have := HJ6.out; have := HJ11.out; have := HK3.out; omega
                      case rel => exact ⟨(wrap64 (x14_3 + 1)), (by first | rfl | (simp; done) | (simp [*]; done)), H', ⟨by have := HJ6.out; have := HJ11.out; have := HK3.out; omega⟩, ⟨by (with_reducible repeat (first | apply Kd.R_alloc | apply Kd.R_drewN | apply Kd.R_drew)); exact HO_13.out⟩, ⟨by repeat (first | (with_reducible first | exact HB.out | apply below_alloc | apply pw_below_drewN | apply below_drew1) | exact HB.out)⟩⟩
                  · rw [if_neg c18] at H
                    exact absurd H (by simp)
                · rw [if_neg c17] at H
                  exact absurd H (by simp)
          · rw [if_neg c14] at H
            have c14b0 : (x12_11 == 0) = false := beq_eq_false_iff_ne.mpr c14
            have c14b1 : (x12_11 != 0) = true := bne_iff_ne.mpr c14
            simp only [Option.some.injEq, Prod.mk.injEq] at H
            obtain ⟨rfl, rfl⟩ := H
            go_wp2
            go_ret2
            exact ⟨by first | rfl | (simp only [Go.IntWalk.i64_left]; first | done | rfl) | (simp [errW_none, errW_some] <;> rfl) | (simp [*, errW_none, errW_some] <;> rfl), by repeat (first | (with_reducible first | exact HB.out | apply below_alloc | apply pw_below_drewN | apply below_drew1) | exact HB.out)⟩

/-! ### impl_isSide: function 76 -/
def impl_isSide.f (a0 : Int) : Option (Bool) := if a0 = 1 then (some true) else (if a0 = 2 then (some true) else (if a0 = 4 then (some true) else (some (a0 == 8))))
set_option maxHeartbeats 8000000 in
set_option maxRecDepth 100000 in
theorem impl_isSide.calls (a0 : Int) (r : Bool) (w : World) (h : impl_isSide.f a0 = some r) :
    Calls Tryd.prog 76 #[.int .i64 a0] w fun e w' => e = .returned (.bool r) ∧ Drawn0 w w' := by
  have H : (if a0 = 1 then (some true) else (if a0 = 2 then (some true) else (if a0 = 4 then (some true) else (some (a0 == 8))))) = some r := h
  clear h
  by_cases c2 : a0 = 1
  · rw [if_pos c2] at H
    have c2b0 : (a0 == 1) = true := beq_iff_eq.mpr c2
    have c2b1 : (a0 != 1) = false := bne_eq_false_iff_eq.mpr c2
    clear c2
    obtain rfl := Option.some.inj H
    go_enter Tryd.func76, Tryd.ntmps76
    go_wp2
    go_ret
    exact ⟨by first | rfl | (simp only [Go.IntWalk.i64_left]; first | done | rfl) | (simp; done) | (simp [*]; done), by repeat (first | exact Drawn0.refl _ | apply Drawn0.step)⟩
  · rw [if_neg c2] at H
    have c2b0 : (a0 == 1) = false := beq_eq_false_iff_ne.mpr c2
    have c2b1 : (a0 != 1) = true := bne_iff_ne.mpr c2
    by_cases c3 : a0 = 2
    · rw [if_pos c3] at H
      have c3b0 : (a0 == 2) = true := beq_iff_eq.mpr c3
      have c3b1 : (a0 != 2) = false := bne_eq_false_iff_eq.mpr c3
      clear c3
      obtain rfl := Option.some.inj H
      go_enter Tryd.func76, Tryd.ntmps76
      go_wp2
      go_ret
      exact ⟨by first | rfl | (simp only [Go.IntWalk.i64_left]; first | done | rfl) | (simp; done) | (simp [*]; done), by repeat (first | exact Drawn0.refl _ | apply Drawn0.step)⟩
    · rw [if_neg c3] at H
      have c3b0 : (a0 == 2) = false := beq_eq_false_iff_ne.mpr c3
      have c3b1 : (a0 != 2) = true := bne_iff_ne.mpr c3
      by_cases c4 : a0 = 4
      · rw [if_pos c4] at H
        have c4b0 : (a0 == 4) = true := beq_iff_eq.mpr c4
        have c4b1 : (a0 != 4) = false := bne_eq_false_iff_eq.mpr c4
        clear c4
        obtain rfl := Option.some.inj H
        go_enter Tryd.func76, Tryd.ntmps76
        go_wp2
        go_ret
        exact ⟨by first | rfl | (simp only [Go.IntWalk.i64_left]; first | done | rfl) | (simp; done) | (simp [*]; done), by repeat (first | exact Drawn0.refl _ | apply Drawn0.step)⟩
      · rw [if_neg c4] at H
        have c4b0 : (a0 == 4) = false := beq_eq_false_iff_ne.mpr c4
        have c4b1 : (a0 != 4) = true := bne_iff_ne.mpr c4
        obtain rfl := Option.some.inj H
        go_enter Tryd.func76, Tryd.ntmps76
        go_wp2
        go_ret
        exact ⟨by first | rfl | (simp only [Go.IntWalk.i64_left]; first | done | rfl) | (simp; done) | (simp [*]; done), by repeat (first | exact Drawn0.refl _ | apply Drawn0.step)⟩

/-! ### impl_isSheet: function 41 -/
def impl_isSheet.f (a0 : Int) (a1 : Int) : Option (Bool) := (impl_isSide.f a0).bind fun t222 => (if t222 = true then ((impl_isSide.f a1).bind fun t223 => (some t223)) else (some false))
set_option maxHeartbeats 8000000 in
set_option maxRecDepth 100000 in
theorem impl_isSheet.calls (a0 : Int) (a1 : Int) (r : Bool) (w : World) (h : impl_isSheet.f a0 a1 = some r) :
    Calls Tryd.prog 41 #[.int .i64 a0, .int .i64 a1] w fun e w' => e = .returned (.bool r) ∧ Drawn0 w w' := by
  have H : ((impl_isSide.f a0).bind fun t222 => (if t222 = true then ((impl_isSide.f a1).bind fun t223 => (some t223)) else (some false))) = some r := h
  clear h
  replace H := Option.bind_eq_some_iff.mp H
  obtain ⟨t222, A30, H⟩ := H
  replace H : (if t222 = true then ((impl_isSide.f a1).bind fun t223 => (some t223)) else (some false)) = some r := H
  have A3 := Aside0.mk A30
  clear A30
  by_cases c4 : t222 = true
  · subst c4
    have H1 : ((impl_isSide.f a1).bind fun t223 => (some t223)) = some r := by rw [if_pos rfl] at H; exact H
    clear H
    have H := H1
    clear H1
    replace H := Option.bind_eq_some_iff.mp H
    obtain ⟨t223, A50, H⟩ := H
    replace H : (some t223) = some r := H
    have A5 := Aside0.mk A50
    clear A50
    obtain rfl := Option.some.inj H
    go_enter Tryd.func41, Tryd.ntmps41
    go_wp2_with (first | ((with_reducible refine gate_callee (f := 76) rfl ?_); refine goesL_ (some 6) rfl rfl Tryd.func76 (by kernel_rfl) rfl #[.int .i64 a0] rfl (by (try simp only [List.map_toArray, List.map_cons, List.map_nil]); first | done | rfl | (simp only [List.length_drop, List.length_take]; rfl)) ?_; (with_reducible refine (impl_isSide.calls a0 true _ A3.out).mono ?_); rintro e w' ⟨rfl, ⟨nd, rfl⟩⟩; refine ⟨_, rfl, ?_⟩) | (go_at_call 76; (with_reducible refine (impl_isSide.calls a1 t223 _ A5.out).mono ?_); rintro e w' ⟨rfl, ⟨nd, rfl⟩⟩))
    go_ret
    exact ⟨by first | rfl | (simp only [Go.IntWalk.i64_left]; first | done | rfl) | (simp; done) | (simp [*]; done), by repeat (first | exact Drawn0.refl _ | apply Drawn0.step)⟩
  · replace c4 := Bool.eq_false_iff.mpr c4
    subst c4
    have H1 : (some false) = some r := by rw [if_neg (show ¬ (false = true) by decide)] at H; exact H
    clear H
    have H := H1
    clear H1
    obtain rfl := Option.some.inj H
    go_enter Tryd.func41, Tryd.ntmps41
    go_wp2_with (first | ((with_reducible refine gate_callee (f := 76) rfl ?_); refine goesL_ (some 6) rfl rfl Tryd.func76 (by kernel_rfl) rfl #[.int .i64 a0] rfl (by (try simp only [List.map_toArray, List.map_cons, List.map_nil]); first | done | rfl | (simp only [List.length_drop, List.length_take]; rfl)) ?_; (with_reducible refine (impl_isSide.calls a0 false _ A3.out).mono ?_); rintro e w' ⟨rfl, ⟨nd, rfl⟩⟩; refine ⟨_, rfl, ?_⟩))
    go_ret
    exact ⟨by first | rfl | (simp only [Go.IntWalk.i64_left]; first | done | rfl) | (simp; done) | (simp [*]; done), by repeat (first | exact Drawn0.refl _ | apply Drawn0.step)⟩

-- NOT PRINTED: function 77 (strings_trimLeftByte)

-- NOT PRINTED: function 78 (strings_trimRightByte)

-- NOT PRINTED: function 79 (strings_makeASCIISet)

-- NOT PRINTED: function 92 (strings_asciiSet_contains)

-- NOT PRINTED: function 80 (strings_trimLeftASCII)

-- NOT PRINTED: function 81 (strings_trimRightASCII)

-- NOT PRINTED: function 101 (utf8_decodeRuneInStringSlow)

-- NOT PRINTED: function 93 (utf8_DecodeRuneInString)

-- NOT PRINTED: function 105 (bytealg_IndexString)

-- NOT PRINTED: function 106 (bytealg_Cutover)

-- NOT PRINTED: function 111 (bytealg_IndexByteString)

-- NOT PRINTED: function 104 (stringslite_IndexByte)

-- NOT PRINTED: function 109 (strings_IndexByte)

-- NOT PRINTED: function 110 (utf8_ValidRune)

-- NOT PRINTED: function 102 (strings_IndexRune)

-- NOT PRINTED: function 94 (strings_ContainsRune)

-- NOT PRINTED: function 82 (strings_trimLeftUnicode)

-- NOT PRINTED: function 103 (utf8_RuneStart)

-- NOT PRINTED: function 95 (utf8_DecodeLastRuneInString)

-- NOT PRINTED: function 83 (strings_trimRightUnicode)

-- NOT PRINTED: function 42 (strings_Trim)

-- NOT PRINTED: function 84 (utf8_RuneCountInString)

-- NOT PRINTED: function 85 (bytealg_CountString)

-- NOT PRINTED: function 112 (bytealg_hashStr_string)

-- NOT PRINTED: function 107 (bytealg_IndexRabinKarp_string)

-- NOT PRINTED: function 96 (stringslite_Index)

-- NOT PRINTED: function 86 (strings_Index)

-- NOT PRINTED: function 43 (strings_Count)

end Go.Proofs.YtijbccmcfagnfaaDoor.QFnExactLeafOf
