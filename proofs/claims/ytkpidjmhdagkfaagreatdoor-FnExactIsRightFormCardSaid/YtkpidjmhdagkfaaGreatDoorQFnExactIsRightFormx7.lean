-- Written by own_print.py of this session's repo over the kit's print (its output, turned at some places).
import Derived.Test.YtkpidjmhdagkfaaGreatDoorQFnExactIsRightFormx0
import Derived.Test.YtkpidjmhdagkfaaGreatDoorQFnExactIsRightFormx1
import Derived.Test.YtkpidjmhdagkfaaGreatDoorQFnExactIsRightFormx3
import Derived.Test.YtkpidjmhdagkfaaGreatDoorQFnExactIsRightFormx6
namespace Go.Proofs.YtkpidjmhdagkfaaGreatDoor.QFnExactIsRightForm
open Go.RowKit Go.Proofs.YtkpidjmhdagkfaaGreatDoorW.PrintWords Go.Proofs.YtkpidjmhdagkfaaGreatDoorW.PrintLast Go.Proofs.YtkpidjmhdagkfaaGreatDoorW.PrintMore
attribute [local go_sem] max2_int min2_int max_two min_two max_three min_three max_four min_four   -- for this text's walks alone
set_option linter.unusedVariables false
set_option linter.unusedSimpArgs false

/-! ### spec_l05Right: function 37 -/
def spec_l05Right.l0 : Nat → List Int → Int → Int → Option (Bool)
 | 0, _, _, _ => none
 | k + 1, x5, x6, x7 => if x7 < (x5.length : Int) then (if 0 ≤ x7 then (if (rd x5 x7) = (wrap64 (x6 + x7)) then (spec_l05Right.l0 k x5 x6 (wrap64 (x7 + 1))) else (some false)) else (none)) else (some true)
def spec_l05Right.f (k : Nat) (a0_0 : Int) (a0_1 : Int) (l0_2 : List Int) (l0_3 : List Int) (l0_4 : List Int) (a1 : ByteArray) : Option (Bool) := (spec_l05Read.f k a0_0 a0_1 l0_2 l0_3 l0_4 a1).bind fun t277 => ((spec_l05Least.f k a0_0 a0_1 l0_2 l0_3 l0_4).bind fun t280 => (spec_l05Right.l0 k t277 t280 0))
theorem spec_l05Right.mono_l : ∀ k, (∀ y0 y1 y2, LeO (spec_l05Right.l0 k y0 y1 y2) (spec_l05Right.l0 (k + 1) y0 y1 y2))
 | 0 => fun _ _ _ r h => by simp [spec_l05Right.l0] at h
 | k + 1 => by
  have ih0 := spec_l05Right.mono_l k
  ·intro y0 y1 y2
   unfold spec_l05Right.l0
   repeat' first
   | (with_reducible exact ih0 _ _ _)
   | (with_reducible exact spec_l05Least.mono _ _ _ _ _ _)
   | (with_reducible exact spec_l05Read.mono _ _ _ _ _ _ _)
   | (with_reducible exact LeO.refl _)
   | (with_reducible exact LeO.none _)
   | (with_reducible refine LeO.ite ?_ ?_)
   | (with_reducible refine LeO.bind ?_ (fun _ => ?_))
   | exact ih0 _ _ _
   | exact spec_l05Least.mono _ _ _ _ _ _
   | exact spec_l05Read.mono _ _ _ _ _ _ _
   | exact LeO.none _
   | refine LeO.ite ?_ ?_
   | refine LeO.bind ?_ (fun _ => ?_)
theorem spec_l05Right.mono : ∀ a0 a1 a2 a3 a4 a5 k, LeO (spec_l05Right.f k a0 a1 a2 a3 a4 a5) (spec_l05Right.f (k + 1) a0 a1 a2 a3 a4 a5) := by
 intro a0 a1 a2 a3 a4 a5 k
 have ih0 := spec_l05Right.mono_l k
 unfold spec_l05Right.f
 repeat' first
   | (with_reducible exact ih0 _ _ _)
   | (with_reducible exact spec_l05Least.mono _ _ _ _ _ _)
   | (with_reducible exact spec_l05Read.mono _ _ _ _ _ _ _)
   | (with_reducible exact LeO.refl _)
   | (with_reducible exact LeO.none _)
   | (with_reducible refine LeO.ite ?_ ?_)
   | (with_reducible refine LeO.bind ?_ (fun _ => ?_))
   | exact ih0 _ _ _
   | exact spec_l05Least.mono _ _ _ _ _ _
   | exact spec_l05Read.mono _ _ _ _ _ _ _
   | exact LeO.none _
   | refine LeO.ite ?_ ?_
   | refine LeO.bind ?_ (fun _ => ?_)
set_option maxHeartbeats 8000000 in
set_option maxRecDepth 100000 in
theorem spec_l05Right.calls (k : Nat) (a0_0 : Int) (a0_1 : Int) (A0_2 : Option Addr) (c0_2 : Nat) (l0_2 : List Int) (A0_3 : Option Addr) (c0_3 : Nat) (l0_3 : List Int) (A0_4 : Option Addr) (c0_4 : Nat) (l0_4 : List Int) (a1 : ByteArray) (r : Bool) (w : World) (hr0_2 : Kd.C (Kd.int .i64) w A0_2 l0_2.length l0_2) (hc0_2 : l0_2.length ≤ c0_2) (hr0_3 : Kd.C (Kd.int .i64) w A0_3 l0_3.length l0_3) (hc0_3 : l0_3.length ≤ c0_3) (hr0_4 : Kd.C (Kd.int .i64) w A0_4 l0_4.length l0_4) (hc0_4 : l0_4.length ≤ c0_4) (h : spec_l05Right.f k a0_0 a0_1 l0_2 l0_3 l0_4 a1 = some r) :
  Calls Tryz.prog 37 #[.agg #[.int .i64 a0_0, .int .i64 a0_1, .slice A0_2 l0_2.length c0_2, .slice A0_3 l0_3.length c0_3, .slice A0_4 l0_4.length c0_4], .string a1] w fun e w' => e = .returned (.bool r) ∧ Below w.heap.size w w' := by
 have hu28 := Tryz.underlying28
 have HR0_2 := Aside0.mk hr0_2
 have HC0_2 := Aside0.mk hc0_2
 clear hr0_2 hc0_2
 have HR0_3 := Aside0.mk hr0_3
 have HC0_3 := Aside0.mk hc0_3
 clear hr0_3 hc0_3
 have HR0_4 := Aside0.mk hr0_4
 have HC0_4 := Aside0.mk hc0_4
 clear hr0_4 hc0_4
 have HB := a_ (Below.refl w.heap.size w)
 have H : ((spec_l05Read.f k a0_0 a0_1 l0_2 l0_3 l0_4 a1).bind fun t277 => ((spec_l05Least.f k a0_0 a0_1 l0_2 l0_3 l0_4).bind fun t280 => (spec_l05Right.l0 k t277 t280 0))) = some r := h
 clear h
 replace H := Option.bind_eq_some_iff.mp H
 obtain ⟨t277, A30, H⟩ := H
 replace H : ((spec_l05Least.f k a0_0 a0_1 l0_2 l0_3 l0_4).bind fun t280 => (spec_l05Right.l0 k t277 t280 0)) = some r := H
 have A3 := Aside0.mk A30
 clear A30
 replace H := Option.bind_eq_some_iff.mp H
 obtain ⟨t280, A40, H⟩ := H
 replace H : (spec_l05Right.l0 k t277 t280 0) = some r := H
 have A4 := Aside0.mk A40
 clear A40
 have H' := Aside0.mk H
 clear H
 go_enter Tryz.func37, Tryz.ntmps37
 go_wp2_with (first | ((with_reducible refine gate_dst (N := 2) rfl ?_); refine box_event ?hg (N := 2) ?hd (cs := #[.int .i64 a0_0, .int .i64 a0_1, .slice A0_2 l0_2.length c0_2, .slice A0_3 l0_3.length c0_3, .slice A0_4 l0_4.length c0_4]) (t := 28) ?hr ?_; (case hd => rfl); (case hg => rfl); (case hr => first | (go_simp; done) | (go_simp; rfl)); intro gb276 hg w5 hbox hb; have BK276 := a_ (hbox); have GW276 := a_ ((z31_ : w.heap.size ≤ gb276)); have GE276 := a_ ((z31_ : w.heap.size ≤ gb276)); replace HB := a_ (below_step z32_ hb); clear hb hbox hg; obtain ⟨hcz6_0, hcz6_1, hcz6_2, hcz6_3, hcz6_4, hfz6_0, hfz6_1, hfz6_2, hfz6_3, hfz6_4⟩ := cz5_ (w := w5) BK276.out) | ((with_reducible refine gate_callee (f := 72) rfl ?_); refine goesL_ (some 10) rfl rfl Tryz.func72 (by kernel_rfl) rfl #[.agg #[.int .i64 a0_0, .int .i64 a0_1, .slice A0_2 l0_2.length c0_2, .slice A0_3 l0_3.length c0_3, .slice A0_4 l0_4.length c0_4], .string a1] rfl z34_ ?_; (with_reducible refine (spec_l05Read.calls k a0_0 a0_1 _ _ l0_2 _ _ l0_3 _ _ l0_4 a1 t277 _ ?side1 ?side2 ?side3 ?side4 ?side5 ?side6 A3.out).mono ?_); (case side1 => exact kc_ (Kd.C_below HR0_2.out HB.out)); (case side2 => exact HC0_2.out); (case side3 => exact kc_ (Kd.C_below HR0_3.out HB.out)); (case side4 => exact HC0_3.out); (case side5 => exact kc_ (Kd.C_below HR0_4.out HB.out)); (case side6 => exact HC0_4.out); rintro e w7 ⟨v278, rfl, ho0, hb⟩; refine ⟨_, rfl, ?_⟩; have HO279 := a_ (Kd.R_lower ho0 (below_size z21_)); replace BK276 := a_ (blk_below (g := gb276) (rb_ BK276.out) hb); replace HB := a_ (below_step z21_ hb); (try clear hb); (try clear hb2); (try clear hk); (try clear hi); (try clear ho0); obtain ⟨hcz8_0, hcz8_1, hcz8_2, hcz8_3, hcz8_4, hfz8_0, hfz8_1, hfz8_2, hfz8_3, hfz8_4⟩ := cz5_ (w := w7) BK276.out) | ((with_reducible refine gate_callee (f := 68) rfl ?_); refine goesL_ (some 12) rfl rfl Tryz.func68 (by kernel_rfl) rfl #[.agg #[.int .i64 a0_0, .int .i64 a0_1, .slice A0_2 l0_2.length c0_2, .slice A0_3 l0_3.length c0_3, .slice A0_4 l0_4.length c0_4]] rfl z34_ ?_; (with_reducible refine (spec_l05Least.calls k a0_0 a0_1 _ _ l0_2 _ _ l0_3 _ _ l0_4 t280 _ ?side1 ?side2 ?side3 ?side4 ?side5 ?side6 A4.out).mono ?_); (case side1 => exact kc_ (Kd.C_below HR0_2.out HB.out)); (case side2 => exact HC0_2.out); (case side3 => exact kc_ (Kd.C_below HR0_3.out HB.out)); (case side4 => exact HC0_3.out); (case side5 => exact kc_ (Kd.C_below HR0_4.out HB.out)); (case side6 => exact HC0_4.out); rintro e w9 ⟨rfl, hb⟩; refine ⟨_, rfl, ?_⟩; replace HO279 := a_ (Kd.R_below (ra_ HO279.out) hb); replace BK276 := a_ (blk_below (g := gb276) (rb_ BK276.out) hb); replace HB := a_ (below_step z21_ hb); (try clear hb); (try clear hb2); (try clear hk); (try clear hi)))
 go_loopg [7] k (fun kq v7 w' => ∃ (x7_1 : Int), v7 = .int .i64 x7_1 ∧ Aside0 (spec_l05Right.l0 kq t277 t280 x7_1 = some r) ∧ Aside0 (kq ≤ k) ∧ Aside0 (Kd.R (Kd.int .i64) 2 w' w.heap.size (fun _ => True) v278 t277) ∧ Aside0 (w'.heap[gb276]? = some (.cells #[.int .i64 a0_0, .int .i64 a0_1, (.slice A0_2 l0_2.length c0_2), (.slice A0_3 l0_3.length c0_3), (.slice A0_4 l0_4.length c0_4)] 28 (0, 0))) ∧ Aside0 (Below w.heap.size w w'))
 case atStart => exact ⟨(0), z76_, H', ⟨Nat.le_refl _⟩, ⟨by (with_reducible repeat (first | apply Kd.R_alloc | apply Kd.R_drewN | apply Kd.R_drew)); exact HO279.out⟩, ⟨by (with_reducible repeat (first | refine blk_drewN ?_ _ | refine blk_drew ?_ | refine blk_alloc ?_ _)); exact BK276.out⟩, ⟨z21_⟩⟩
 case round =>
  clear H'
  try clear hcz6_0 hcz6_1 hcz6_2 hcz6_3 hcz6_4; try clear hcz8_0 hcz8_1 hcz8_2 hcz8_3 hcz8_4; try clear hfz6_0 hfz6_1 hfz6_2 hfz6_3 hfz6_4; try clear hfz8_0 hfz8_1 hfz8_2 hfz8_3 hfz8_4
  obtain ⟨x7_1, rfl, HA, HK1, HO_5, BK276, HB⟩ := hrel
  cases gk with
  | zero => exact absurd HA.out (by simp [spec_l05Right.l0])
  | succ k1 =>
   have H := HA.out
   clear HA
   simp only [spec_l05Right.l0] at H
   by_cases c10 : x7_1 < (t277.length : Int)
   ·rw [if_pos c10] at H
    have c10b0 : decide (x7_1 < (t277.length : Int)) = true := decide_eq_true c10
    clear c10
    by_cases c11 : 0 ≤ x7_1
    ·rw [if_pos c11] at H
     have c11b0 : decide (0 ≤ x7_1) = true := decide_eq_true c11
     clear c11
     by_cases c12 : (rd t277 x7_1) = (wrap64 (t280 + x7_1))
     ·rw [if_pos c12] at H
      have c12b0 : ((rd t277 x7_1) == (wrap64 (t280 + x7_1))) = true := beq_iff_eq.mpr c12
      have c12b1 : ((rd t277 x7_1) != (wrap64 (t280 + x7_1))) = false := bne_eq_false_iff_eq.mpr c12
      clear c12
      have H' := Aside0.mk H
      clear H
      obtain ⟨Ao13, co13, eo13⟩ := Kd.R_slice HO_5.out
      subst eo13
      have p281 : 0 ≤ (x7_1 : Int) := of_decide_eq_true z75_
      have q281 : x7_1 < (t277.length : Int) := of_decide_eq_true z75_
      obtain ⟨ad281, e281, hx281_0⟩ := Kd.at_int (Kd.R_reads' HO_5.out).2.2 x7_1 p281 q281
      cases e281
      replace p281 := eq_true p281
      replace q281 := eq_true q281
      go_wp2
      go_roundg k1
      case measure => have := HK1.out; omega
      case rel => exact ⟨(wrap64 (x7_1 + 1)), z76_, H', ⟨z79_⟩, ⟨z62_⟩, ⟨by (with_reducible repeat (first | refine blk_drewN ?_ _ | refine blk_drew ?_ | refine blk_alloc ?_ _)); exact BK276.out⟩, ⟨z21_⟩⟩
     ·rw [if_neg c12] at H
      have c12b0 : ((rd t277 x7_1) == (wrap64 (t280 + x7_1))) = false := beq_eq_false_iff_ne.mpr c12
      have c12b1 : ((rd t277 x7_1) != (wrap64 (t280 + x7_1))) = true := bne_iff_ne.mpr c12
      obtain rfl := Option.some.inj H
      obtain ⟨Ao14, co14, eo14⟩ := Kd.R_slice HO_5.out
      subst eo14
      have p281 : 0 ≤ (x7_1 : Int) := of_decide_eq_true z75_
      have q281 : x7_1 < (t277.length : Int) := of_decide_eq_true z75_
      obtain ⟨ad281, e281, hx281_0⟩ := Kd.at_int (Kd.R_reads' HO_5.out).2.2 x7_1 p281 q281
      cases e281
      replace p281 := eq_true p281
      replace q281 := eq_true q281
      go_wp2
      go_ret
      exact ⟨z33_, z21_⟩
    ·rw [if_neg c11] at H
     exact absurd H (by simp)
   ·rw [if_neg c10] at H
    have c10b0 : decide (x7_1 < (t277.length : Int)) = false := decide_eq_false c10
    clear c10
    obtain rfl := Option.some.inj H
    obtain ⟨Ao15, co15, eo15⟩ := Kd.R_slice HO_5.out
    subst eo15
    go_wp2
    go_ret
    exact ⟨z33_, z21_⟩

/-! ### spec_IsRightForm: function 8 -/
def spec_IsRightForm.f (k : Nat) (a0_0 : Int) (a0_1 : Int) (l0_2 : List Int) (l0_3 : List Int) (l0_4 : List Int) (a1 : ByteArray) : Option (Bool × Int) := (spec_l05Code.f k a0_0 a0_1 l0_2 l0_3 l0_4 a1).bind fun t283 => (if t283 = 0 then ((spec_l05Right.f k a0_0 a0_1 l0_2 l0_3 l0_4 a1).bind fun t284 => (some (t284, 0))) else (some (false, t283)))
theorem spec_IsRightForm.mono : ∀ a0 a1 a2 a3 a4 a5 k, LeO (spec_IsRightForm.f k a0 a1 a2 a3 a4 a5) (spec_IsRightForm.f (k + 1) a0 a1 a2 a3 a4 a5) := by
 intro a0 a1 a2 a3 a4 a5 k
 unfold spec_IsRightForm.f
 repeat' first
   | (with_reducible exact spec_l05Code.mono _ _ _ _ _ _ _)
   | (with_reducible exact spec_l05Right.mono _ _ _ _ _ _ _)
   | (with_reducible exact LeO.refl _)
   | (with_reducible exact LeO.none _)
   | (with_reducible refine LeO.ite ?_ ?_)
   | (with_reducible refine LeO.bind ?_ (fun _ => ?_))
   | exact spec_l05Code.mono _ _ _ _ _ _ _
   | exact spec_l05Right.mono _ _ _ _ _ _ _
   | exact LeO.none _
   | refine LeO.ite ?_ ?_
   | refine LeO.bind ?_ (fun _ => ?_)
set_option maxHeartbeats 8000000 in
set_option maxRecDepth 100000 in
theorem spec_IsRightForm.calls (k : Nat) (a0_0 : Int) (a0_1 : Int) (A0_2 : Option Addr) (c0_2 : Nat) (l0_2 : List Int) (A0_3 : Option Addr) (c0_3 : Nat) (l0_3 : List Int) (A0_4 : Option Addr) (c0_4 : Nat) (l0_4 : List Int) (a1 : ByteArray) (r1 : Bool) (r2 : Int) (w : World) (hr0_2 : Kd.C (Kd.int .i64) w A0_2 l0_2.length l0_2) (hc0_2 : l0_2.length ≤ c0_2) (hr0_3 : Kd.C (Kd.int .i64) w A0_3 l0_3.length l0_3) (hc0_3 : l0_3.length ≤ c0_3) (hr0_4 : Kd.C (Kd.int .i64) w A0_4 l0_4.length l0_4) (hc0_4 : l0_4.length ≤ c0_4) (h : spec_IsRightForm.f k a0_0 a0_1 l0_2 l0_3 l0_4 a1 = some (r1, r2)) :
  Calls Tryz.prog 8 #[.agg #[.int .i64 a0_0, .int .i64 a0_1, .slice A0_2 l0_2.length c0_2, .slice A0_3 l0_3.length c0_3, .slice A0_4 l0_4.length c0_4], .string a1] w fun e w' => e = .returned (.tuple #[.bool r1, .int .i64 r2]) ∧ Below w.heap.size w w' := by
 have hu28 := Tryz.underlying28
 have HR0_2 := Aside0.mk hr0_2
 have HC0_2 := Aside0.mk hc0_2
 clear hr0_2 hc0_2
 have HR0_3 := Aside0.mk hr0_3
 have HC0_3 := Aside0.mk hc0_3
 clear hr0_3 hc0_3
 have HR0_4 := Aside0.mk hr0_4
 have HC0_4 := Aside0.mk hc0_4
 clear hr0_4 hc0_4
 have HB := a_ (Below.refl w.heap.size w)
 have H : ((spec_l05Code.f k a0_0 a0_1 l0_2 l0_3 l0_4 a1).bind fun t283 => (if t283 = 0 then ((spec_l05Right.f k a0_0 a0_1 l0_2 l0_3 l0_4 a1).bind fun t284 => (some (t284, 0))) else (some (false, t283)))) = some (r1, r2) := h
 clear h
 replace H := Option.bind_eq_some_iff.mp H
 obtain ⟨t283, A30, H⟩ := H
 replace H : (if t283 = 0 then ((spec_l05Right.f k a0_0 a0_1 l0_2 l0_3 l0_4 a1).bind fun t284 => (some (t284, 0))) else (some (false, t283))) = some (r1, r2) := H
 have A3 := Aside0.mk A30
 clear A30
 by_cases c4 : t283 = 0
 ·rw [if_pos c4] at H
  have c4b0 : (t283 == 0) = true := beq_iff_eq.mpr c4
  have c4b1 : (t283 != 0) = false := bne_eq_false_iff_eq.mpr c4
  clear c4
  replace H := Option.bind_eq_some_iff.mp H
  obtain ⟨t284, A50, H⟩ := H
  replace H : (some (t284, 0)) = some (r1, r2) := H
  have A5 := Aside0.mk A50
  clear A50
  simp only [Option.some.injEq, Prod.mk.injEq] at H
  obtain ⟨rfl, rfl⟩ := H
  go_enter Tryz.func8, Tryz.ntmps8
  go_wp2_with (first | ((with_reducible refine gate_dst (N := 2) rfl ?_); refine box_event ?hg (N := 2) ?hd (cs := #[.int .i64 a0_0, .int .i64 a0_1, .slice A0_2 l0_2.length c0_2, .slice A0_3 l0_3.length c0_3, .slice A0_4 l0_4.length c0_4]) (t := 28) ?hr ?_; (case hd => rfl); (case hg => rfl); (case hr => first | (go_simp; done) | (go_simp; rfl)); intro gb282 hg w6 hbox hb; have BK282 := a_ (hbox); have GW282 := a_ ((z31_ : w.heap.size ≤ gb282)); have GE282 := a_ ((z31_ : w.heap.size ≤ gb282)); replace HB := a_ (below_step z32_ hb); clear hb hbox hg; obtain ⟨hcz7_0, hcz7_1, hcz7_2, hcz7_3, hcz7_4, hfz7_0, hfz7_1, hfz7_2, hfz7_3, hfz7_4⟩ := cz5_ (w := w6) BK282.out) | ((with_reducible refine gate_callee (f := 36) rfl ?_); refine goesL_ (some 9) rfl rfl Tryz.func36 (by kernel_rfl) rfl #[.agg #[.int .i64 a0_0, .int .i64 a0_1, .slice A0_2 l0_2.length c0_2, .slice A0_3 l0_3.length c0_3, .slice A0_4 l0_4.length c0_4], .string a1] rfl z34_ ?_; (with_reducible refine (spec_l05Code.calls k a0_0 a0_1 _ _ l0_2 _ _ l0_3 _ _ l0_4 a1 t283 _ ?side1 ?side2 ?side3 ?side4 ?side5 ?side6 A3.out).mono ?_); (case side1 => exact kc_ (Kd.C_below HR0_2.out HB.out)); (case side2 => exact HC0_2.out); (case side3 => exact kc_ (Kd.C_below HR0_3.out HB.out)); (case side4 => exact HC0_3.out); (case side5 => exact kc_ (Kd.C_below HR0_4.out HB.out)); (case side6 => exact HC0_4.out); rintro e w8 ⟨rfl, hb⟩; refine ⟨_, rfl, ?_⟩; replace BK282 := a_ (blk_below (g := gb282) (rb_ BK282.out) hb); replace HB := a_ (below_step z22_ hb); (try clear hb); (try clear hb2); (try clear hk); (try clear hi); obtain ⟨hcz9_0, hcz9_1, hcz9_2, hcz9_3, hcz9_4, hfz9_0, hfz9_1, hfz9_2, hfz9_3, hfz9_4⟩ := cz5_ (w := w8) BK282.out) | ((with_reducible refine gate_callee (f := 37) rfl ?_); refine goesL_ (some 15) rfl rfl Tryz.func37 (by kernel_rfl) rfl #[.agg #[.int .i64 a0_0, .int .i64 a0_1, .slice A0_2 l0_2.length c0_2, .slice A0_3 l0_3.length c0_3, .slice A0_4 l0_4.length c0_4], .string a1] rfl z34_ ?_; (with_reducible refine (spec_l05Right.calls k a0_0 a0_1 _ _ l0_2 _ _ l0_3 _ _ l0_4 a1 t284 _ ?side1 ?side2 ?side3 ?side4 ?side5 ?side6 A5.out).mono ?_); (case side1 => exact kc_ (Kd.C_below HR0_2.out HB.out)); (case side2 => exact HC0_2.out); (case side3 => exact kc_ (Kd.C_below HR0_3.out HB.out)); (case side4 => exact HC0_3.out); (case side5 => exact kc_ (Kd.C_below HR0_4.out HB.out)); (case side6 => exact HC0_4.out); rintro e w10 ⟨rfl, hb⟩; refine ⟨_, rfl, ?_⟩; replace BK282 := a_ (blk_below (g := gb282) (rb_ BK282.out) hb); replace HB := a_ (below_step z22_ hb); (try clear hb); (try clear hb2); (try clear hk); (try clear hi)))
  go_ret2
  exact ⟨z33_, z22_⟩
 ·rw [if_neg c4] at H
  have c4b0 : (t283 == 0) = false := beq_eq_false_iff_ne.mpr c4
  have c4b1 : (t283 != 0) = true := bne_iff_ne.mpr c4
  simp only [Option.some.injEq, Prod.mk.injEq] at H
  obtain ⟨rfl, rfl⟩ := H
  go_enter Tryz.func8, Tryz.ntmps8
  go_wp2_with (first | ((with_reducible refine gate_dst (N := 2) rfl ?_); refine box_event ?hg (N := 2) ?hd (cs := #[.int .i64 a0_0, .int .i64 a0_1, .slice A0_2 l0_2.length c0_2, .slice A0_3 l0_3.length c0_3, .slice A0_4 l0_4.length c0_4]) (t := 28) ?hr ?_; (case hd => rfl); (case hg => rfl); (case hr => first | (go_simp; done) | (go_simp; rfl)); intro gb282 hg w11 hbox hb; have BK282 := a_ (hbox); have GW282 := a_ ((z31_ : w.heap.size ≤ gb282)); have GE282 := a_ ((z31_ : w.heap.size ≤ gb282)); replace HB := a_ (below_step z32_ hb); clear hb hbox hg; obtain ⟨hcz12_0, hcz12_1, hcz12_2, hcz12_3, hcz12_4, hfz12_0, hfz12_1, hfz12_2, hfz12_3, hfz12_4⟩ := cz5_ (w := w11) BK282.out) | ((with_reducible refine gate_callee (f := 36) rfl ?_); refine goesL_ (some 9) rfl rfl Tryz.func36 (by kernel_rfl) rfl #[.agg #[.int .i64 a0_0, .int .i64 a0_1, .slice A0_2 l0_2.length c0_2, .slice A0_3 l0_3.length c0_3, .slice A0_4 l0_4.length c0_4], .string a1] rfl z34_ ?_; (with_reducible refine (spec_l05Code.calls k a0_0 a0_1 _ _ l0_2 _ _ l0_3 _ _ l0_4 a1 t283 _ ?side1 ?side2 ?side3 ?side4 ?side5 ?side6 A3.out).mono ?_); (case side1 => exact kc_ (Kd.C_below HR0_2.out HB.out)); (case side2 => exact HC0_2.out); (case side3 => exact kc_ (Kd.C_below HR0_3.out HB.out)); (case side4 => exact HC0_3.out); (case side5 => exact kc_ (Kd.C_below HR0_4.out HB.out)); (case side6 => exact HC0_4.out); rintro e w13 ⟨rfl, hb⟩; refine ⟨_, rfl, ?_⟩; replace BK282 := a_ (blk_below (g := gb282) (rb_ BK282.out) hb); replace HB := a_ (below_step z22_ hb); (try clear hb); (try clear hb2); (try clear hk); (try clear hi)))
  go_ret2
  exact ⟨z33_, z22_⟩

/-! ### laws_toInt64S: function 38 -/
def laws_toInt64S.l0 : Nat → List Int → List Int → Int → Option (List Int)
 | 0, _, _, _ => none
 | k + 1, x0, x3, x4 => if x4 < (x0.length : Int) then (if 0 ≤ x4 then (if x4 < (x3.length : Int) then (laws_toInt64S.l0 k x0 (x3.set (x4 : Int).toNat (rd x0 x4)) (wrap64 (x4 + 1))) else (none)) else (none)) else (some x3)
def laws_toInt64S.f (k : Nat) (l0 : List Int) : Option (List Int) := if 0 ≤ (l0.length : Int) then (if ((l0.length : Int) : Int).toNat ≤ 35184372088832 then (laws_toInt64S.l0 k l0 (List.replicate ((l0.length : Int) : Int).toNat 0) 0) else (none)) else (none)
theorem laws_toInt64S.mono_l : ∀ k, (∀ y0 y1 y2, LeO (laws_toInt64S.l0 k y0 y1 y2) (laws_toInt64S.l0 (k + 1) y0 y1 y2))
 | 0 => fun _ _ _ r h => by simp [laws_toInt64S.l0] at h
 | k + 1 => by
  have ih0 := laws_toInt64S.mono_l k
  ·intro y0 y1 y2
   unfold laws_toInt64S.l0
   repeat' first
   | (with_reducible exact ih0 _ _ _)
   | (with_reducible exact LeO.refl _)
   | (with_reducible exact LeO.none _)
   | (with_reducible refine LeO.ite ?_ ?_)
   | (with_reducible refine LeO.bind ?_ (fun _ => ?_))
   | exact ih0 _ _ _
   | exact LeO.none _
   | refine LeO.ite ?_ ?_
   | refine LeO.bind ?_ (fun _ => ?_)
theorem laws_toInt64S.mono : ∀ a0 k, LeO (laws_toInt64S.f k a0) (laws_toInt64S.f (k + 1) a0) := by
 intro a0 k
 have ih0 := laws_toInt64S.mono_l k
 unfold laws_toInt64S.f
 repeat' first
   | (with_reducible exact ih0 _ _ _)
   | (with_reducible exact LeO.refl _)
   | (with_reducible exact LeO.none _)
   | (with_reducible refine LeO.ite ?_ ?_)
   | (with_reducible refine LeO.bind ?_ (fun _ => ?_))
   | exact ih0 _ _ _
   | exact LeO.none _
   | refine LeO.ite ?_ ?_
   | refine LeO.bind ?_ (fun _ => ?_)
set_option maxHeartbeats 8000000 in
set_option maxRecDepth 100000 in
theorem laws_toInt64S.calls (k : Nat) (A0 : Option Addr) (c0 : Nat) (l0 : List Int) (r : List Int) (w : World) (hr0 : Kd.C (Kd.int .i64) w A0 l0.length l0) (hc0 : l0.length ≤ c0) (h : laws_toInt64S.f k l0 = some r) :
  Calls Tryz.prog 38 #[.slice A0 l0.length c0] w fun e w' => ∃ v0_ : Value, e = .returned (v0_) ∧ Kd.R (Kd.int .i64) 2 w' w.heap.size (fun _ => True) v0_ r ∧ Below w.heap.size w w' := by
 have HR0 := Aside0.mk hr0
 have HC0 := Aside0.mk hc0
 clear hr0 hc0
 have HB := a_ (Below.refl w.heap.size w)
 have H : (if 0 ≤ (l0.length : Int) then (if ((l0.length : Int) : Int).toNat ≤ 35184372088832 then (laws_toInt64S.l0 k l0 (List.replicate ((l0.length : Int) : Int).toNat 0) 0) else (none)) else (none)) = some r := h
 clear h
 by_cases c2 : 0 ≤ (l0.length : Int)
 ·rw [if_pos c2] at H
  have c2b0 := eq_true c2
  have c2b1 : decide (0 ≤ (l0.length : Int)) = true := decide_eq_true c2
  clear c2
  by_cases c3 : ((l0.length : Int) : Int).toNat ≤ 35184372088832
  ·rw [if_pos c3] at H
   have c3b0 := eq_true c3
   have c3b1 : decide (((l0.length : Int) : Int).toNat ≤ 35184372088832) = true := decide_eq_true c3
   clear c3
   obtain ⟨y285, hy285⟩ : ∃ y_ : List Int, y_ = (List.replicate ((l0.length : Int) : Int).toNat 0) := ⟨_, rfl⟩
   replace H : (laws_toInt64S.l0 k l0 y285 0) = some r := rh_ hy285 H
   have Ny285 := Aside0.mk hy285
   clear hy285
   have H' := Aside0.mk H
   clear H
   go_enter Tryz.func38, Tryz.ntmps38
   go_wp2_with (first | ((with_reducible refine gate_dst (N := 7) rfl ?_); refine Kd.R_make (Kd.int .i64) _ 2 rfl (N := 7) rfl 22 _ _ rfl (l0.length : Int) rfl rfl Tryz.underlying22 (.int .i64 0) 8 info2 rfl (by decide) (by omega) 0 (ok := fun _ => True) (okp := fun _ => True) rfl (fun _ hk => hk) trivial (of_decide_eq_true z75_) (Nat.le_trans (Nat.mul_le_mul_right _ (of_decide_eq_true z75_ : (l0.length : Int).toNat ≤ 35184372088832)) (by omega)) (Below.refl _ _) (Nat.le_refl _) ?_; intro v286 w4 ho5 hb hg_ hnew_; clear hg_ hnew_; (first | rw [← Ny285.out] at ho5 | (simp only [Int.reduceToNat] at ho5; rw [← Ny285.out] at ho5)); have HO287 := a_ (Kd.R_lower ho5 (below_size z32_)); replace HB := a_ (below_step z32_ hb); clear hb ho5))
   go_loopg [4] k (fun kq v4 w' => ∃ (x3_1 : List Int) (x4_1 : Int), v4 = .int .i64 x4_1 ∧ Aside0 (laws_toInt64S.l0 kq l0 x3_1 x4_1 = some r) ∧ Aside0 (kq ≤ k) ∧ Aside0 (Kd.R (Kd.int .i64) 2 w' w.heap.size (fun _ => True) v286 x3_1) ∧ Aside0 (Below w.heap.size w w'))
   case atStart => exact ⟨(y285), (0), z76_, H', ⟨Nat.le_refl _⟩, ⟨by (with_reducible repeat (first | apply Kd.R_alloc | apply Kd.R_drewN | apply Kd.R_drew)); exact HO287.out⟩, ⟨z32_⟩⟩
   case round =>
    clear H'
    try clear c2b0; try clear c2b1; try clear c3b0; try clear c3b1
    obtain ⟨x3_1, x4_1, rfl, HA, HK1, HO_3, HB⟩ := hrel
    cases gk with
    | zero => exact absurd HA.out (by simp [laws_toInt64S.l0])
    | succ k1 =>
     have H := HA.out
     clear HA
     simp only [laws_toInt64S.l0] at H
     by_cases c6 : x4_1 < (l0.length : Int)
     ·rw [if_pos c6] at H
      have c6b0 : decide (x4_1 < (l0.length : Int)) = true := decide_eq_true c6
      clear c6
      by_cases c7 : 0 ≤ x4_1
      ·rw [if_pos c7] at H
       have c7b0 : decide (0 ≤ x4_1) = true := decide_eq_true c7
       clear c7
       by_cases c8 : x4_1 < (x3_1.length : Int)
       ·rw [if_pos c8] at H
        have c8b0 : decide (x4_1 < (x3_1.length : Int)) = true := decide_eq_true c8
        clear c8
        obtain ⟨y289, hy289⟩ : ∃ y_ : List Int, y_ = (x3_1.set (x4_1 : Int).toNat (rd l0 x4_1)) := ⟨_, rfl⟩
        replace H : (laws_toInt64S.l0 k1 l0 y289 (wrap64 (x4_1 + 1))) = some r := rh_ hy289 H
        have Ny289 := Aside0.mk hy289
        clear hy289
        have H' := Aside0.mk H
        clear H
        have p288 : 0 ≤ (x4_1 : Int) := of_decide_eq_true z75_
        have q288 : x4_1 < (l0.length : Int) := of_decide_eq_true z75_
        obtain ⟨ad288, e288, hx288_0⟩ := Kd.at_int HR0.out x4_1 p288 q288
        cases e288
        replace hx288_0 := (HB.out.cell (World.block_lt_of_cell? _ _ hx288_0)).trans hx288_0
        replace p288 := eq_true p288
        replace q288 := eq_true q288
        have p9 : 0 ≤ (x4_1 : Int) := of_decide_eq_true z75_
        have q9 : (x4_1 : Int) < ((x3_1.length : Int) : Int) := of_decide_eq_true z75_
        obtain ⟨go9, co9, eo9, gb9, gl9, cl9, HG9⟩ := Kd.R_form HO_3.out (by omega)
        (first | cases eo9 | (injection eo9 with ea_ en_ ec_; (first | subst ea_ | (injection ea_ with ea_; subst ea_)); subst ec_; clear en_))
        have GB9 := Aside0.mk gb9
        have GG9 := Aside0.mk HG9
        clear gb9 gl9 HG9
        obtain ⟨hx9_0, hf9_0⟩ := Kd.R_celln 0 HO_3.out (x4_1 : Int) p9 q9
        replace p9 := eq_true p9
        replace q9 := eq_true q9
        have HP10 := Kd.R_putg HO_3.out (x4_1 : Int) (rd l0 x4_1)
        go_wp2_with (first | ((with_reducible refine gate_store (t := 2) (p := 20) rfl ?_); refine store_event (t := 2) (p := 20) (v := ?vo_w11) (w1 := (wr.setCell ⟨go9, (x4_1 : Int).toNat, none⟩ (.int .i64 (rd l0 x4_1)))) ?hg ?ho ?hn ?hr ?_; (case ho => rfl); (case hg => rfl); (case hn => rfl); (case hr => first | (go_simp; done) | (go_simp; rfl)); intro w11 hw; have hg : wr.grownBy w11 (some go9) := (by rw [hw]; exact HP10.2); have hp_ : Kd.R (Kd.int .i64) 2 w11 w.heap.size (fun _ => True) (.slice (some ⟨go9, 0, none⟩) x3_1.length co9) y289 := (by rw [hw, Ny289.out]; exact HP10.1); clear HP10; replace HO_3 := a_ (hp_); replace HB := a_ ((by rw [hw]; exact below_set (HB.out) GB9.out : Below w.heap.size w w11)); clear hg hw hp_))
        go_roundg k1
        case measure => have := HK1.out; omega
        case rel => exact ⟨(y289), (wrap64 (x4_1 + 1)), z76_, H', ⟨z79_⟩, ⟨by (with_reducible repeat (first | apply Kd.R_alloc | apply Kd.R_drewN | apply Kd.R_drew)); exact HO_3.out⟩, ⟨z32_⟩⟩
       ·rw [if_neg c8] at H
        exact absurd H (by simp)
      ·rw [if_neg c7] at H
       exact absurd H (by simp)
     ·rw [if_neg c6] at H
      have c6b0 : decide (x4_1 < (l0.length : Int)) = false := decide_eq_false c6
      clear c6
      obtain rfl := Option.some.inj H
      go_wp2
      go_ret
      exact ⟨_, z33_, by (with_reducible repeat (first | apply Kd.R_alloc | apply Kd.R_drewN | apply Kd.R_drew)); exact HO_3.out, z32_⟩
  ·rw [if_neg c3] at H
   exact absurd H (by simp)
 ·rw [if_neg c2] at H
  exact absurd H (by simp)

/-! ### laws_toForm: function 9 -/
def laws_toForm.f (k : Nat) (a0_0 : Int) (a0_1 : Int) (l0_2 : List Int) (l0_3 : List Int) (l0_4 : List Int) : Option (Int × Int × List Int × List Int × List Int) := (laws_toInt64S.f k l0_2).bind fun t293 => ((laws_toInt64S.f k l0_3).bind fun t296 => ((laws_toInt64S.f k l0_4).bind fun t299 => (some (a0_0, a0_1, t293, t296, t299))))
theorem laws_toForm.mono : ∀ a0 a1 a2 a3 a4 k, LeO (laws_toForm.f k a0 a1 a2 a3 a4) (laws_toForm.f (k + 1) a0 a1 a2 a3 a4) := by
 intro a0 a1 a2 a3 a4 k
 unfold laws_toForm.f
 repeat' first
   | (with_reducible exact laws_toInt64S.mono _ _)
   | (with_reducible exact LeO.refl _)
   | (with_reducible exact LeO.none _)
   | (with_reducible refine LeO.ite ?_ ?_)
   | (with_reducible refine LeO.bind ?_ (fun _ => ?_))
   | exact laws_toInt64S.mono _ _
   | exact LeO.none _
   | refine LeO.ite ?_ ?_
   | refine LeO.bind ?_ (fun _ => ?_)
set_option maxHeartbeats 8000000 in
set_option maxRecDepth 100000 in
theorem laws_toForm.calls (k : Nat) (a0_0 : Int) (a0_1 : Int) (A0_2 : Option Addr) (c0_2 : Nat) (l0_2 : List Int) (A0_3 : Option Addr) (c0_3 : Nat) (l0_3 : List Int) (A0_4 : Option Addr) (c0_4 : Nat) (l0_4 : List Int) (r1 : Int) (r2 : Int) (r3 : List Int) (r4 : List Int) (r5 : List Int) (w : World) (hr0_2 : Kd.C (Kd.int .i64) w A0_2 l0_2.length l0_2) (hc0_2 : l0_2.length ≤ c0_2) (hr0_3 : Kd.C (Kd.int .i64) w A0_3 l0_3.length l0_3) (hc0_3 : l0_3.length ≤ c0_3) (hr0_4 : Kd.C (Kd.int .i64) w A0_4 l0_4.length l0_4) (hc0_4 : l0_4.length ≤ c0_4) (h : laws_toForm.f k a0_0 a0_1 l0_2 l0_3 l0_4 = some (r1, r2, r3, r4, r5)) :
  Calls Tryz.prog 9 #[.agg #[.int .i64 a0_0, .int .i64 a0_1, .slice A0_2 l0_2.length c0_2, .slice A0_3 l0_3.length c0_3, .slice A0_4 l0_4.length c0_4]] w fun e w' => ∃ v2_ v3_ v4_ : Value, e = .returned (.agg #[.int .i64 r1, .int .i64 r2, v2_, v3_, v4_]) ∧ Kd.R (Kd.int .i64) 2 w' w.heap.size (fun k_ => some k_ ≠ (v3_ : Value).ownBlock ∧ some k_ ≠ (v4_ : Value).ownBlock) v2_ r3 ∧ Kd.R (Kd.int .i64) 2 w' w.heap.size (fun k_ => some k_ ≠ (v2_ : Value).ownBlock ∧ some k_ ≠ (v4_ : Value).ownBlock) v3_ r4 ∧ Kd.R (Kd.int .i64) 2 w' w.heap.size (fun k_ => some k_ ≠ (v2_ : Value).ownBlock ∧ some k_ ≠ (v3_ : Value).ownBlock) v4_ r5 ∧ Below w.heap.size w w' := by
 have hu24 := Tryz.underlying24
 have hu28 := Tryz.underlying28
 have HR0_2 := Aside0.mk hr0_2
 have HC0_2 := Aside0.mk hc0_2
 clear hr0_2 hc0_2
 have HR0_3 := Aside0.mk hr0_3
 have HC0_3 := Aside0.mk hc0_3
 clear hr0_3 hc0_3
 have HR0_4 := Aside0.mk hr0_4
 have HC0_4 := Aside0.mk hc0_4
 clear hr0_4 hc0_4
 have HB := a_ (Below.refl w.heap.size w)
 have H : ((laws_toInt64S.f k l0_2).bind fun t293 => ((laws_toInt64S.f k l0_3).bind fun t296 => ((laws_toInt64S.f k l0_4).bind fun t299 => (some (a0_0, a0_1, t293, t296, t299))))) = some (r1, r2, r3, r4, r5) := h
 clear h
 replace H := Option.bind_eq_some_iff.mp H
 obtain ⟨t293, A20, H⟩ := H
 replace H : ((laws_toInt64S.f k l0_3).bind fun t296 => ((laws_toInt64S.f k l0_4).bind fun t299 => (some (a0_0, a0_1, t293, t296, t299)))) = some (r1, r2, r3, r4, r5) := H
 have A2 := Aside0.mk A20
 clear A20
 replace H := Option.bind_eq_some_iff.mp H
 obtain ⟨t296, A30, H⟩ := H
 replace H : ((laws_toInt64S.f k l0_4).bind fun t299 => (some (a0_0, a0_1, t293, t296, t299))) = some (r1, r2, r3, r4, r5) := H
 have A3 := Aside0.mk A30
 clear A30
 replace H := Option.bind_eq_some_iff.mp H
 obtain ⟨t299, A40, H⟩ := H
 replace H : (some (a0_0, a0_1, t293, t296, t299)) = some (r1, r2, r3, r4, r5) := H
 have A4 := Aside0.mk A40
 clear A40
 simp only [Option.some.injEq, Prod.mk.injEq] at H
 obtain ⟨rfl, rfl, rfl, rfl, rfl⟩ := H
 go_enter Tryz.func9, Tryz.ntmps9
 go_wp2_with (first | ((with_reducible refine gate_dst (N := 1) rfl ?_); refine box_event ?hg (N := 1) ?hd (cs := #[.int .i64 a0_0, .int .i64 a0_1, .slice A0_2 l0_2.length c0_2, .slice A0_3 l0_3.length c0_3, .slice A0_4 l0_4.length c0_4]) (t := 24) ?hr ?_; (case hd => rfl); (case hg => rfl); (case hr => first | (go_simp; done) | (go_simp; rfl)); intro gb290 hg w5 hbox hb; have BK290 := a_ (hbox); have GW290 := a_ ((z31_ : w.heap.size ≤ gb290)); have GE290 := a_ ((z31_ : w.heap.size ≤ gb290)); replace HB := a_ (below_step z32_ hb); clear hb hbox hg) | ((with_reducible refine gate_dst (N := 2) rfl ?_); refine box_event ?hg (N := 2) ?hd (cs := #[.int .i64 0, .int .i64 0, .slice none 0 0, .slice none 0 0, .slice none 0 0]) (t := 28) ?hr ?_; (case hd => rfl); (case hg => rfl); (case hr => first | (go_simp; done) | (go_simp; rfl)); intro gb291 hg w6 hbox hb; have BK291 := a_ (hbox); have GW291 := a_ ((by rw [hg]; exact (below_size z23_) : w.heap.size ≤ gb291)); have GE291 := a_ ((by rw [hg]; exact (below_size z23_) : w.heap.size ≤ gb291)); replace HB := a_ (below_step z23_ hb); have NB290_291 := a_ ((by rw [hg]; exact Nat.ne_of_lt (blk_lt (g := gb290) (rb_ BK290.out)) : gb290 ≠ gb291)); have NB291_290 := a_ ((by rw [hg]; exact Nat.ne_of_gt (blk_lt (g := gb290) (rb_ BK290.out)) : gb291 ≠ gb290)); replace BK290 := a_ (blk_below (g := gb290) (rb_ BK290.out) hb); clear hb hbox hg) | ((with_reducible refine gate_dst (N := 3) rfl ?_); refine box_event ?hg (N := 3) ?hd (cs := #[.int .i64 0, .int .i64 0, .slice none 0 0, .slice none 0 0, .slice none 0 0]) (t := 28) ?hr ?_; (case hd => rfl); (case hg => rfl); (case hr => first | (go_simp; done) | (go_simp; rfl)); intro gb292 hg w7 hbox hb; have BK292 := a_ (hbox); have GW292 := a_ ((by rw [hg]; exact (below_size z6_) : w.heap.size ≤ gb292)); have GE292 := a_ ((by rw [hg]; exact (below_size z6_) : w.heap.size ≤ gb292)); replace HB := a_ (below_step z6_ hb); have NB290_292 := a_ ((by rw [hg]; exact Nat.ne_of_lt (blk_lt (g := gb290) (rb_ BK290.out)) : gb290 ≠ gb292)); have NB292_290 := a_ ((by rw [hg]; exact Nat.ne_of_gt (blk_lt (g := gb290) (rb_ BK290.out)) : gb292 ≠ gb290)); replace BK290 := a_ (blk_below (g := gb290) (rb_ BK290.out) hb); have NB291_292 := a_ ((by rw [hg]; exact Nat.ne_of_lt (blk_lt (g := gb291) (rb_ BK291.out)) : gb291 ≠ gb292)); have NB292_291 := a_ ((by rw [hg]; exact Nat.ne_of_gt (blk_lt (g := gb291) (rb_ BK291.out)) : gb292 ≠ gb291)); replace BK291 := a_ (blk_below (g := gb291) (rb_ BK291.out) hb); clear hb hbox hg; have hnb8 := NB290_291.out; have hnc8 := NB291_290.out; have hnb9 := NB290_292.out; have hnc9 := NB292_290.out; obtain ⟨hcz10_0, hcz10_1, hcz10_2, hcz10_3, hcz10_4, hfz10_0, hfz10_1, hfz10_2, hfz10_3, hfz10_4⟩ := cz5_ (w := w7) BK290.out; have hnb11 := NB292_291.out; have hnc11 := NB291_292.out; obtain ⟨hcz12_0, hcz12_1, hcz12_2, hcz12_3, hcz12_4, hfz12_0, hfz12_1, hfz12_2, hfz12_3, hfz12_4⟩ := cz5_ (w := w7) BK292.out) | ((with_reducible refine gate_callee (f := 38) rfl ?_); refine goesL_ (some 12) rfl rfl Tryz.func38 (by kernel_rfl) rfl #[.slice A0_2 l0_2.length c0_2] rfl z34_ ?_; (with_reducible refine (laws_toInt64S.calls k _ _ l0_2 t293 _ ?side1 ?side2 A2.out).mono ?_); (case side1 => exact Kd.C_below HR0_2.out z4_); (case side2 => exact HC0_2.out); rintro e w13 ⟨v294, rfl, ho0, hb⟩; refine ⟨_, rfl, ?_⟩; have HO295 := a_ (Kd.R_lower ho0 (below_size z4_)); replace BK290 := a_ (blk_below (g := gb290) (o := .cells #[.int .i64 a0_0, .int .i64 a0_1, .slice A0_2 l0_2.length c0_2, .slice A0_3 l0_3.length c0_3, .slice A0_4 l0_4.length c0_4] 24 (0, 0)) (rb2_ (h := by exact bf2_ NB290_292.out BK290.out)) hb); replace BK291 := a_ (blk_below (g := gb291) (o := .cells #[.int .i64 0, .int .i64 0, .slice none 0 0, .slice none 0 0, .slice none 0 0] 28 (0, 0)) (rb2_ (h := by exact bf2_ NB291_292.out BK291.out)) hb); replace BK292 := a_ (blk_below (g := gb292) (o := .cells #[.int .i64 a0_0, .int .i64 a0_1, .slice none 0 0, .slice none 0 0, .slice none 0 0] 28 (0, 0)) (rb2_ (h := by exact bp2x5_ BK292.out)) hb); replace HB := a_ (below_step z4_ hb); (try clear hb); (try clear hb2); (try clear hk); (try clear hi); (try clear ho0); obtain ⟨Ao14, co14, eo14⟩ := Kd.R_slice HO295.out; subst eo14; obtain ⟨hcz15_0, hcz15_1, hcz15_2, hcz15_3, hcz15_4, hfz15_0, hfz15_1, hfz15_2, hfz15_3, hfz15_4⟩ := cz5_ (w := w13) BK292.out; obtain ⟨hcz16_0, hcz16_1, hcz16_2, hcz16_3, hcz16_4, hfz16_0, hfz16_1, hfz16_2, hfz16_3, hfz16_4⟩ := cz5_ (w := w13) BK290.out) | ((with_reducible refine gate_callee (f := 38) rfl ?_); refine goesL_ (some 16) rfl rfl Tryz.func38 (by kernel_rfl) rfl #[.slice A0_3 l0_3.length c0_3] rfl z34_ ?_; (with_reducible refine (laws_toInt64S.calls k _ _ l0_3 t296 _ ?side1 ?side2 A3.out).mono ?_); (case side1 => exact Kd.C_below HR0_3.out z4_); (case side2 => exact HC0_3.out); rintro e w17 ⟨v297, rfl, ho0, hb⟩; refine ⟨_, rfl, ?_⟩; have HO298 := a_ (Kd.R_lower (Kd.R_new' ho0 (Kd.R_lt (rc_ (h := by exact Kd.R_mono (Kd.R_far (p := ⟨gb292, 2, none⟩) (Kd.R_types HO295.out BK292.out (by decide)) (fun _ hk => hk.2) (.slice Ao14 t293.length co14)) (fun _ h_ => h_.1))))) (below_size z4_)); replace HO295 := a_ (Kd.R_elder' (rc_ (h := by exact Kd.R_mono (Kd.R_far (p := ⟨gb292, 2, none⟩) (Kd.R_types HO295.out BK292.out (by decide)) (fun _ hk => hk.2) (.slice Ao14 t293.length co14)) (fun _ h_ => h_.1))) (Kd.R_base ho0) hb); replace BK290 := a_ (blk_below (g := gb290) (o := .cells #[.int .i64 a0_0, .int .i64 a0_1, .slice A0_2 l0_2.length c0_2, .slice A0_3 l0_3.length c0_3, .slice A0_4 l0_4.length c0_4] 24 (0, 0)) (rb2_ (h := by exact bf1_ NB290_292.out BK290.out)) hb); replace BK291 := a_ (blk_below (g := gb291) (o := .cells #[.int .i64 0, .int .i64 0, .slice none 0 0, .slice none 0 0, .slice none 0 0] 28 (0, 0)) (rb2_ (h := by exact bf1_ NB291_292.out BK291.out)) hb); replace BK292 := a_ (blk_below (g := gb292) (o := .cells #[.int .i64 a0_0, .int .i64 a0_1, .slice Ao14 t293.length co14, .slice none 0 0, .slice none 0 0] 28 (0, 0)) (by (with_reducible repeat (first | refine blk_drewN ?_ _ | refine blk_drew ?_ | refine blk_alloc ?_ _)); refine blk_put (cs := #[.int .i64 a0_0, .int .i64 a0_1, .slice none 0 0, .slice none 0 0, .slice none 0 0]) ?_ 2 _ rfl; (with_reducible repeat (first | refine blk_drewN ?_ _ | refine blk_drew ?_ | refine blk_alloc ?_ _)); exact BK292.out) hb); replace HB := a_ (below_step z4_ hb); (try clear hb); (try clear hb2); (try clear hk); (try clear hi); (try clear ho0); obtain ⟨Ao18, co18, eo18⟩ := Kd.R_slice HO298.out; subst eo18; obtain ⟨hcz19_0, hcz19_1, hcz19_2, hcz19_3, hcz19_4, hfz19_0, hfz19_1, hfz19_2, hfz19_3, hfz19_4⟩ := cz5_ (w := w17) BK292.out; obtain ⟨hcz20_0, hcz20_1, hcz20_2, hcz20_3, hcz20_4, hfz20_0, hfz20_1, hfz20_2, hfz20_3, hfz20_4⟩ := cz5_ (w := w17) BK290.out) | ((with_reducible refine gate_callee (f := 38) rfl ?_); refine goesL_ (some 20) rfl rfl Tryz.func38 (by kernel_rfl) rfl #[.slice A0_4 l0_4.length c0_4] rfl z34_ ?_; (with_reducible refine (laws_toInt64S.calls k _ _ l0_4 t299 _ ?side1 ?side2 A4.out).mono ?_); (case side1 => exact Kd.C_below HR0_4.out z4_); (case side2 => exact HC0_4.out); rintro e w21 ⟨v300, rfl, ho0, hb⟩; refine ⟨_, rfl, ?_⟩; have HO301 := a_ (Kd.R_lower (Kd.R_new' (Kd.R_new' ho0 (Kd.R_lt (rc_ (h := by exact Kd.R_mono (Kd.R_far (p := ⟨gb292, 3, none⟩) (Kd.R_types HO295.out BK292.out (by decide)) (fun _ hk => hk.2) (.slice Ao18 t296.length co18)) (fun _ h_ => h_.1))))) (Kd.R_lt (rc_ (h := by exact Kd.R_mono (Kd.R_far (p := ⟨gb292, 3, none⟩) (Kd.R_types HO298.out BK292.out (by decide)) (fun _ hk => hk.2) (.slice Ao18 t296.length co18)) (fun _ h_ => h_.1))))) (below_size z4_)); replace HO295 := a_ (Kd.R_elder' (rc_ (h := by exact Kd.R_mono (Kd.R_far (p := ⟨gb292, 3, none⟩) (Kd.R_types HO295.out BK292.out (by decide)) (fun _ hk => hk.2) (.slice Ao18 t296.length co18)) (fun _ h_ => h_.1))) (Kd.R_base ho0) hb); replace HO298 := a_ (Kd.R_elder' (rc_ (h := by exact Kd.R_mono (Kd.R_far (p := ⟨gb292, 3, none⟩) (Kd.R_types HO298.out BK292.out (by decide)) (fun _ hk => hk.2) (.slice Ao18 t296.length co18)) (fun _ h_ => h_.1))) (Kd.R_base ho0) hb); replace BK290 := a_ (blk_below (g := gb290) (o := .cells #[.int .i64 a0_0, .int .i64 a0_1, .slice A0_2 l0_2.length c0_2, .slice A0_3 l0_3.length c0_3, .slice A0_4 l0_4.length c0_4] 24 (0, 0)) (rb2_ (h := by exact bf1_ NB290_292.out BK290.out)) hb); replace BK291 := a_ (blk_below (g := gb291) (o := .cells #[.int .i64 0, .int .i64 0, .slice none 0 0, .slice none 0 0, .slice none 0 0] 28 (0, 0)) (rb2_ (h := by exact bf1_ NB291_292.out BK291.out)) hb); replace BK292 := a_ (blk_below (g := gb292) (o := .cells #[.int .i64 a0_0, .int .i64 a0_1, .slice Ao14 t293.length co14, .slice Ao18 t296.length co18, .slice none 0 0] 28 (0, 0)) (by (with_reducible repeat (first | refine blk_drewN ?_ _ | refine blk_drew ?_ | refine blk_alloc ?_ _)); refine blk_put (cs := #[.int .i64 a0_0, .int .i64 a0_1, .slice Ao14 t293.length co14, .slice none 0 0, .slice none 0 0]) ?_ 3 _ rfl; (with_reducible repeat (first | refine blk_drewN ?_ _ | refine blk_drew ?_ | refine blk_alloc ?_ _)); exact BK292.out) hb); replace HB := a_ (below_step z4_ hb); (try clear hb); (try clear hb2); (try clear hk); (try clear hi); (try clear ho0); obtain ⟨Ao22, co22, eo22⟩ := Kd.R_slice HO301.out; subst eo22; obtain ⟨hcz23_0, hcz23_1, hcz23_2, hcz23_3, hcz23_4, hfz23_0, hfz23_1, hfz23_2, hfz23_3, hfz23_4⟩ := cz5_ (w := w21) BK292.out; obtain ⟨hcz24_0, hcz24_1, hcz24_2, hcz24_3, hcz24_4, hfz24_0, hfz24_1, hfz24_2, hfz24_3, hfz24_4⟩ := cz5_ (w := w21) BK291.out))
 refine bodyPost_ret (results_cell_row rfl _ _ gb291 28 #[.int .i64 a0_0, .int .i64 a0_1, .slice Ao14 t293.length co14, .slice Ao18 t296.length co18, .slice Ao22 t299.length co22] (0, 0) _ rfl (rb2_ (h := by exact bp5x5_ (rb2_ (h := by exact bf1_ NB291_292.out BK291.out)))) Tryz.underlying28 rfl (by kernel_rfl)) rfl ?_
 exact ⟨_, _, _, z33_, by (with_reducible repeat (first | apply Kd.R_alloc | apply Kd.R_drewN | apply Kd.R_drew)); exact Kd.R_mono (Kd.R_far (p := ⟨gb291, 4, none⟩) (Kd.R_far (p := ⟨gb291, 3, none⟩) (Kd.R_far (p := ⟨gb291, 2, none⟩) (Kd.R_far (p := ⟨gb291, 1, none⟩) (Kd.R_far (p := ⟨gb291, 0, none⟩) (Kd.R_far (p := ⟨gb292, 4, none⟩) (Kd.R_types (Kd.R_types HO295.out BK292.out (by decide)) BK291.out (by decide)) (fun _ hk => hk.1.2) (.slice Ao22 t299.length co22)) (fun _ hk => hk.2) (.int .i64 a0_0)) (fun _ hk => hk.2) (.int .i64 a0_1)) (fun _ hk => hk.2) (.slice Ao14 t293.length co14)) (fun _ hk => hk.2) (.slice Ao18 t296.length co18)) (fun _ hk => hk.2) (.slice Ao22 t299.length co22)) (fun _ hk => ⟨hk.1.1.1.2, hk.1.1.2⟩), by (with_reducible repeat (first | apply Kd.R_alloc | apply Kd.R_drewN | apply Kd.R_drew)); exact Kd.R_mono (Kd.R_far (p := ⟨gb291, 4, none⟩) (Kd.R_far (p := ⟨gb291, 3, none⟩) (Kd.R_far (p := ⟨gb291, 2, none⟩) (Kd.R_far (p := ⟨gb291, 1, none⟩) (Kd.R_far (p := ⟨gb291, 0, none⟩) (Kd.R_far (p := ⟨gb292, 4, none⟩) (Kd.R_types (Kd.R_types HO298.out BK292.out (by decide)) BK291.out (by decide)) (fun _ hk => hk.1.2) (.slice Ao22 t299.length co22)) (fun _ hk => hk.2) (.int .i64 a0_0)) (fun _ hk => hk.2) (.int .i64 a0_1)) (fun _ hk => hk.2) (.slice Ao14 t293.length co14)) (fun _ hk => hk.2) (.slice Ao18 t296.length co18)) (fun _ hk => hk.2) (.slice Ao22 t299.length co22)) (fun _ hk => ⟨hk.1.1.1.2, hk.1.1.2⟩), by (with_reducible repeat (first | apply Kd.R_alloc | apply Kd.R_drewN | apply Kd.R_drew)); exact Kd.R_mono (Kd.R_far (p := ⟨gb291, 4, none⟩) (Kd.R_far (p := ⟨gb291, 3, none⟩) (Kd.R_far (p := ⟨gb291, 2, none⟩) (Kd.R_far (p := ⟨gb291, 1, none⟩) (Kd.R_far (p := ⟨gb291, 0, none⟩) (Kd.R_far (p := ⟨gb292, 4, none⟩) (Kd.R_types (Kd.R_types HO301.out BK292.out (by decide)) BK291.out (by decide)) (fun _ hk => hk.1.2) (.slice Ao22 t299.length co22)) (fun _ hk => hk.2) (.int .i64 a0_0)) (fun _ hk => hk.2) (.int .i64 a0_1)) (fun _ hk => hk.2) (.slice Ao14 t293.length co14)) (fun _ hk => hk.2) (.slice Ao18 t296.length co18)) (fun _ hk => hk.2) (.slice Ao22 t299.length co22)) (fun _ hk => ⟨hk.1.1.1.2, hk.1.1.2⟩), z4_⟩

/-! ### impl_inRange: function 54 -/
def impl_inRange.f (a0 : Int) (a1 : Int) (a2 : Int) : Option (Bool) := if a1 ≤ a0 then (some (decide (a0 ≤ a2))) else (some false)
set_option maxHeartbeats 8000000 in
set_option maxRecDepth 100000 in
theorem impl_inRange.calls (a0 : Int) (a1 : Int) (a2 : Int) (r : Bool) (w : World) (h : impl_inRange.f a0 a1 a2 = some r) :
  Calls Tryz.prog 54 #[.int .i64 a0, .int .i64 a1, .int .i64 a2] w fun e w' => e = .returned (.bool r) ∧ Drawn0 w w' := by
 have H : (if a1 ≤ a0 then (some (decide (a0 ≤ a2))) else (some false)) = some r := h
 clear h
 by_cases c4 : a1 ≤ a0
 ·rw [if_pos c4] at H
  have c4b0 : decide (a1 ≤ a0) = true := decide_eq_true c4
  clear c4
  obtain rfl := Option.some.inj H
  go_enter Tryz.func54, Tryz.ntmps54
  go_wp2
  go_ret
  exact ⟨z65_, z71_⟩
 ·rw [if_neg c4] at H
  have c4b0 : decide (a1 ≤ a0) = false := decide_eq_false c4
  clear c4
  obtain rfl := Option.some.inj H
  go_enter Tryz.func54, Tryz.ntmps54
  go_wp2
  go_ret
  exact ⟨z65_, z71_⟩

/-! ### impl_isSide: function 84 -/
def impl_isSide.f (a0 : Int) : Option (Bool) := if a0 = 1 then (some true) else (if a0 = 2 then (some true) else (if a0 = 4 then (some true) else (some (a0 == 8))))
set_option maxHeartbeats 8000000 in
set_option maxRecDepth 100000 in
theorem impl_isSide.calls (a0 : Int) (r : Bool) (w : World) (h : impl_isSide.f a0 = some r) :
  Calls Tryz.prog 84 #[.int .i64 a0] w fun e w' => e = .returned (.bool r) ∧ Drawn0 w w' := by
 have H : (if a0 = 1 then (some true) else (if a0 = 2 then (some true) else (if a0 = 4 then (some true) else (some (a0 == 8))))) = some r := h
 clear h
 by_cases c2 : a0 = 1
 ·rw [if_pos c2] at H
  have c2b0 : (a0 == 1) = true := beq_iff_eq.mpr c2
  have c2b1 : (a0 != 1) = false := bne_eq_false_iff_eq.mpr c2
  clear c2
  obtain rfl := Option.some.inj H
  go_enter Tryz.func84, Tryz.ntmps84
  go_wp2
  go_ret
  exact ⟨z65_, z71_⟩
 ·rw [if_neg c2] at H
  have c2b0 : (a0 == 1) = false := beq_eq_false_iff_ne.mpr c2
  have c2b1 : (a0 != 1) = true := bne_iff_ne.mpr c2
  by_cases c3 : a0 = 2
  ·rw [if_pos c3] at H
   have c3b0 : (a0 == 2) = true := beq_iff_eq.mpr c3
   have c3b1 : (a0 != 2) = false := bne_eq_false_iff_eq.mpr c3
   clear c3
   obtain rfl := Option.some.inj H
   go_enter Tryz.func84, Tryz.ntmps84
   go_wp2
   go_ret
   exact ⟨z65_, z71_⟩
  ·rw [if_neg c3] at H
   have c3b0 : (a0 == 2) = false := beq_eq_false_iff_ne.mpr c3
   have c3b1 : (a0 != 2) = true := bne_iff_ne.mpr c3
   by_cases c4 : a0 = 4
   ·rw [if_pos c4] at H
    have c4b0 : (a0 == 4) = true := beq_iff_eq.mpr c4
    have c4b1 : (a0 != 4) = false := bne_eq_false_iff_eq.mpr c4
    clear c4
    obtain rfl := Option.some.inj H
    go_enter Tryz.func84, Tryz.ntmps84
    go_wp2
    go_ret
    exact ⟨z65_, z71_⟩
   ·rw [if_neg c4] at H
    have c4b0 : (a0 == 4) = false := beq_eq_false_iff_ne.mpr c4
    have c4b1 : (a0 != 4) = true := bne_iff_ne.mpr c4
    obtain rfl := Option.some.inj H
    go_enter Tryz.func84, Tryz.ntmps84
    go_wp2
    go_ret
    exact ⟨z65_, z71_⟩

/-! ### impl_isSheet: function 60 -/
def impl_isSheet.f (a0 : Int) (a1 : Int) : Option (Bool) := (impl_isSide.f a0).bind fun t302 => (if t302 = true then ((impl_isSide.f a1).bind fun t303 => (some t303)) else (some false))
set_option maxHeartbeats 8000000 in
set_option maxRecDepth 100000 in
theorem impl_isSheet.calls (a0 : Int) (a1 : Int) (r : Bool) (w : World) (h : impl_isSheet.f a0 a1 = some r) :
  Calls Tryz.prog 60 #[.int .i64 a0, .int .i64 a1] w fun e w' => e = .returned (.bool r) ∧ Drawn0 w w' := by
 have H : ((impl_isSide.f a0).bind fun t302 => (if t302 = true then ((impl_isSide.f a1).bind fun t303 => (some t303)) else (some false))) = some r := h
 clear h
 replace H := Option.bind_eq_some_iff.mp H
 obtain ⟨t302, A30, H⟩ := H
 replace H : (if t302 = true then ((impl_isSide.f a1).bind fun t303 => (some t303)) else (some false)) = some r := H
 have A3 := Aside0.mk A30
 clear A30
 by_cases c4 : t302 = true
 ·subst c4
  have H1 : ((impl_isSide.f a1).bind fun t303 => (some t303)) = some r := by rw [if_pos rfl] at H; exact H
  clear H
  have H := H1
  clear H1
  replace H := Option.bind_eq_some_iff.mp H
  obtain ⟨t303, A50, H⟩ := H
  replace H : (some t303) = some r := H
  have A5 := Aside0.mk A50
  clear A50
  obtain rfl := Option.some.inj H
  go_enter Tryz.func60, Tryz.ntmps60
  go_wp2_with (first | ((with_reducible refine gate_callee (f := 84) rfl ?_); refine goesL_ (some 6) rfl rfl Tryz.func84 (by kernel_rfl) rfl #[.int .i64 a0] rfl z34_ ?_; (with_reducible refine (impl_isSide.calls a0 true _ A3.out).mono ?_); rintro e w' ⟨rfl, ⟨nd, rfl⟩⟩; refine ⟨_, rfl, ?_⟩) | (go_at_call 84; (with_reducible refine (impl_isSide.calls a1 t303 _ A5.out).mono ?_); rintro e w' ⟨rfl, ⟨nd, rfl⟩⟩))
  go_ret
  exact ⟨z65_, z71_⟩
 ·replace c4 := Bool.eq_false_iff.mpr c4
  subst c4
  have H1 : (some false) = some r := by rw [if_neg (show ¬ (false = true) by decide)] at H; exact H
  clear H
  have H := H1
  clear H1
  obtain rfl := Option.some.inj H
  go_enter Tryz.func60, Tryz.ntmps60
  go_wp2_with (first | ((with_reducible refine gate_callee (f := 84) rfl ?_); refine goesL_ (some 6) rfl rfl Tryz.func84 (by kernel_rfl) rfl #[.int .i64 a0] rfl z34_ ?_; (with_reducible refine (impl_isSide.calls a0 false _ A3.out).mono ?_); rintro e w' ⟨rfl, ⟨nd, rfl⟩⟩; refine ⟨_, rfl, ?_⟩))
  go_ret
  exact ⟨z65_, z71_⟩

/-! ### impl_length_int64: function 61 -/
def impl_length_int64.f (l0 : List Int) : Option (Int) := some (l0.length : Int)
set_option maxHeartbeats 8000000 in
set_option maxRecDepth 100000 in
theorem impl_length_int64.calls (A0 : Option Addr) (c0 : Nat) (l0 : List Int) (r : Int) (w : World) (hr0 : Kd.C (Kd.int .i64) w A0 l0.length l0) (hc0 : l0.length ≤ c0) (h : impl_length_int64.f l0 = some r) :
  Calls Tryz.prog 61 #[.slice A0 l0.length c0] w fun e w' => e = .returned (.int .i64 r) ∧ Drawn0 w w' := by
 have HR0 := Aside0.mk hr0
 have HC0 := Aside0.mk hc0
 clear hr0 hc0
 have H : (some (l0.length : Int)) = some r := h
 clear h
 obtain rfl := Option.some.inj H
 go_enter Tryz.func61, Tryz.ntmps61
 go_wp2
 go_ret
 exact ⟨z65_, z71_⟩

-- NOT PRINTED: function 100 (slices_IndexFunc_int64_int64)

-- NOT PRINTED: function 85 (slices_ContainsFunc_int64_int64)

-- NOT PRINTED: function 86 (impl_allIn_1)

/-! ### impl_allIn -/
def allIn_out (lo hi n : Int) : Bool := !(decide (lo ≤ n ∧ n ≤ hi))
theorem allIn_range (n lo hi : Int) : impl_inRange.f n lo hi = some (!(allIn_out lo hi n)) := by
 unfold impl_inRange.f allIn_out
 by_cases h : lo ≤ n
 ·rw [if_pos h]; simp [h]
 ·rw [if_neg h]; simp [h]
def allIn_idx (p : Int → Bool) : List Int → Int → Int
 | [], _ => -1
 | x :: t, i => if p x = true then i else allIn_idx p t (i + 1)
theorem allIn_idx_nonneg (p : Int → Bool) : ∀ (l : List Int) (i : Int), 0 ≤ i → (decide (allIn_idx p l i ≥ 0)) = l.any p
 | [], i, h => rfl
 | x :: t, i, h => by
  unfold allIn_idx
  by_cases hx : p x = true
  ·rw [if_pos hx, List.any_cons, hx, Bool.true_or]; exact decide_eq_true h
  ·rw [if_neg hx, List.any_cons, Bool.eq_false_iff.mpr hx, Bool.false_or]; exact allIn_idx_nonneg p t (i + 1) (by omega)
def impl_allIn.f (l0 : List Int) (a1 : Int) (a2 : Int) : Option Bool := some (!(l0.any (allIn_out a1 a2)))
set_option maxHeartbeats 2000000 in
theorem impl_allIn.closure (b1 b2 : Nat) (lo hi n : Int) (w : World) (h1 : w.cell? ⟨b1, 0, none⟩ = some (.int .i64 lo)) (h2 : w.cell? ⟨b2, 0, none⟩ = some (.int .i64 hi)) :
  Calls Tryz.prog 86 #[.int .i64 n, .pointer (some ⟨b1, 0, none⟩), .pointer (some ⟨b2, 0, none⟩)] w fun e w' => e = .returned (.bool (allIn_out lo hi n)) ∧ Drawn0 w w' := by
 go_enter Tryz.func86, Tryz.ntmps86
 go_wp2_with (go_at_call 54; (with_reducible refine (impl_inRange.calls n lo hi _ _ (allIn_range n lo hi)).mono ?_); rintro e w' ⟨rfl, ⟨nd, rfl⟩⟩)
 go_ret
 exact ⟨by simp, ⟨_, rfl⟩⟩
set_option maxHeartbeats 4000000 in
theorem impl_allIn.index (b1 b2 : Nat) (lo hi : Int) (A0 : Option Addr) (c0 : Nat) (l0 : List Int) (w : World) (h1 : w.cell? ⟨b1, 0, none⟩ = some (.int .i64 lo)) (h2 : w.cell? ⟨b2, 0, none⟩ = some (.int .i64 hi)) (hr0 : Kd.C (Kd.int .i64) w A0 l0.length l0) (hc0 : l0.length ≤ c0) :
  Calls Tryz.prog 100 #[.slice A0 l0.length c0, .func (.func 86) #[] #[.pointer (some ⟨b1, 0, none⟩), .pointer (some ⟨b2, 0, none⟩)]] w fun e w' => e = .returned (.int .i64 (allIn_idx (allIn_out lo hi) l0 0)) ∧ Drawn0 w w' := by
 have hlm : l0.length ≤ 9223372036854775807 := (Kd.reads_of_C (d := (0 : Int)) hr0).2.1
 have HR0 := Aside0.mk hr0
 have HC0 := Aside0.mk hc0
 clear hr0 hc0
 go_enter Tryz.func100, Tryz.ntmps100
 go_wp2
 go_loopg [8] (l0.length + 1) (fun kq v8 w' => ∃ (i : Nat), v8 = .int .i64 (i : Int) ∧ Aside0 (i + kq = l0.length + 1 ∧ i ≤ l0.length) ∧ Aside0 (allIn_idx (allIn_out lo hi) (l0.drop i) i = allIn_idx (allIn_out lo hi) l0 0) ∧ Drawn0 w w')
 case atStart => exact ⟨0, rfl, ⟨by omega, by omega⟩, ⟨by simp⟩, Drawn0.refl _⟩
 case round =>
  obtain ⟨i, rfl, HK, HD, ⟨m, rfl⟩⟩ := hrel
  cases gk with
  | zero =>
   exact absurd HK.out (fun h => by omega)
  | succ k1 =>
   by_cases hlt : i < l0.length
   ·obtain ⟨ad, e, hx⟩ := Kd.at_int HR0.out (i : Int) (by omega) (by omega)
    cases e
    rw [Int.toNat_natCast] at hx
    have hd : l0.drop i = rd l0 (i : Int) :: l0.drop (i + 1) := by
     rw [List.drop_eq_getElem_cons hlt]
     simp [rd, List.getD_eq_getElem?_getD, hlt]
    have HD2 := HD.out
    rw [hd, allIn_idx] at HD2
    have HE := Aside0.mk HD2
    clear HD HD2 hd
    go_wp2_with fail
    refine (impl_allIn.closure b1 b2 lo hi (rd l0 (i : Int)) _ (by go_simp) (by go_simp)).mono ?_
    rintro e w' ⟨rfl, ⟨nd, rfl⟩⟩
    generalize hp : allIn_out lo hi (rd l0 (i : Int)) = q at HE ⊢
    cases q with
    | true =>
     have HD2 := HE.out
     rw [if_pos rfl] at HD2
     have HF := Aside0.mk HD2
     clear HE HD2 hp
     go_wp2
     go_ret
     rw [← HF.out]
     exact ⟨rfl, ⟨_, rfl⟩⟩
    | false =>
     have HD2 := HE.out
     rw [if_neg (by simp)] at HD2
     have HF := Aside0.mk HD2
     clear HE HD2 hp
     go_wp2
     go_roundg k1
     case measure => omega
     case rel => exact ⟨i + 1, by go_num, ⟨by have := HK.out; omega⟩, ⟨by rw [← HF.out]; rfl⟩, ⟨_, rfl⟩⟩
   ·have HD2 := HD.out
    rw [List.drop_of_length_le (by omega)] at HD2
    have HF := Aside0.mk HD2
    clear HD HD2
    go_wp2
    go_ret
    rw [← HF.out]
    exact ⟨rfl, ⟨_, rfl⟩⟩
set_option maxHeartbeats 4000000 in
theorem impl_allIn.contains (b1 b2 : Nat) (lo hi : Int) (A0 : Option Addr) (c0 : Nat) (l0 : List Int) (w : World) (h1 : w.cell? ⟨b1, 0, none⟩ = some (.int .i64 lo)) (h2 : w.cell? ⟨b2, 0, none⟩ = some (.int .i64 hi)) (hr0 : Kd.C (Kd.int .i64) w A0 l0.length l0) (hc0 : l0.length ≤ c0) :
  Calls Tryz.prog 85 #[.slice A0 l0.length c0, .func (.func 86) #[] #[.pointer (some ⟨b1, 0, none⟩), .pointer (some ⟨b2, 0, none⟩)]] w fun e w' => e = .returned (.bool (l0.any (allIn_out lo hi))) ∧ Drawn0 w w' := by
 have HX := a_ (impl_allIn.index b1 b2 lo hi A0 c0 l0 w h1 h2 hr0 hc0)
 have HN := a_ (allIn_idx_nonneg (allIn_out lo hi) l0 0 (by omega))
 clear hr0 hc0
 go_enter Tryz.func85, Tryz.ntmps85
 go_wp2_with (go_at_call 100; (with_reducible refine HX.out.mono ?_); rintro e w' ⟨rfl, ⟨nd, rfl⟩⟩)
 go_ret
 rw [← HN.out]
 exact ⟨rfl, ⟨_, rfl⟩⟩
set_option maxHeartbeats 4000000 in
theorem impl_allIn.calls (A0 : Option Addr) (c0 : Nat) (l0 : List Int) (a1 : Int) (a2 : Int) (r : Bool) (w : World) (hr0 : Kd.C (Kd.int .i64) w A0 l0.length l0) (hc0 : l0.length ≤ c0) (h : impl_allIn.f l0 a1 a2 = some r) :
  Calls Tryz.prog 62 #[.slice A0 l0.length c0, .int .i64 a1, .int .i64 a2] w fun e w' => e = .returned (.bool r) ∧ Below w.heap.size w w' := by
 have hh := Option.some.inj h
 have HF := Aside0.mk hh
 have HR0 := Aside0.mk hr0
 have HC0 := Aside0.mk hc0
 clear hr0 hc0 h hh
 go_enter Tryz.func62, Tryz.ntmps62
 go_wp2_with (go_at_call 85; (with_reducible refine (impl_allIn.contains w.heap.size (w.heap.size + 1) a1 a2 A0 c0 l0 _ ?s1 ?s2 ?s3 HC0.out).mono ?_); (case s1 => go_simp); (case s2 => go_simp); (case s3 => exact Kd.C_alloc (Kd.C_alloc HR0.out _) _); rintro e w' ⟨rfl, ⟨nd, rfl⟩⟩)
 go_ret
 rw [← HF.out]
 exact ⟨by first | rfl | (simp; done), by repeat (first | (with_reducible first | exact Below.refl _ _ | apply below_alloc | apply pw_below_drewN | apply below_drew1) | exact Below.refl _ _)⟩

-- NOT PRINTED: function 101 (slices_AppendSeq_int64_int64)

-- NOT PRINTED: function 87 (slices_Collect_int64)

-- NOT PRINTED: function 137 (cmp_isNaN_int64)

-- NOT PRINTED: function 122 (cmp_Less_int64)

-- NOT PRINTED: function 116 (slices_insertionSortOrdered_int64)

-- NOT PRINTED: function 132 (slices_siftDownOrdered_int64)

-- NOT PRINTED: function 117 (slices_heapSortOrdered_int64)

-- NOT PRINTED: function 125 (bits_Len32)

-- NOT PRINTED: function 126 (bits_Len64)

-- NOT PRINTED: function 103 (bits_Len)

-- NOT PRINTED: function 133 (slices_nextPowerOfTwo)

-- NOT PRINTED: function 134 (slices_xorshift_Next)

-- NOT PRINTED: function 118 (slices_breakPatternsOrdered_int64)

-- NOT PRINTED: function 145 (slices_order2Ordered_int64)

-- NOT PRINTED: function 136 (slices_medianOrdered_int64)

-- NOT PRINTED: function 135 (slices_medianAdjacentOrdered_int64)

-- NOT PRINTED: function 119 (slices_choosePivotOrdered_int64)

-- NOT PRINTED: function 120 (slices_reverseRangeOrdered_int64)

-- NOT PRINTED: function 121 (slices_partialInsertionSortOrdered_int64)

-- NOT PRINTED: function 123 (slices_partitionEqualOrdered_int64)

-- NOT PRINTED: function 124 (slices_partitionOrdered_int64)

-- NOT PRINTED: function 102 (slices_pdqsortOrdered_int64)

-- NOT PRINTED: function 88 (slices_Sort_int64_int64)

end Go.Proofs.YtkpidjmhdagkfaaGreatDoor.QFnExactIsRightForm
-- halved
