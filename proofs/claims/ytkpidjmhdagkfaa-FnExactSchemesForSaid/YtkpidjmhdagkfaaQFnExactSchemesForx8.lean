-- Written by own_print.py of this session's repo over the kit's print (its output, turned at some places).
import Derived.Test.YtkpidjmhdagkfaaQFnExactSchemesForx0
import Derived.Test.YtkpidjmhdagkfaaQFnExactSchemesForx2
import Derived.Test.YtkpidjmhdagkfaaQFnExactSchemesForx3
import Derived.Test.YtkpidjmhdagkfaaQFnExactSchemesForx4
import Derived.Test.YtkpidjmhdagkfaaQFnExactSchemesForx7
namespace Go.Proofs.Ytkpidjmhdagkfaa.QFnExactSchemesFor
open Go.RowKit Go.Proofs.YtkpidjmhdagkfaaW.PrintWords Go.Proofs.YtkpidjmhdagkfaaW.PrintLast Go.Proofs.YtkpidjmhdagkfaaW.PrintMore
attribute [local go_sem] max2_int min2_int max_two min_two max_three min_three max_four min_four   -- for this text's walks alone
set_option linter.unusedVariables false
set_option linter.unusedSimpArgs false

/-! ### spec_l05Right: function 60 -/
def spec_l05Right.l0 : Nat → List Int → Int → Int → Option (Bool)
 | 0, _, _, _ => none
 | k + 1, x5, x6, x7 => if x7 < (x5.length : Int) then (if 0 ≤ x7 then (if (rd x5 x7) = (wrap64 (x6 + x7)) then (spec_l05Right.l0 k x5 x6 (wrap64 (x7 + 1))) else (some false)) else (none)) else (some true)
def spec_l05Right.f (k : Nat) (a0_0 : Int) (a0_1 : Int) (l0_2 : List Int) (l0_3 : List Int) (l0_4 : List Int) (a1 : ByteArray) : Option (Bool) := (spec_l05Read.f k a0_0 a0_1 l0_2 l0_3 l0_4 a1).bind fun t345 => ((spec_l05Least.f k a0_0 a0_1 l0_2 l0_3 l0_4).bind fun t348 => (spec_l05Right.l0 k t345 t348 0))
theorem spec_l05Right.mono_l : ∀ k, (∀ y0 y1 y2, LeO (spec_l05Right.l0 k y0 y1 y2) (spec_l05Right.l0 (k + 1) y0 y1 y2))
 | 0 => fun _ _ _ r h => by simp [spec_l05Right.l0] at h
 | k + 1 => by
  have ih0 := spec_l05Right.mono_l k
  ·intro y0 y1 y2
   unfold spec_l05Right.l0
   repeat' first
   | (with_reducible exact ih0 _ _ _)
   | (with_reducible exact spec_l05Least.mono _ _ _ _ _ _)
   | (with_reducible exact spec_l05Read.mono _ _ _ _ _ _ _)
   | (with_reducible exact LeO.refl _)
   | (with_reducible exact LeO.none _)
   | (with_reducible refine LeO.ite ?_ ?_)
   | (with_reducible refine LeO.bind ?_ (fun _ => ?_))
   | exact ih0 _ _ _
   | exact spec_l05Least.mono _ _ _ _ _ _
   | exact spec_l05Read.mono _ _ _ _ _ _ _
   | exact LeO.none _
   | refine LeO.ite ?_ ?_
   | refine LeO.bind ?_ (fun _ => ?_)
theorem spec_l05Right.mono : ∀ a0 a1 a2 a3 a4 a5 k, LeO (spec_l05Right.f k a0 a1 a2 a3 a4 a5) (spec_l05Right.f (k + 1) a0 a1 a2 a3 a4 a5) := by
 intro a0 a1 a2 a3 a4 a5 k
 have ih0 := spec_l05Right.mono_l k
 unfold spec_l05Right.f
 repeat' first
   | (with_reducible exact ih0 _ _ _)
   | (with_reducible exact spec_l05Least.mono _ _ _ _ _ _)
   | (with_reducible exact spec_l05Read.mono _ _ _ _ _ _ _)
   | (with_reducible exact LeO.refl _)
   | (with_reducible exact LeO.none _)
   | (with_reducible refine LeO.ite ?_ ?_)
   | (with_reducible refine LeO.bind ?_ (fun _ => ?_))
   | exact ih0 _ _ _
   | exact spec_l05Least.mono _ _ _ _ _ _
   | exact spec_l05Read.mono _ _ _ _ _ _ _
   | exact LeO.none _
   | refine LeO.ite ?_ ?_
   | refine LeO.bind ?_ (fun _ => ?_)
set_option maxHeartbeats 8000000 in
set_option maxRecDepth 100000 in
theorem spec_l05Right.calls (k : Nat) (a0_0 : Int) (a0_1 : Int) (A0_2 : Option Addr) (c0_2 : Nat) (l0_2 : List Int) (A0_3 : Option Addr) (c0_3 : Nat) (l0_3 : List Int) (A0_4 : Option Addr) (c0_4 : Nat) (l0_4 : List Int) (a1 : ByteArray) (r : Bool) (w : World) (hr0_2 : Kd.C (Kd.int .i64) w A0_2 l0_2.length l0_2) (hc0_2 : l0_2.length ≤ c0_2) (hr0_3 : Kd.C (Kd.int .i64) w A0_3 l0_3.length l0_3) (hc0_3 : l0_3.length ≤ c0_3) (hr0_4 : Kd.C (Kd.int .i64) w A0_4 l0_4.length l0_4) (hc0_4 : l0_4.length ≤ c0_4) (h : spec_l05Right.f k a0_0 a0_1 l0_2 l0_3 l0_4 a1 = some r) :
  Calls Try.prog 60 #[.agg #[.int .i64 a0_0, .int .i64 a0_1, .slice A0_2 l0_2.length c0_2, .slice A0_3 l0_3.length c0_3, .slice A0_4 l0_4.length c0_4], .string a1] w fun e w' => e = .returned (.bool r) ∧ Below w.heap.size w w' := by
 have hu27 := Try.underlying27
 have HR0_2 := Aside0.mk hr0_2
 have HC0_2 := Aside0.mk hc0_2
 clear hr0_2 hc0_2
 have HR0_3 := Aside0.mk hr0_3
 have HC0_3 := Aside0.mk hc0_3
 clear hr0_3 hc0_3
 have HR0_4 := Aside0.mk hr0_4
 have HC0_4 := Aside0.mk hc0_4
 clear hr0_4 hc0_4
 have HB := a_ (Below.refl w.heap.size w)
 have H : ((spec_l05Read.f k a0_0 a0_1 l0_2 l0_3 l0_4 a1).bind fun t345 => ((spec_l05Least.f k a0_0 a0_1 l0_2 l0_3 l0_4).bind fun t348 => (spec_l05Right.l0 k t345 t348 0))) = some r := h
 clear h
 replace H := Option.bind_eq_some_iff.mp H
 obtain ⟨t345, A30, H⟩ := H
 replace H : ((spec_l05Least.f k a0_0 a0_1 l0_2 l0_3 l0_4).bind fun t348 => (spec_l05Right.l0 k t345 t348 0)) = some r := H
 have A3 := Aside0.mk A30
 clear A30
 replace H := Option.bind_eq_some_iff.mp H
 obtain ⟨t348, A40, H⟩ := H
 replace H : (spec_l05Right.l0 k t345 t348 0) = some r := H
 have A4 := Aside0.mk A40
 clear A40
 have H' := Aside0.mk H
 clear H
 go_enter Try.func60, Try.ntmps60
 go_wp2_with (first | ((with_reducible refine gate_dst (N := 2) rfl ?_); refine box_event ?hg (N := 2) ?hd (cs := #[.int .i64 a0_0, .int .i64 a0_1, .slice A0_2 l0_2.length c0_2, .slice A0_3 l0_3.length c0_3, .slice A0_4 l0_4.length c0_4]) (t := 27) ?hr ?_; (case hd => rfl); (case hg => rfl); (case hr => first | (go_simp; done) | (go_simp; rfl)); intro gb344 hg w5 hbox hb; have BK344 := a_ (hbox); have GW344 := a_ ((z30_ : w.heap.size ≤ gb344)); have GE344 := a_ ((z30_ : w.heap.size ≤ gb344)); replace HB := a_ (below_step z31_ hb); clear hb hbox hg; obtain ⟨hcz6_0, hcz6_1, hcz6_2, hcz6_3, hcz6_4, hfz6_0, hfz6_1, hfz6_2, hfz6_3, hfz6_4⟩ := cz5_ (w := w5) BK344.out) | ((with_reducible refine gate_callee (f := 78) rfl ?_); refine goesL_ (some 10) rfl rfl Try.func78 (by kernel_rfl) rfl #[.agg #[.int .i64 a0_0, .int .i64 a0_1, .slice A0_2 l0_2.length c0_2, .slice A0_3 l0_3.length c0_3, .slice A0_4 l0_4.length c0_4], .string a1] rfl z34_ ?_; (with_reducible refine (spec_l05Read.calls k a0_0 a0_1 _ _ l0_2 _ _ l0_3 _ _ l0_4 a1 t345 _ ?side1 ?side2 ?side3 ?side4 ?side5 ?side6 A3.out).mono ?_); (case side1 => exact kc_ (Kd.C_below HR0_2.out HB.out)); (case side2 => exact HC0_2.out); (case side3 => exact kc_ (Kd.C_below HR0_3.out HB.out)); (case side4 => exact HC0_3.out); (case side5 => exact kc_ (Kd.C_below HR0_4.out HB.out)); (case side6 => exact HC0_4.out); rintro e w7 ⟨v346, rfl, ho0, hb⟩; refine ⟨_, rfl, ?_⟩; have HO347 := a_ (Kd.R_lower ho0 (below_size z24_)); replace BK344 := a_ (blk_below (g := gb344) (rb_ BK344.out) hb); replace HB := a_ (below_step z24_ hb); (try clear hb); (try clear hb2); (try clear hk); (try clear hi); (try clear ho0); obtain ⟨hcz8_0, hcz8_1, hcz8_2, hcz8_3, hcz8_4, hfz8_0, hfz8_1, hfz8_2, hfz8_3, hfz8_4⟩ := cz5_ (w := w7) BK344.out) | ((with_reducible refine gate_callee (f := 35) rfl ?_); refine goesL_ (some 12) rfl rfl Try.func35 (by kernel_rfl) rfl #[.agg #[.int .i64 a0_0, .int .i64 a0_1, .slice A0_2 l0_2.length c0_2, .slice A0_3 l0_3.length c0_3, .slice A0_4 l0_4.length c0_4]] rfl z34_ ?_; (with_reducible refine (spec_l05Least.calls k a0_0 a0_1 _ _ l0_2 _ _ l0_3 _ _ l0_4 t348 _ ?side1 ?side2 ?side3 ?side4 ?side5 ?side6 A4.out).mono ?_); (case side1 => exact kc_ (Kd.C_below HR0_2.out HB.out)); (case side2 => exact HC0_2.out); (case side3 => exact kc_ (Kd.C_below HR0_3.out HB.out)); (case side4 => exact HC0_3.out); (case side5 => exact kc_ (Kd.C_below HR0_4.out HB.out)); (case side6 => exact HC0_4.out); rintro e w9 ⟨rfl, hb⟩; refine ⟨_, rfl, ?_⟩; replace HO347 := a_ (Kd.R_below (ra_ HO347.out) hb); replace BK344 := a_ (blk_below (g := gb344) (rb_ BK344.out) hb); replace HB := a_ (below_step z24_ hb); (try clear hb); (try clear hb2); (try clear hk); (try clear hi)))
 go_loopg [7] k (fun kq v7 w' => ∃ (x7_1 : Int), v7 = .int .i64 x7_1 ∧ Aside0 (spec_l05Right.l0 kq t345 t348 x7_1 = some r) ∧ Aside0 (kq ≤ k) ∧ Aside0 (Kd.R (Kd.int .i64) 2 w' w.heap.size (fun _ => True) v346 t345) ∧ Aside0 (w'.heap[gb344]? = some (.cells #[.int .i64 a0_0, .int .i64 a0_1, (.slice A0_2 l0_2.length c0_2), (.slice A0_3 l0_3.length c0_3), (.slice A0_4 l0_4.length c0_4)] 27 (0, 0))) ∧ Aside0 (Below w.heap.size w w'))
 case atStart => exact ⟨(0), z81_, H', ⟨Nat.le_refl _⟩, ⟨by (with_reducible repeat (first | apply Kd.R_alloc | apply Kd.R_drewN | apply Kd.R_drew)); exact HO347.out⟩, ⟨by (with_reducible repeat (first | refine blk_drewN ?_ _ | refine blk_drew ?_ | refine blk_alloc ?_ _)); exact BK344.out⟩, ⟨z24_⟩⟩
 case round =>
  clear H'
  try clear hcz6_0 hcz6_1 hcz6_2 hcz6_3 hcz6_4; try clear hcz8_0 hcz8_1 hcz8_2 hcz8_3 hcz8_4; try clear hfz6_0 hfz6_1 hfz6_2 hfz6_3 hfz6_4; try clear hfz8_0 hfz8_1 hfz8_2 hfz8_3 hfz8_4
  obtain ⟨x7_1, rfl, HA, HK1, HO_5, BK344, HB⟩ := hrel
  cases gk with
  | zero => exact absurd HA.out (by simp [spec_l05Right.l0])
  | succ k1 =>
   have H := HA.out
   clear HA
   simp only [spec_l05Right.l0] at H
   by_cases c10 : x7_1 < (t345.length : Int)
   ·rw [if_pos c10] at H
    have c10b0 : decide (x7_1 < (t345.length : Int)) = true := decide_eq_true c10
    clear c10
    by_cases c11 : 0 ≤ x7_1
    ·rw [if_pos c11] at H
     have c11b0 : decide (0 ≤ x7_1) = true := decide_eq_true c11
     clear c11
     by_cases c12 : (rd t345 x7_1) = (wrap64 (t348 + x7_1))
     ·rw [if_pos c12] at H
      have c12b0 : ((rd t345 x7_1) == (wrap64 (t348 + x7_1))) = true := beq_iff_eq.mpr c12
      have c12b1 : ((rd t345 x7_1) != (wrap64 (t348 + x7_1))) = false := bne_eq_false_iff_eq.mpr c12
      clear c12
      have H' := Aside0.mk H
      clear H
      obtain ⟨Ao13, co13, eo13⟩ := Kd.R_slice HO_5.out
      subst eo13
      have p349 : 0 ≤ (x7_1 : Int) := of_decide_eq_true z80_
      have q349 : x7_1 < (t345.length : Int) := of_decide_eq_true z80_
      obtain ⟨ad349, e349, hx349_0⟩ := Kd.at_int (Kd.R_reads' HO_5.out).2.2 x7_1 p349 q349
      cases e349
      replace p349 := eq_true p349
      replace q349 := eq_true q349
      go_wp2
      go_roundg k1
      case measure => have := HK1.out; omega
      case rel => exact ⟨(wrap64 (x7_1 + 1)), z81_, H', ⟨z85_⟩, ⟨z67_⟩, ⟨by (with_reducible repeat (first | refine blk_drewN ?_ _ | refine blk_drew ?_ | refine blk_alloc ?_ _)); exact BK344.out⟩, ⟨z24_⟩⟩
     ·rw [if_neg c12] at H
      have c12b0 : ((rd t345 x7_1) == (wrap64 (t348 + x7_1))) = false := beq_eq_false_iff_ne.mpr c12
      have c12b1 : ((rd t345 x7_1) != (wrap64 (t348 + x7_1))) = true := bne_iff_ne.mpr c12
      obtain rfl := Option.some.inj H
      obtain ⟨Ao14, co14, eo14⟩ := Kd.R_slice HO_5.out
      subst eo14
      have p349 : 0 ≤ (x7_1 : Int) := of_decide_eq_true z80_
      have q349 : x7_1 < (t345.length : Int) := of_decide_eq_true z80_
      obtain ⟨ad349, e349, hx349_0⟩ := Kd.at_int (Kd.R_reads' HO_5.out).2.2 x7_1 p349 q349
      cases e349
      replace p349 := eq_true p349
      replace q349 := eq_true q349
      go_wp2
      go_ret
      exact ⟨z32_, z24_⟩
    ·rw [if_neg c11] at H
     exact absurd H (by simp)
   ·rw [if_neg c10] at H
    have c10b0 : decide (x7_1 < (t345.length : Int)) = false := decide_eq_false c10
    clear c10
    obtain rfl := Option.some.inj H
    obtain ⟨Ao15, co15, eo15⟩ := Kd.R_slice HO_5.out
    subst eo15
    go_wp2
    go_ret
    exact ⟨z32_, z24_⟩

/-! ### spec_SchemesFor: function 26 -/
def spec_SchemesFor.l0 : Nat → List ByteArray → List ByteArray → Int → Int → Int → List Int → List Int → List Int → Option (List ByteArray × Int)
 | 0, _, _, _, _, _, _, _, _ => none
 | k + 1, x4, x5, x6, x351000, x351001, x351002, x351003, x351004 => if x6 < (x4.length : Int) then (if 0 ≤ x6 then ((spec_l05Right.f k x351000 x351001 x351002 x351003 x351004 (rdOf ByteArray.empty x4 x6)).bind fun t359 => (if t359 = true then (if x5.length < 8796093022208 then (spec_SchemesFor.l0 k x4 (x5 ++ [rdOf ByteArray.empty x4 x6]) (wrap64 (x6 + 1)) x351000 x351001 x351002 x351003 x351004) else (none)) else (spec_SchemesFor.l0 k x4 x5 (wrap64 (x6 + 1)) x351000 x351001 x351002 x351003 x351004))) else (none)) else (some (x5, 0))
def spec_SchemesFor.f (k : Nat) (a0_0 : Int) (a0_1 : Int) (l0_2 : List Int) (l0_3 : List Int) (l0_4 : List Int) : Option (List ByteArray × Int) := (spec_IsForm.f k a0_0 a0_1 l0_2 l0_3 l0_4).bind fun t351 => (if t351 = true then ((spec_l04All.f k a0_0 a0_1).bind fun t352 => (spec_SchemesFor.l0 k t352 (([] : List ByteArray)) 0 a0_0 a0_1 l0_2 l0_3 l0_4)) else (some (([] : List ByteArray), 1)))
theorem spec_SchemesFor.mono_l : ∀ k, (∀ y0 y1 y2 y3 y4 y5 y6 y7, LeO (spec_SchemesFor.l0 k y0 y1 y2 y3 y4 y5 y6 y7) (spec_SchemesFor.l0 (k + 1) y0 y1 y2 y3 y4 y5 y6 y7))
 | 0 => fun _ _ _ _ _ _ _ _ r h => by simp [spec_SchemesFor.l0] at h
 | k + 1 => by
  have ih0 := spec_SchemesFor.mono_l k
  ·intro y0 y1 y2 y3 y4 y5 y6 y7
   unfold spec_SchemesFor.l0
   repeat' first
   | (with_reducible exact ih0 _ _ _ _ _ _ _ _)
   | (with_reducible exact spec_IsForm.mono _ _ _ _ _ _)
   | (with_reducible exact spec_l04All.mono _ _ _)
   | (with_reducible exact spec_l05Right.mono _ _ _ _ _ _ _)
   | (with_reducible exact LeO.refl _)
   | (with_reducible exact LeO.none _)
   | (with_reducible refine LeO.ite ?_ ?_)
   | (with_reducible refine LeO.bind ?_ (fun _ => ?_))
   | exact ih0 _ _ _ _ _ _ _ _
   | exact spec_IsForm.mono _ _ _ _ _ _
   | exact spec_l04All.mono _ _ _
   | exact spec_l05Right.mono _ _ _ _ _ _ _
   | exact LeO.none _
   | refine LeO.ite ?_ ?_
   | refine LeO.bind ?_ (fun _ => ?_)
theorem spec_SchemesFor.mono : ∀ a0 a1 a2 a3 a4 k, LeO (spec_SchemesFor.f k a0 a1 a2 a3 a4) (spec_SchemesFor.f (k + 1) a0 a1 a2 a3 a4) := by
 intro a0 a1 a2 a3 a4 k
 have ih0 := spec_SchemesFor.mono_l k
 unfold spec_SchemesFor.f
 repeat' first
   | (with_reducible exact ih0 _ _ _ _ _ _ _ _)
   | (with_reducible exact spec_IsForm.mono _ _ _ _ _ _)
   | (with_reducible exact spec_l04All.mono _ _ _)
   | (with_reducible exact spec_l05Right.mono _ _ _ _ _ _ _)
   | (with_reducible exact LeO.refl _)
   | (with_reducible exact LeO.none _)
   | (with_reducible refine LeO.ite ?_ ?_)
   | (with_reducible refine LeO.bind ?_ (fun _ => ?_))
   | exact ih0 _ _ _ _ _ _ _ _
   | exact spec_IsForm.mono _ _ _ _ _ _
   | exact spec_l04All.mono _ _ _
   | exact spec_l05Right.mono _ _ _ _ _ _ _
   | exact LeO.none _
   | refine LeO.ite ?_ ?_
   | refine LeO.bind ?_ (fun _ => ?_)
set_option maxHeartbeats 8000000 in
set_option maxRecDepth 100000 in
theorem spec_SchemesFor.calls (k : Nat) (a0_0 : Int) (a0_1 : Int) (A0_2 : Option Addr) (c0_2 : Nat) (l0_2 : List Int) (A0_3 : Option Addr) (c0_3 : Nat) (l0_3 : List Int) (A0_4 : Option Addr) (c0_4 : Nat) (l0_4 : List Int) (r1 : List ByteArray) (r2 : Int) (w : World) (hr0_2 : Kd.C (Kd.int .i64) w A0_2 l0_2.length l0_2) (hc0_2 : l0_2.length ≤ c0_2) (hr0_3 : Kd.C (Kd.int .i64) w A0_3 l0_3.length l0_3) (hc0_3 : l0_3.length ≤ c0_3) (hr0_4 : Kd.C (Kd.int .i64) w A0_4 l0_4.length l0_4) (hc0_4 : l0_4.length ≤ c0_4) (h : spec_SchemesFor.f k a0_0 a0_1 l0_2 l0_3 l0_4 = some (r1, r2)) :
  Calls Try.prog 26 #[.agg #[.int .i64 a0_0, .int .i64 a0_1, .slice A0_2 l0_2.length c0_2, .slice A0_3 l0_3.length c0_3, .slice A0_4 l0_4.length c0_4]] w fun e w' => ∃ v0_ : Value, e = .returned (.tuple #[v0_, .int .i64 r2]) ∧ Kd.R Kd.string 9 w' w.heap.size (fun _ => True) v0_ r1 ∧ Below w.heap.size w w' := by
 have hu27 := Try.underlying27
 have HR0_2 := Aside0.mk hr0_2
 have HC0_2 := Aside0.mk hc0_2
 clear hr0_2 hc0_2
 have HR0_3 := Aside0.mk hr0_3
 have HC0_3 := Aside0.mk hc0_3
 clear hr0_3 hc0_3
 have HR0_4 := Aside0.mk hr0_4
 have HC0_4 := Aside0.mk hc0_4
 clear hr0_4 hc0_4
 have HB := a_ (Below.refl w.heap.size w)
 have H : ((spec_IsForm.f k a0_0 a0_1 l0_2 l0_3 l0_4).bind fun t351 => (if t351 = true then ((spec_l04All.f k a0_0 a0_1).bind fun t352 => (spec_SchemesFor.l0 k t352 (([] : List ByteArray)) 0 a0_0 a0_1 l0_2 l0_3 l0_4)) else (some (([] : List ByteArray), 1)))) = some (r1, r2) := h
 clear h
 replace H := Option.bind_eq_some_iff.mp H
 obtain ⟨t351, A20, H⟩ := H
 replace H : (if t351 = true then ((spec_l04All.f k a0_0 a0_1).bind fun t352 => (spec_SchemesFor.l0 k t352 (([] : List ByteArray)) 0 a0_0 a0_1 l0_2 l0_3 l0_4)) else (some (([] : List ByteArray), 1))) = some (r1, r2) := H
 have A2 := Aside0.mk A20
 clear A20
 by_cases c3 : t351 = true
 ·subst c3
  have H1 : ((spec_l04All.f k a0_0 a0_1).bind fun t352 => (spec_SchemesFor.l0 k t352 (([] : List ByteArray)) 0 a0_0 a0_1 l0_2 l0_3 l0_4)) = some (r1, r2) := by rw [if_pos rfl] at H; exact H
  clear H
  have H := H1
  clear H1
  replace H := Option.bind_eq_some_iff.mp H
  obtain ⟨t352, A40, H⟩ := H
  replace H : (spec_SchemesFor.l0 k t352 (([] : List ByteArray)) 0 a0_0 a0_1 l0_2 l0_3 l0_4) = some (r1, r2) := H
  have A4 := Aside0.mk A40
  clear A40
  obtain ⟨y355, hy355⟩ : ∃ y_ : List ByteArray, y_ = (([] : List ByteArray)) := ⟨_, rfl⟩
  replace H : (spec_SchemesFor.l0 k t352 y355 0 a0_0 a0_1 l0_2 l0_3 l0_4) = some (r1, r2) := rh_ hy355 H
  have Ny355 := Aside0.mk hy355
  clear hy355
  have H' := Aside0.mk H
  clear H
  go_enter Try.func26, Try.ntmps26
  go_wp2_with (first | ((with_reducible refine gate_dst (N := 1) rfl ?_); refine box_event ?hg (N := 1) ?hd (cs := #[.int .i64 a0_0, .int .i64 a0_1, .slice A0_2 l0_2.length c0_2, .slice A0_3 l0_3.length c0_3, .slice A0_4 l0_4.length c0_4]) (t := 27) ?hr ?_; (case hd => rfl); (case hg => rfl); (case hr => first | (go_simp; done) | (go_simp; rfl)); intro gb350 hg w5 hbox hb; have BK350 := a_ (hbox); have GW350 := a_ ((z30_ : w.heap.size ≤ gb350)); have GE350 := a_ ((z30_ : w.heap.size ≤ gb350)); replace HB := a_ (below_step z31_ hb); clear hb hbox hg; obtain ⟨hcz6_0, hcz6_1, hcz6_2, hcz6_3, hcz6_4, hfz6_0, hfz6_1, hfz6_2, hfz6_3, hfz6_4⟩ := cz5_ (w := w5) BK350.out) | ((with_reducible refine gate_callee (f := 10) rfl ?_); refine goesL_ (some 8) rfl rfl Try.func10 (by kernel_rfl) rfl #[.agg #[.int .i64 a0_0, .int .i64 a0_1, .slice A0_2 l0_2.length c0_2, .slice A0_3 l0_3.length c0_3, .slice A0_4 l0_4.length c0_4]] rfl z34_ ?_; (with_reducible refine (spec_IsForm.calls k a0_0 a0_1 _ _ l0_2 _ _ l0_3 _ _ l0_4 true _ ?side1 ?side2 ?side3 ?side4 ?side5 ?side6 A2.out).mono ?_); (case side1 => exact kc_ (Kd.C_below HR0_2.out HB.out)); (case side2 => exact HC0_2.out); (case side3 => exact kc_ (Kd.C_below HR0_3.out HB.out)); (case side4 => exact HC0_3.out); (case side5 => exact kc_ (Kd.C_below HR0_4.out HB.out)); (case side6 => exact HC0_4.out); rintro e w7 ⟨rfl, hb⟩; refine ⟨_, rfl, ?_⟩; replace BK350 := a_ (blk_below (g := gb350) (rb_ BK350.out) hb); replace HB := a_ (below_step z25_ hb); (try clear hb); (try clear hb2); (try clear hk); (try clear hi); obtain ⟨hcz8_0, hcz8_1, hcz8_2, hcz8_3, hcz8_4, hfz8_0, hfz8_1, hfz8_2, hfz8_3, hfz8_4⟩ := cz5_ (w := w7) BK350.out) | ((with_reducible refine gate_callee (f := 59) rfl ?_); refine goesL_ (some 14) rfl rfl Try.func59 (by kernel_rfl) rfl #[.int .i64 a0_0, .int .i64 a0_1] rfl z34_ ?_; (with_reducible refine (spec_l04All.calls k a0_0 a0_1 t352 _ A4.out).mono ?_); rintro e w9 ⟨v353, rfl, ho0, hb⟩; refine ⟨_, rfl, ?_⟩; have HO354 := a_ (Kd.R_lower ho0 (below_size z25_)); replace BK350 := a_ (blk_below (g := gb350) (rb_ BK350.out) hb); replace HB := a_ (below_step z25_ hb); (try clear hb); (try clear hb2); (try clear hk); (try clear hi); (try clear ho0)) | ((with_reducible refine gate_dst (N := 15) rfl ?_); refine Kd.R_lit Kd.string _ 9 ?hg (N := 15) ?hd (xs := ([] : List ByteArray)) (inner := []) (ok := fun _ => True) (okp := fun _ => True) ?hr ?hp (fun _ hk => hk) trivial (Below.refl _ _) (Nat.le_refl _) (by simp) ?_; (case hd => rfl); (case hg => rfl); (case hr => first | (go_simp; done) | (go_simp; rfl)); (case hp => exact (Reps.none _ _)); intro v356 w10 ho11 hb hg_ hnew_; clear hg_ hnew_; (first | rw [← Ny355.out] at ho11 | (simp only [Int.reduceToNat] at ho11; rw [← Ny355.out] at ho11)); have HO357 := a_ (Kd.R_lower (Kd.R_new' ho11 (Kd.R_lt (ra_ HO354.out))) (below_size z25_)); replace HO354 := a_ (Kd.R_elder' (ra_ HO354.out) (Kd.R_base ho11) hb); replace BK350 := a_ (blk_below (g := gb350) (rb_ BK350.out) hb); replace HB := a_ (below_step z25_ hb); clear hb ho11))
  go_loopg [5, 6] k (fun kq v5 v6 w' => ∃ (x5_1 : List ByteArray) (x6_1 : Int), v6 = .int .i64 x6_1 ∧ Aside0 (spec_SchemesFor.l0 kq t352 x5_1 x6_1 a0_0 a0_1 l0_2 l0_3 l0_4 = some (r1, r2)) ∧ Aside0 (kq ≤ k) ∧ Aside0 (Kd.R Kd.string 9 w' w.heap.size (fun k_ => some k_ ≠ (v5 : Value).ownBlock) v353 t352) ∧ Aside0 (Kd.R Kd.string 9 w' w.heap.size (fun k_ => some k_ ≠ (v353 : Value).ownBlock) v5 x5_1) ∧ Aside0 (w'.heap[gb350]? = some (.cells #[.int .i64 a0_0, .int .i64 a0_1, (.slice A0_2 l0_2.length c0_2), (.slice A0_3 l0_3.length c0_3), (.slice A0_4 l0_4.length c0_4)] 27 (0, 0))) ∧ Aside0 (Below w.heap.size w w'))
  case atStart => exact ⟨(y355), (0), z81_, H', ⟨Nat.le_refl _⟩, ⟨by (with_reducible repeat (first | apply Kd.R_alloc | apply Kd.R_drewN | apply Kd.R_drew)); exact Kd.R_mono HO354.out (fun _ hk => hk.2)⟩, ⟨by (with_reducible repeat (first | apply Kd.R_alloc | apply Kd.R_drewN | apply Kd.R_drew)); exact Kd.R_mono HO357.out (fun _ hk => hk.2)⟩, ⟨z56_⟩, ⟨z25_⟩⟩
  case round =>
   clear H'
   try clear c3; try clear hcz6_0 hcz6_1 hcz6_2 hcz6_3 hcz6_4; try clear hcz8_0 hcz8_1 hcz8_2 hcz8_3 hcz8_4; try clear hfz6_0 hfz6_1 hfz6_2 hfz6_3 hfz6_4; try clear hfz8_0 hfz8_1 hfz8_2 hfz8_3 hfz8_4
   obtain ⟨x5_1, x6_1, rfl, HA, HK1, HO_4, HO_5, BK350, HB⟩ := hrel
   cases gk with
   | zero => exact absurd HA.out (by simp [spec_SchemesFor.l0])
   | succ k1 =>
    have H := HA.out
    clear HA
    simp only [spec_SchemesFor.l0] at H
    by_cases c12 : x6_1 < (t352.length : Int)
    ·rw [if_pos c12] at H
     have c12b0 : decide (x6_1 < (t352.length : Int)) = true := decide_eq_true c12
     clear c12
     by_cases c13 : 0 ≤ x6_1
     ·rw [if_pos c13] at H
      have c13b0 : decide (0 ≤ x6_1) = true := decide_eq_true c13
      clear c13
      replace H := Option.bind_eq_some_iff.mp H
      obtain ⟨t359, A140, H⟩ := H
      replace H : (if t359 = true then (if x5_1.length < 8796093022208 then (spec_SchemesFor.l0 k1 t352 (x5_1 ++ [rdOf ByteArray.empty t352 x6_1]) (wrap64 (x6_1 + 1)) a0_0 a0_1 l0_2 l0_3 l0_4) else (none)) else (spec_SchemesFor.l0 k1 t352 x5_1 (wrap64 (x6_1 + 1)) a0_0 a0_1 l0_2 l0_3 l0_4)) = some (r1, r2) := H
      have A14 := Aside0.mk A140
      clear A140
      by_cases c15 : t359 = true
      ·subst c15
       have H1 : (if x5_1.length < 8796093022208 then (spec_SchemesFor.l0 k1 t352 (x5_1 ++ [rdOf ByteArray.empty t352 x6_1]) (wrap64 (x6_1 + 1)) a0_0 a0_1 l0_2 l0_3 l0_4) else (none)) = some (r1, r2) := by rw [if_pos rfl] at H; exact H
       clear H
       have H := H1
       clear H1
       by_cases c16 : x5_1.length < 8796093022208
       ·rw [if_pos c16] at H
        have LMc16 := Aside0.mk c16
        clear c16
        obtain ⟨y361, hy361⟩ : ∃ y_ : List ByteArray, y_ = (x5_1 ++ [rdOf ByteArray.empty t352 x6_1]) := ⟨_, rfl⟩
        replace H : (spec_SchemesFor.l0 k1 t352 y361 (wrap64 (x6_1 + 1)) a0_0 a0_1 l0_2 l0_3 l0_4) = some (r1, r2) := rh_ hy361 H
        have Ny361 := Aside0.mk hy361
        clear hy361
        have H' := Aside0.mk H
        clear H
        obtain ⟨Ao17, co17, eo17⟩ := Kd.R_slice HO_4.out
        subst eo17
        try go_wp2
        replace HO_4 := a_ (Kd.R_drew HO_4.out)
        replace HO_5 := a_ (Kd.R_drew HO_5.out)
        replace BK350 := a_ (blk_drew BK350.out)
        replace HB := a_ (below_drew1 HB.out)
        have p358 : 0 ≤ (x6_1 : Int) := of_decide_eq_true z80_
        have q358 : x6_1 < (t352.length : Int) := of_decide_eq_true z80_
        obtain ⟨ad358, e358, hx358_0⟩ := Kd.at_string (Kd.R_reads' HO_4.out).2.2 x6_1 p358 q358
        cases e358
        replace p358 := eq_true p358
        replace q358 := eq_true q358
        refine start_ (n := 6) (S := fun w' => w'.cell? ⟨gb350, 0, none⟩ = some (.int .i64 a0_0) ∧ w'.cell? ⟨gb350, 1, none⟩ = some (.int .i64 a0_1) ∧ w'.cell? ⟨gb350, 2, none⟩ = some (.slice A0_2 l0_2.length c0_2) ∧ w'.cell? ⟨gb350, 3, none⟩ = some (.slice A0_3 l0_3.length c0_3) ∧ w'.cell? ⟨gb350, 4, none⟩ = some (.slice A0_4 l0_4.length c0_4) ∧ w'.cell? (ad358.add (x6_1).toNat) = some (.string (rdOf ByteArray.empty t352 x6_1))) (ds := []) #[false, false, false, false, false, false] (by kernel_rfl) rfl rfl ⟨(blk_cell BK350.out 0).trans rfl, (blk_cell BK350.out 1).trans rfl, (blk_cell BK350.out 2).trans rfl, (blk_cell BK350.out 3).trans rfl, (blk_cell BK350.out 4).trans rfl, hx358_0⟩ (fun hHeld => ?_)
        generalize wr.drew = w18 at HO_4 HO_5 BK350 HB hx358_0 hHeld ⊢
        refine pu_ (i := 1) (N := some 23) #[false, true, false, false, false, false] ?_ (hc := (by kernel_rfl))
        refine pu_ (i := 2) (N := some 24) #[false, true, true, false, false, false] ?_ (hc := (by kernel_rfl))
        refine pu_ (i := 3) (N := some 25) #[false, true, true, true, false, false] ?_ (hc := (by kernel_rfl))
        refine tk6_ (i := 0) (N := some 22) #[true, true, true, true, false, false] hHeld ?_ (hc := (by kernel_rfl))
        refine tk6_ (i := 4) (N := some 26) #[true, true, true, true, true, false] hHeld ?_ (hc := (by kernel_rfl))
        refine one_ (i := 5) (N := some 27) #[true, true, true, true, true, true] rfl rfl (by kernel_rfl) (by decide) (fun K hK => ?_)
        refine goes_ Try.func60 (by kernel_rfl) rfl #[.agg #[.int .i64 a0_0, .int .i64 a0_1, .slice A0_2 l0_2.length c0_2, .slice A0_3 l0_3.length c0_3, .slice A0_4 l0_4.length c0_4], .string (rdOf ByteArray.empty t352 x6_1)] (by rfl) rfl rfl z34_ ?_
        with_reducible refine (spec_l05Right.calls k1 a0_0 a0_1 _ _ l0_2 _ _ l0_3 _ _ l0_4 (rdOf ByteArray.empty t352 x6_1) true _ ?side1 ?side2 ?side3 ?side4 ?side5 ?side6 A14.out).mono ?_
        (case side1 => exact kc_ (Kd.C_below HR0_2.out HB.out))
        (case side2 => exact HC0_2.out)
        (case side3 => exact kc_ (Kd.C_below HR0_3.out HB.out))
        (case side4 => exact HC0_3.out)
        (case side5 => exact kc_ (Kd.C_below HR0_4.out HB.out))
        (case side6 => exact HC0_4.out)
        rintro e w19 ⟨rfl, hb⟩
        have HS5_ := (hb.cell (World.block_lt_of_cell? _ _ (hHeld.2.2.2.2.2))).trans (hHeld.2.2.2.2.2)
        refine ⟨_, rfl, ?_⟩
        replace HO_4 := a_ (Kd.R_below (ra_ HO_4.out) hb)
        replace HO_5 := a_ (Kd.R_below (ra_ HO_5.out) hb)
        replace BK350 := a_ (blk_below (g := gb350) (rb_ BK350.out) hb)
        replace HB := a_ (below_step z25_ hb)
        (try clear hb)
        (try clear hb2)
        (try clear hk)
        (try clear hi)
        refine hK.out _ _ ⟨(blk_cell BK350.out 0).trans rfl, (blk_cell BK350.out 1).trans rfl, (blk_cell BK350.out 2).trans rfl, (blk_cell BK350.out 3).trans rfl, (blk_cell BK350.out 4).trans rfl, HS5_⟩ (fun hHeld => ?_)
        clear hK K
        refine nm_ ?_
        refine done_ (by kernel_rfl) ?_
        have p360 : 0 ≤ (x6_1 : Int) := of_decide_eq_true z80_
        have q360 : x6_1 < (t352.length : Int) := of_decide_eq_true z80_
        obtain ⟨ad360, e360, hx360_0⟩ := Kd.at_string (Kd.R_reads' HO_4.out).2.2 x6_1 p360 q360
        obtain rfl : ad358 = ad360 := (by injection e360)
        replace p360 := eq_true p360
        replace q360 := eq_true q360
        try go_wp2_with (first | ((with_reducible refine gate_builtin (b := .append) (xs := #[.tmp 28, .tmp 33]) rfl ?_); at_builtin; refine Kd.R_append Kd.string (w0 := w) w.heap.size rfl (.tmp 28) (.tmp 33) 42 9 (.string ⟨#[]⟩) 16 rfl Try.underlying42 info9 rfl (by decide) (by omega) u5 x5_1 (rdOf ByteArray.empty t352 x6_1) [.string (rdOf ByteArray.empty t352 x6_1)] (fun k_ => some k_ ≠ (.slice (some ad358) t352.length co17 : Value).ownBlock) (fun _ => False) rfl rfl ?aP (fun _ hk => hk.elim) ?aF ?aO ?aB ?aS ?aL ?_; (case aP => exact rfl); (case aB => exact z25_); (case aF => exact (fun k_ hk => Kd.fresh' (Kd.R_lt (ra_ HO_4.out)) k_ hk)); (case aO => exact (ra_ HO_5.out)); (case aS => exact (below_size z25_)); (case aL => have := LMc16.out; omega); intro v362 w20 ho hb hg hat; rw [← Ny361.out] at ho; replace HO_4 := a_ (Kd.R_after (ok := (fun _ => True)) (rc_ (h := by exact Kd.R_mono HO_4.out (fun _ hk => ⟨trivial, hk⟩))) hg hat); replace BK350 := a_ (blk_grown (g := gb350) (rb_ BK350.out) hg (Kd.R_ne HO_5.out BK350.out (by decide))); replace HB := a_ (hb); have HO363 := a_ (ho); clear HO_5; clear ho hb hg hat))
        go_roundg k1
        case measure => have := HK1.out; omega
        case rel => exact ⟨(y361), (wrap64 (x6_1 + 1)), z81_, H', ⟨z85_⟩, ⟨by (with_reducible repeat (first | apply Kd.R_alloc | apply Kd.R_drewN | apply Kd.R_drew)); exact Kd.R_mono HO_4.out (fun _ hk => hk.2)⟩, ⟨by (with_reducible repeat (first | apply Kd.R_alloc | apply Kd.R_drewN | apply Kd.R_drew)); exact HO363.out⟩, ⟨z56_⟩, ⟨z25_⟩⟩
       ·rw [if_neg c16] at H
        exact absurd H (by simp)
      ·replace c15 := Bool.eq_false_iff.mpr c15
       subst c15
       have H1 : (spec_SchemesFor.l0 k1 t352 x5_1 (wrap64 (x6_1 + 1)) a0_0 a0_1 l0_2 l0_3 l0_4) = some (r1, r2) := by rw [if_neg (show ¬ (false = true) by decide)] at H; exact H
       clear H
       have H := H1
       clear H1
       have H' := Aside0.mk H
       clear H
       obtain ⟨Ao21, co21, eo21⟩ := Kd.R_slice HO_4.out
       subst eo21
       try go_wp2
       replace HO_4 := a_ (Kd.R_drew HO_4.out)
       replace HO_5 := a_ (Kd.R_drew HO_5.out)
       replace BK350 := a_ (blk_drew BK350.out)
       replace HB := a_ (below_drew1 HB.out)
       have p358 : 0 ≤ (x6_1 : Int) := of_decide_eq_true z80_
       have q358 : x6_1 < (t352.length : Int) := of_decide_eq_true z80_
       obtain ⟨ad358, e358, hx358_0⟩ := Kd.at_string (Kd.R_reads' HO_4.out).2.2 x6_1 p358 q358
       cases e358
       replace p358 := eq_true p358
       replace q358 := eq_true q358
       refine start_ (n := 6) (S := fun w' => w'.cell? ⟨gb350, 0, none⟩ = some (.int .i64 a0_0) ∧ w'.cell? ⟨gb350, 1, none⟩ = some (.int .i64 a0_1) ∧ w'.cell? ⟨gb350, 2, none⟩ = some (.slice A0_2 l0_2.length c0_2) ∧ w'.cell? ⟨gb350, 3, none⟩ = some (.slice A0_3 l0_3.length c0_3) ∧ w'.cell? ⟨gb350, 4, none⟩ = some (.slice A0_4 l0_4.length c0_4) ∧ w'.cell? (ad358.add (x6_1).toNat) = some (.string (rdOf ByteArray.empty t352 x6_1))) (ds := []) #[false, false, false, false, false, false] (by kernel_rfl) rfl rfl ⟨(blk_cell BK350.out 0).trans rfl, (blk_cell BK350.out 1).trans rfl, (blk_cell BK350.out 2).trans rfl, (blk_cell BK350.out 3).trans rfl, (blk_cell BK350.out 4).trans rfl, hx358_0⟩ (fun hHeld => ?_)
       generalize wr.drew = w22 at HO_4 HO_5 BK350 HB hx358_0 hHeld ⊢
       refine pu_ (i := 1) (N := some 23) #[false, true, false, false, false, false] ?_ (hc := (by kernel_rfl))
       refine pu_ (i := 2) (N := some 24) #[false, true, true, false, false, false] ?_ (hc := (by kernel_rfl))
       refine pu_ (i := 3) (N := some 25) #[false, true, true, true, false, false] ?_ (hc := (by kernel_rfl))
       refine tk6_ (i := 0) (N := some 22) #[true, true, true, true, false, false] hHeld ?_ (hc := (by kernel_rfl))
       refine tk6_ (i := 4) (N := some 26) #[true, true, true, true, true, false] hHeld ?_ (hc := (by kernel_rfl))
       refine one_ (i := 5) (N := some 27) #[true, true, true, true, true, true] rfl rfl (by kernel_rfl) (by decide) (fun K hK => ?_)
       refine goes_ Try.func60 (by kernel_rfl) rfl #[.agg #[.int .i64 a0_0, .int .i64 a0_1, .slice A0_2 l0_2.length c0_2, .slice A0_3 l0_3.length c0_3, .slice A0_4 l0_4.length c0_4], .string (rdOf ByteArray.empty t352 x6_1)] (by rfl) rfl rfl z34_ ?_
       with_reducible refine (spec_l05Right.calls k1 a0_0 a0_1 _ _ l0_2 _ _ l0_3 _ _ l0_4 (rdOf ByteArray.empty t352 x6_1) false _ ?side1 ?side2 ?side3 ?side4 ?side5 ?side6 A14.out).mono ?_
       (case side1 => exact kc_ (Kd.C_below HR0_2.out HB.out))
       (case side2 => exact HC0_2.out)
       (case side3 => exact kc_ (Kd.C_below HR0_3.out HB.out))
       (case side4 => exact HC0_3.out)
       (case side5 => exact kc_ (Kd.C_below HR0_4.out HB.out))
       (case side6 => exact HC0_4.out)
       rintro e w23 ⟨rfl, hb⟩
       have HS5_ := (hb.cell (World.block_lt_of_cell? _ _ (hHeld.2.2.2.2.2))).trans (hHeld.2.2.2.2.2)
       refine ⟨_, rfl, ?_⟩
       replace HO_4 := a_ (Kd.R_below (ra_ HO_4.out) hb)
       replace HO_5 := a_ (Kd.R_below (ra_ HO_5.out) hb)
       replace BK350 := a_ (blk_below (g := gb350) (rb_ BK350.out) hb)
       replace HB := a_ (below_step z25_ hb)
       (try clear hb)
       (try clear hb2)
       (try clear hk)
       (try clear hi)
       refine hK.out _ _ ⟨(blk_cell BK350.out 0).trans rfl, (blk_cell BK350.out 1).trans rfl, (blk_cell BK350.out 2).trans rfl, (blk_cell BK350.out 3).trans rfl, (blk_cell BK350.out 4).trans rfl, HS5_⟩ (fun hHeld => ?_)
       clear hK K
       refine nm_ ?_
       refine done_ (by kernel_rfl) ?_
       try go_wp2
       go_roundg k1
       case measure => have := HK1.out; omega
       case rel => exact ⟨(x5_1), (wrap64 (x6_1 + 1)), z81_, H', ⟨z85_⟩, ⟨z65_⟩, ⟨z67_⟩, ⟨z56_⟩, ⟨z25_⟩⟩
     ·rw [if_neg c13] at H
      exact absurd H (by simp)
    ·rw [if_neg c12] at H
     have c12b0 : decide (x6_1 < (t352.length : Int)) = false := decide_eq_false c12
     clear c12
     simp only [Option.some.injEq, Prod.mk.injEq] at H
     obtain ⟨rfl, rfl⟩ := H
     obtain ⟨Ao24, co24, eo24⟩ := Kd.R_slice HO_4.out
     subst eo24
     go_wp2
     go_ret2
     exact ⟨_, z32_, z35_, z25_⟩
 ·replace c3 := Bool.eq_false_iff.mpr c3
  subst c3
  have H1 : (some (([] : List ByteArray), 1)) = some (r1, r2) := by rw [if_neg (show ¬ (false = true) by decide)] at H; exact H
  clear H
  have H := H1
  clear H1
  simp only [Option.some.injEq, Prod.mk.injEq] at H
  obtain ⟨rfl, rfl⟩ := H
  go_enter Try.func26, Try.ntmps26
  go_wp2_with (first | ((with_reducible refine gate_dst (N := 1) rfl ?_); refine box_event ?hg (N := 1) ?hd (cs := #[.int .i64 a0_0, .int .i64 a0_1, .slice A0_2 l0_2.length c0_2, .slice A0_3 l0_3.length c0_3, .slice A0_4 l0_4.length c0_4]) (t := 27) ?hr ?_; (case hd => rfl); (case hg => rfl); (case hr => first | (go_simp; done) | (go_simp; rfl)); intro gb350 hg w25 hbox hb; have BK350 := a_ (hbox); have GW350 := a_ ((z30_ : w.heap.size ≤ gb350)); have GE350 := a_ ((z30_ : w.heap.size ≤ gb350)); replace HB := a_ (below_step z31_ hb); clear hb hbox hg; obtain ⟨hcz26_0, hcz26_1, hcz26_2, hcz26_3, hcz26_4, hfz26_0, hfz26_1, hfz26_2, hfz26_3, hfz26_4⟩ := cz5_ (w := w25) BK350.out) | ((with_reducible refine gate_callee (f := 10) rfl ?_); refine goesL_ (some 8) rfl rfl Try.func10 (by kernel_rfl) rfl #[.agg #[.int .i64 a0_0, .int .i64 a0_1, .slice A0_2 l0_2.length c0_2, .slice A0_3 l0_3.length c0_3, .slice A0_4 l0_4.length c0_4]] rfl z34_ ?_; (with_reducible refine (spec_IsForm.calls k a0_0 a0_1 _ _ l0_2 _ _ l0_3 _ _ l0_4 false _ ?side1 ?side2 ?side3 ?side4 ?side5 ?side6 A2.out).mono ?_); (case side1 => exact kc_ (Kd.C_below HR0_2.out HB.out)); (case side2 => exact HC0_2.out); (case side3 => exact kc_ (Kd.C_below HR0_3.out HB.out)); (case side4 => exact HC0_3.out); (case side5 => exact kc_ (Kd.C_below HR0_4.out HB.out)); (case side6 => exact HC0_4.out); rintro e w27 ⟨rfl, hb⟩; refine ⟨_, rfl, ?_⟩; replace BK350 := a_ (blk_below (g := gb350) (rb_ BK350.out) hb); replace HB := a_ (below_step z25_ hb); (try clear hb); (try clear hb2); (try clear hk); (try clear hi)))
  go_ret2
  exact ⟨_, z32_, by first | exact Kd.R_nil _ _ _ _ _ | exact Kd.N_nil _ _ _ _ _ | exact Kd.V_nil _ _ _ _ _ | exact Kd.Q_nil _ _ _ _ _ | exact Kd.S_nil _ _ _ _ _, z25_⟩

/-! ### impl_isSide: function 67 -/
def impl_isSide.f (a0 : Int) : Option (Bool) := if a0 = 1 then (some true) else (if a0 = 2 then (some true) else (if a0 = 4 then (some true) else (some (a0 == 8))))
set_option maxHeartbeats 8000000 in
set_option maxRecDepth 100000 in
theorem impl_isSide.calls (a0 : Int) (r : Bool) (w : World) (h : impl_isSide.f a0 = some r) :
  Calls Try.prog 67 #[.int .i64 a0] w fun e w' => e = .returned (.bool r) ∧ Drawn0 w w' := by
 have H : (if a0 = 1 then (some true) else (if a0 = 2 then (some true) else (if a0 = 4 then (some true) else (some (a0 == 8))))) = some r := h
 clear h
 by_cases c2 : a0 = 1
 ·rw [if_pos c2] at H
  have c2b0 : (a0 == 1) = true := beq_iff_eq.mpr c2
  have c2b1 : (a0 != 1) = false := bne_eq_false_iff_eq.mpr c2
  clear c2
  obtain rfl := Option.some.inj H
  go_enter Try.func67, Try.ntmps67
  go_wp2
  go_ret
  exact ⟨z70_, z76_⟩
 ·rw [if_neg c2] at H
  have c2b0 : (a0 == 1) = false := beq_eq_false_iff_ne.mpr c2
  have c2b1 : (a0 != 1) = true := bne_iff_ne.mpr c2
  by_cases c3 : a0 = 2
  ·rw [if_pos c3] at H
   have c3b0 : (a0 == 2) = true := beq_iff_eq.mpr c3
   have c3b1 : (a0 != 2) = false := bne_eq_false_iff_eq.mpr c3
   clear c3
   obtain rfl := Option.some.inj H
   go_enter Try.func67, Try.ntmps67
   go_wp2
   go_ret
   exact ⟨z70_, z76_⟩
  ·rw [if_neg c3] at H
   have c3b0 : (a0 == 2) = false := beq_eq_false_iff_ne.mpr c3
   have c3b1 : (a0 != 2) = true := bne_iff_ne.mpr c3
   by_cases c4 : a0 = 4
   ·rw [if_pos c4] at H
    have c4b0 : (a0 == 4) = true := beq_iff_eq.mpr c4
    have c4b1 : (a0 != 4) = false := bne_eq_false_iff_eq.mpr c4
    clear c4
    obtain rfl := Option.some.inj H
    go_enter Try.func67, Try.ntmps67
    go_wp2
    go_ret
    exact ⟨z70_, z76_⟩
   ·rw [if_neg c4] at H
    have c4b0 : (a0 == 4) = false := beq_eq_false_iff_ne.mpr c4
    have c4b1 : (a0 != 4) = true := bne_iff_ne.mpr c4
    obtain rfl := Option.some.inj H
    go_enter Try.func67, Try.ntmps67
    go_wp2
    go_ret
    exact ⟨z70_, z76_⟩

/-! ### impl_isSheet: function 39 -/
def impl_isSheet.f (a0 : Int) (a1 : Int) : Option (Bool) := (impl_isSide.f a0).bind fun t364 => (if t364 = true then ((impl_isSide.f a1).bind fun t365 => (some t365)) else (some false))
set_option maxHeartbeats 8000000 in
set_option maxRecDepth 100000 in
theorem impl_isSheet.calls (a0 : Int) (a1 : Int) (r : Bool) (w : World) (h : impl_isSheet.f a0 a1 = some r) :
  Calls Try.prog 39 #[.int .i64 a0, .int .i64 a1] w fun e w' => e = .returned (.bool r) ∧ Drawn0 w w' := by
 have H : ((impl_isSide.f a0).bind fun t364 => (if t364 = true then ((impl_isSide.f a1).bind fun t365 => (some t365)) else (some false))) = some r := h
 clear h
 replace H := Option.bind_eq_some_iff.mp H
 obtain ⟨t364, A30, H⟩ := H
 replace H : (if t364 = true then ((impl_isSide.f a1).bind fun t365 => (some t365)) else (some false)) = some r := H
 have A3 := Aside0.mk A30
 clear A30
 by_cases c4 : t364 = true
 ·subst c4
  have H1 : ((impl_isSide.f a1).bind fun t365 => (some t365)) = some r := by rw [if_pos rfl] at H; exact H
  clear H
  have H := H1
  clear H1
  replace H := Option.bind_eq_some_iff.mp H
  obtain ⟨t365, A50, H⟩ := H
  replace H : (some t365) = some r := H
  have A5 := Aside0.mk A50
  clear A50
  obtain rfl := Option.some.inj H
  go_enter Try.func39, Try.ntmps39
  go_wp2_with (first | ((with_reducible refine gate_callee (f := 67) rfl ?_); refine goesL_ (some 6) rfl rfl Try.func67 (by kernel_rfl) rfl #[.int .i64 a0] rfl z34_ ?_; (with_reducible refine (impl_isSide.calls a0 true _ A3.out).mono ?_); rintro e w' ⟨rfl, ⟨nd, rfl⟩⟩; refine ⟨_, rfl, ?_⟩) | (go_at_call 67; (with_reducible refine (impl_isSide.calls a1 t365 _ A5.out).mono ?_); rintro e w' ⟨rfl, ⟨nd, rfl⟩⟩))
  go_ret
  exact ⟨z70_, z76_⟩
 ·replace c4 := Bool.eq_false_iff.mpr c4
  subst c4
  have H1 : (some false) = some r := by rw [if_neg (show ¬ (false = true) by decide)] at H; exact H
  clear H
  have H := H1
  clear H1
  obtain rfl := Option.some.inj H
  go_enter Try.func39, Try.ntmps39
  go_wp2_with (first | ((with_reducible refine gate_callee (f := 67) rfl ?_); refine goesL_ (some 6) rfl rfl Try.func67 (by kernel_rfl) rfl #[.int .i64 a0] rfl z34_ ?_; (with_reducible refine (impl_isSide.calls a0 false _ A3.out).mono ?_); rintro e w' ⟨rfl, ⟨nd, rfl⟩⟩; refine ⟨_, rfl, ?_⟩))
  go_ret
  exact ⟨z70_, z76_⟩

/-! ### impl_length_int64: function 40 -/
def impl_length_int64.f (l0 : List Int) : Option (Int) := some (l0.length : Int)
set_option maxHeartbeats 8000000 in
set_option maxRecDepth 100000 in
theorem impl_length_int64.calls (A0 : Option Addr) (c0 : Nat) (l0 : List Int) (r : Int) (w : World) (hr0 : Kd.C (Kd.int .i64) w A0 l0.length l0) (hc0 : l0.length ≤ c0) (h : impl_length_int64.f l0 = some r) :
  Calls Try.prog 40 #[.slice A0 l0.length c0] w fun e w' => e = .returned (.int .i64 r) ∧ Drawn0 w w' := by
 have HR0 := Aside0.mk hr0
 have HC0 := Aside0.mk hc0
 clear hr0 hc0
 have H : (some (l0.length : Int)) = some r := h
 clear h
 obtain rfl := Option.some.inj H
 go_enter Try.func40, Try.ntmps40
 go_wp2
 go_ret
 exact ⟨z70_, z76_⟩

-- NOT PRINTED: function 81 (slices_IndexFunc_int64_int64)

-- NOT PRINTED: function 68 (slices_ContainsFunc_int64_int64)

/-! ### impl_inRange: function 45 -/
def impl_inRange.f (a0 : Int) (a1 : Int) (a2 : Int) : Option (Bool) := if a1 ≤ a0 then (some (decide (a0 ≤ a2))) else (some false)
set_option maxHeartbeats 8000000 in
set_option maxRecDepth 100000 in
theorem impl_inRange.calls (a0 : Int) (a1 : Int) (a2 : Int) (r : Bool) (w : World) (h : impl_inRange.f a0 a1 a2 = some r) :
  Calls Try.prog 45 #[.int .i64 a0, .int .i64 a1, .int .i64 a2] w fun e w' => e = .returned (.bool r) ∧ Drawn0 w w' := by
 have H : (if a1 ≤ a0 then (some (decide (a0 ≤ a2))) else (some false)) = some r := h
 clear h
 by_cases c4 : a1 ≤ a0
 ·rw [if_pos c4] at H
  have c4b0 : decide (a1 ≤ a0) = true := decide_eq_true c4
  clear c4
  obtain rfl := Option.some.inj H
  go_enter Try.func45, Try.ntmps45
  go_wp2
  go_ret
  exact ⟨z70_, z76_⟩
 ·rw [if_neg c4] at H
  have c4b0 : decide (a1 ≤ a0) = false := decide_eq_false c4
  clear c4
  obtain rfl := Option.some.inj H
  go_enter Try.func45, Try.ntmps45
  go_wp2
  go_ret
  exact ⟨z70_, z76_⟩

-- NOT PRINTED: function 69 (impl_allIn_1)

/-! ### impl_allIn -/
def allIn_out (lo hi n : Int) : Bool := !(decide (lo ≤ n ∧ n ≤ hi))
theorem allIn_range (n lo hi : Int) : impl_inRange.f n lo hi = some (!(allIn_out lo hi n)) := by
 unfold impl_inRange.f allIn_out
 by_cases h : lo ≤ n
 ·rw [if_pos h]; simp [h]
 ·rw [if_neg h]; simp [h]
def allIn_idx (p : Int → Bool) : List Int → Int → Int
 | [], _ => -1
 | x :: t, i => if p x = true then i else allIn_idx p t (i + 1)
theorem allIn_idx_nonneg (p : Int → Bool) : ∀ (l : List Int) (i : Int), 0 ≤ i → (decide (allIn_idx p l i ≥ 0)) = l.any p
 | [], i, h => rfl
 | x :: t, i, h => by
  unfold allIn_idx
  by_cases hx : p x = true
  ·rw [if_pos hx, List.any_cons, hx, Bool.true_or]; exact decide_eq_true h
  ·rw [if_neg hx, List.any_cons, Bool.eq_false_iff.mpr hx, Bool.false_or]; exact allIn_idx_nonneg p t (i + 1) (by omega)
def impl_allIn.f (l0 : List Int) (a1 : Int) (a2 : Int) : Option Bool := some (!(l0.any (allIn_out a1 a2)))
set_option maxHeartbeats 2000000 in
theorem impl_allIn.closure (b1 b2 : Nat) (lo hi n : Int) (w : World) (h1 : w.cell? ⟨b1, 0, none⟩ = some (.int .i64 lo)) (h2 : w.cell? ⟨b2, 0, none⟩ = some (.int .i64 hi)) :
  Calls Try.prog 69 #[.int .i64 n, .pointer (some ⟨b1, 0, none⟩), .pointer (some ⟨b2, 0, none⟩)] w fun e w' => e = .returned (.bool (allIn_out lo hi n)) ∧ Drawn0 w w' := by
 go_enter Try.func69, Try.ntmps69
 go_wp2_with (go_at_call 45; (with_reducible refine (impl_inRange.calls n lo hi _ _ (allIn_range n lo hi)).mono ?_); rintro e w' ⟨rfl, ⟨nd, rfl⟩⟩)
 go_ret
 exact ⟨by simp, ⟨_, rfl⟩⟩
set_option maxHeartbeats 4000000 in
theorem impl_allIn.index (b1 b2 : Nat) (lo hi : Int) (A0 : Option Addr) (c0 : Nat) (l0 : List Int) (w : World) (h1 : w.cell? ⟨b1, 0, none⟩ = some (.int .i64 lo)) (h2 : w.cell? ⟨b2, 0, none⟩ = some (.int .i64 hi)) (hr0 : Kd.C (Kd.int .i64) w A0 l0.length l0) (hc0 : l0.length ≤ c0) :
  Calls Try.prog 81 #[.slice A0 l0.length c0, .func (.func 69) #[] #[.pointer (some ⟨b1, 0, none⟩), .pointer (some ⟨b2, 0, none⟩)]] w fun e w' => e = .returned (.int .i64 (allIn_idx (allIn_out lo hi) l0 0)) ∧ Drawn0 w w' := by
 have hlm : l0.length ≤ 9223372036854775807 := (Kd.reads_of_C (d := (0 : Int)) hr0).2.1
 have HR0 := Aside0.mk hr0
 have HC0 := Aside0.mk hc0
 clear hr0 hc0
 go_enter Try.func81, Try.ntmps81
 go_wp2
 go_loopg [8] (l0.length + 1) (fun kq v8 w' => ∃ (i : Nat), v8 = .int .i64 (i : Int) ∧ Aside0 (i + kq = l0.length + 1 ∧ i ≤ l0.length) ∧ Aside0 (allIn_idx (allIn_out lo hi) (l0.drop i) i = allIn_idx (allIn_out lo hi) l0 0) ∧ Drawn0 w w')
 case atStart => exact ⟨0, rfl, ⟨by omega, by omega⟩, ⟨by simp⟩, Drawn0.refl _⟩
 case round =>
  obtain ⟨i, rfl, HK, HD, ⟨m, rfl⟩⟩ := hrel
  cases gk with
  | zero =>
   exact absurd HK.out (fun h => by omega)
  | succ k1 =>
   by_cases hlt : i < l0.length
   ·obtain ⟨ad, e, hx⟩ := Kd.at_int HR0.out (i : Int) (by omega) (by omega)
    cases e
    rw [Int.toNat_natCast] at hx
    have hd : l0.drop i = rd l0 (i : Int) :: l0.drop (i + 1) := by
     rw [List.drop_eq_getElem_cons hlt]
     simp [rd, List.getD_eq_getElem?_getD, hlt]
    have HD2 := HD.out
    rw [hd, allIn_idx] at HD2
    have HE := Aside0.mk HD2
    clear HD HD2 hd
    go_wp2_with fail
    refine (impl_allIn.closure b1 b2 lo hi (rd l0 (i : Int)) _ (by go_simp) (by go_simp)).mono ?_
    rintro e w' ⟨rfl, ⟨nd, rfl⟩⟩
    generalize hp : allIn_out lo hi (rd l0 (i : Int)) = q at HE ⊢
    cases q with
    | true =>
     have HD2 := HE.out
     rw [if_pos rfl] at HD2
     have HF := Aside0.mk HD2
     clear HE HD2 hp
     go_wp2
     go_ret
     rw [← HF.out]
     exact ⟨rfl, ⟨_, rfl⟩⟩
    | false =>
     have HD2 := HE.out
     rw [if_neg (by simp)] at HD2
     have HF := Aside0.mk HD2
     clear HE HD2 hp
     go_wp2
     go_roundg k1
     case measure => omega
     case rel => exact ⟨i + 1, by go_num, ⟨by have := HK.out; omega⟩, ⟨by rw [← HF.out]; rfl⟩, ⟨_, rfl⟩⟩
   ·have HD2 := HD.out
    rw [List.drop_of_length_le (by omega)] at HD2
    have HF := Aside0.mk HD2
    clear HD HD2
    go_wp2
    go_ret
    rw [← HF.out]
    exact ⟨rfl, ⟨_, rfl⟩⟩
set_option maxHeartbeats 4000000 in
theorem impl_allIn.contains (b1 b2 : Nat) (lo hi : Int) (A0 : Option Addr) (c0 : Nat) (l0 : List Int) (w : World) (h1 : w.cell? ⟨b1, 0, none⟩ = some (.int .i64 lo)) (h2 : w.cell? ⟨b2, 0, none⟩ = some (.int .i64 hi)) (hr0 : Kd.C (Kd.int .i64) w A0 l0.length l0) (hc0 : l0.length ≤ c0) :
  Calls Try.prog 68 #[.slice A0 l0.length c0, .func (.func 69) #[] #[.pointer (some ⟨b1, 0, none⟩), .pointer (some ⟨b2, 0, none⟩)]] w fun e w' => e = .returned (.bool (l0.any (allIn_out lo hi))) ∧ Drawn0 w w' := by
 have HX := a_ (impl_allIn.index b1 b2 lo hi A0 c0 l0 w h1 h2 hr0 hc0)
 have HN := a_ (allIn_idx_nonneg (allIn_out lo hi) l0 0 (by omega))
 clear hr0 hc0
 go_enter Try.func68, Try.ntmps68
 go_wp2_with (go_at_call 81; (with_reducible refine HX.out.mono ?_); rintro e w' ⟨rfl, ⟨nd, rfl⟩⟩)
 go_ret
 rw [← HN.out]
 exact ⟨rfl, ⟨_, rfl⟩⟩
set_option maxHeartbeats 4000000 in
theorem impl_allIn.calls (A0 : Option Addr) (c0 : Nat) (l0 : List Int) (a1 : Int) (a2 : Int) (r : Bool) (w : World) (hr0 : Kd.C (Kd.int .i64) w A0 l0.length l0) (hc0 : l0.length ≤ c0) (h : impl_allIn.f l0 a1 a2 = some r) :
  Calls Try.prog 41 #[.slice A0 l0.length c0, .int .i64 a1, .int .i64 a2] w fun e w' => e = .returned (.bool r) ∧ Below w.heap.size w w' := by
 have hh := Option.some.inj h
 have HF := Aside0.mk hh
 have HR0 := Aside0.mk hr0
 have HC0 := Aside0.mk hc0
 clear hr0 hc0 h hh
 go_enter Try.func41, Try.ntmps41
 go_wp2_with (go_at_call 68; (with_reducible refine (impl_allIn.contains w.heap.size (w.heap.size + 1) a1 a2 A0 c0 l0 _ ?s1 ?s2 ?s3 HC0.out).mono ?_); (case s1 => go_simp); (case s2 => go_simp); (case s3 => exact Kd.C_alloc (Kd.C_alloc HR0.out _) _); rintro e w' ⟨rfl, ⟨nd, rfl⟩⟩)
 go_ret
 rw [← HF.out]
 exact ⟨by first | rfl | (simp; done), by repeat (first | (with_reducible first | exact Below.refl _ _ | apply below_alloc | apply pw_below_drewN | apply below_drew1) | exact Below.refl _ _)⟩

-- NOT PRINTED: function 82 (slices_AppendSeq_int64_int64)

-- NOT PRINTED: function 70 (slices_Collect_int64)

-- NOT PRINTED: function 115 (cmp_isNaN_int64)

-- NOT PRINTED: function 100 (cmp_Less_int64)

-- NOT PRINTED: function 94 (slices_insertionSortOrdered_int64)

-- NOT PRINTED: function 110 (slices_siftDownOrdered_int64)

-- NOT PRINTED: function 95 (slices_heapSortOrdered_int64)

-- NOT PRINTED: function 103 (bits_Len32)

-- NOT PRINTED: function 104 (bits_Len64)

-- NOT PRINTED: function 84 (bits_Len)

-- NOT PRINTED: function 111 (slices_nextPowerOfTwo)

-- NOT PRINTED: function 112 (slices_xorshift_Next)

-- NOT PRINTED: function 96 (slices_breakPatternsOrdered_int64)

-- NOT PRINTED: function 120 (slices_order2Ordered_int64)

-- NOT PRINTED: function 114 (slices_medianOrdered_int64)

-- NOT PRINTED: function 113 (slices_medianAdjacentOrdered_int64)

-- NOT PRINTED: function 97 (slices_choosePivotOrdered_int64)

-- NOT PRINTED: function 98 (slices_reverseRangeOrdered_int64)

-- NOT PRINTED: function 99 (slices_partialInsertionSortOrdered_int64)

-- NOT PRINTED: function 101 (slices_partitionEqualOrdered_int64)

-- NOT PRINTED: function 102 (slices_partitionOrdered_int64)

-- NOT PRINTED: function 83 (slices_pdqsortOrdered_int64)

-- NOT PRINTED: function 71 (slices_Sort_int64_int64)

end Go.Proofs.Ytkpidjmhdagkfaa.QFnExactSchemesFor
-- halved
