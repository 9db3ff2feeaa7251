-- Written by own_print.py of this session's repo over the kit's print (its output, turned at some places).
import Derived.Test.YtkpidjmhdagkfaaGreatDoorQFnExactReadFormx0
import Derived.Test.YtkpidjmhdagkfaaGreatDoorQFnExactReadFormx1
import Derived.Test.YtkpidjmhdagkfaaGreatDoorQFnExactReadFormx2
namespace Go.Proofs.YtkpidjmhdagkfaaGreatDoor.QFnExactReadForm
open Go.RowKit Go.Proofs.YtkpidjmhdagkfaaGreatDoorW.PrintWords Go.Proofs.YtkpidjmhdagkfaaGreatDoorW.PrintLast Go.Proofs.YtkpidjmhdagkfaaGreatDoorW.PrintMore
attribute [local go_sem] max2_int min2_int max_two min_two max_three min_three max_four min_four   -- for this text's walks alone
set_option linter.unusedVariables false
set_option linter.unusedSimpArgs false

/-! ### impl_IsForm: function 20 -/
mutual
def impl_IsForm.j0 : Nat → Bool → Int → Int → List Int → List Int → List Int → Option (Bool)
 | 0, _, _, _, _, _, _ => none
 | k + 1, x42, x140000, x140001, x140002, x140003, x140004 => if x42 = true then (some false) else ((slices_Concat_int64_int64.f k (([x140002, x140003] : List (List Int)))).bind fun t148 => ((slices_Sorted_int64.f t148).bind fun t151 => (impl_IsForm.l0 k t151 t151 (t151.length : Int) 0)))
def impl_IsForm.l0 : Nat → List Int → List Int → Int → Int → Option (Bool)
 | 0, _, _, _, _ => none
 | k + 1, x4, x51, x52, x53 => if x53 < x52 then (if 0 ≤ x53 then (if x53 < (x51.length : Int) then (if 0 < (x4.length : Int) then ((impl_inRange.f (rd x4 0) 1 1000000000).bind fun t156 => (if t156 = true then (if (rd x51 x53) = (wrap64 ((rd x4 0) + x53)) then (impl_IsForm.l0 k x4 x51 x52 (wrap64 (x53 + 1))) else (some false)) else (some false))) else (none)) else (none)) else (none)) else (some true)
end
def impl_IsForm.f (k : Nat) (a0_0 : Int) (a0_1 : Int) (l0_2 : List Int) (l0_3 : List Int) (l0_4 : List Int) : Option (Bool) := (impl_isSheet.f a0_0 a0_1).bind fun t140 => (if t140 = true then ((impl_length_int64.f l0_2).bind fun t141 => (if t141 = (wrap64 (a0_0 * a0_1)) then ((impl_length_int64.f l0_3).bind fun t142 => (if t142 = (wrap64 (a0_0 * a0_1)) then ((impl_length_int64.f l0_4).bind fun t143 => (if t143 = (wrap64 (a0_0 * a0_1)) then ((impl_allIn.f l0_4 0 1).bind fun t144 => (impl_IsForm.j0 k (!t144) a0_0 a0_1 l0_2 l0_3 l0_4)) else (impl_IsForm.j0 k true a0_0 a0_1 l0_2 l0_3 l0_4))) else (impl_IsForm.j0 k true a0_0 a0_1 l0_2 l0_3 l0_4))) else (impl_IsForm.j0 k true a0_0 a0_1 l0_2 l0_3 l0_4))) else (some false))
theorem impl_IsForm.mono_l : ∀ k, (∀ y0 y1 y2 y3 y4 y5, LeO (impl_IsForm.j0 k y0 y1 y2 y3 y4 y5) (impl_IsForm.j0 (k + 1) y0 y1 y2 y3 y4 y5)) ∧ (∀ y0 y1 y2 y3, LeO (impl_IsForm.l0 k y0 y1 y2 y3) (impl_IsForm.l0 (k + 1) y0 y1 y2 y3))
 | 0 => ⟨fun _ _ _ _ _ _ r h => by simp [impl_IsForm.j0] at h, fun _ _ _ _ r h => by simp [impl_IsForm.l0] at h⟩
 | k + 1 => by
  obtain ⟨ih0, ih1⟩ := impl_IsForm.mono_l k
  refine ⟨?_, ?_⟩
  ·intro y0 y1 y2 y3 y4 y5
   unfold impl_IsForm.j0
   repeat' first
   | (with_reducible exact ih0 _ _ _ _ _ _)
   | (with_reducible exact ih1 _ _ _ _)
   | (with_reducible exact slices_Concat_int64_int64.mono _ _)
   | (with_reducible exact LeO.refl _)
   | (with_reducible exact LeO.none _)
   | (with_reducible refine LeO.ite ?_ ?_)
   | (with_reducible refine LeO.bind ?_ (fun _ => ?_))
   | exact ih0 _ _ _ _ _ _
   | exact ih1 _ _ _ _
   | exact slices_Concat_int64_int64.mono _ _
   | exact LeO.none _
   | refine LeO.ite ?_ ?_
   | refine LeO.bind ?_ (fun _ => ?_)
  ·intro y0 y1 y2 y3
   unfold impl_IsForm.l0
   repeat' first
   | (with_reducible exact ih0 _ _ _ _ _ _)
   | (with_reducible exact ih1 _ _ _ _)
   | (with_reducible exact slices_Concat_int64_int64.mono _ _)
   | (with_reducible exact LeO.refl _)
   | (with_reducible exact LeO.none _)
   | (with_reducible refine LeO.ite ?_ ?_)
   | (with_reducible refine LeO.bind ?_ (fun _ => ?_))
   | exact ih0 _ _ _ _ _ _
   | exact ih1 _ _ _ _
   | exact slices_Concat_int64_int64.mono _ _
   | exact LeO.none _
   | refine LeO.ite ?_ ?_
   | refine LeO.bind ?_ (fun _ => ?_)
theorem impl_IsForm.mono : ∀ a0 a1 a2 a3 a4 k, LeO (impl_IsForm.f k a0 a1 a2 a3 a4) (impl_IsForm.f (k + 1) a0 a1 a2 a3 a4) := by
 intro a0 a1 a2 a3 a4 k
 obtain ⟨ih0, ih1⟩ := impl_IsForm.mono_l k
 unfold impl_IsForm.f
 repeat' first
   | (with_reducible exact ih0 _ _ _ _ _ _)
   | (with_reducible exact ih1 _ _ _ _)
   | (with_reducible exact slices_Concat_int64_int64.mono _ _)
   | (with_reducible exact LeO.refl _)
   | (with_reducible exact LeO.none _)
   | (with_reducible refine LeO.ite ?_ ?_)
   | (with_reducible refine LeO.bind ?_ (fun _ => ?_))
   | exact ih0 _ _ _ _ _ _
   | exact ih1 _ _ _ _
   | exact slices_Concat_int64_int64.mono _ _
   | exact LeO.none _
   | refine LeO.ite ?_ ?_
   | refine LeO.bind ?_ (fun _ => ?_)
set_option maxHeartbeats 8000000 in
set_option maxRecDepth 100000 in
theorem impl_IsForm.calls (k : Nat) (a0_0 : Int) (a0_1 : Int) (P0_2_ : Nat → Prop) (A0_2 : Option Addr) (c0_2 : Nat) (l0_2 : List Int) (P0_3_ : Nat → Prop) (A0_3 : Option Addr) (c0_3 : Nat) (l0_3 : List Int) (A0_4 : Option Addr) (c0_4 : Nat) (l0_4 : List Int) (r : Bool) (w : World) (hs0_2 : Kd.V (Kd.int .i64) 2 w w.heap.size (fun k_ => P0_2_ k_) (.slice A0_2 l0_2.length c0_2) l0_2) (hs0_3 : Kd.V (Kd.int .i64) 2 w w.heap.size (fun k_ => P0_3_ k_) (.slice A0_3 l0_3.length c0_3) l0_3) (hr0_4 : Kd.C (Kd.int .i64) w A0_4 l0_4.length l0_4) (hc0_4 : l0_4.length ≤ c0_4) (h : impl_IsForm.f k a0_0 a0_1 l0_2 l0_3 l0_4 = some r) :
  Calls Tryz.prog 20 #[.agg #[.int .i64 a0_0, .int .i64 a0_1, .slice A0_2 l0_2.length c0_2, .slice A0_3 l0_3.length c0_3, .slice A0_4 l0_4.length c0_4]] w fun e w' => e = .returned (.bool r) ∧ Below w.heap.size w w' := by
 have hu28 := Tryz.underlying28
 have HO0_2 := a_ (show Kd.V (Kd.int .i64) 2 w w.heap.size (fun k_ => ((P0_2_ k_ ∨ P0_3_ k_) ∨ w.heap.size ≤ k_)) (.slice A0_2 l0_2.length c0_2) l0_2 from Kd.V_mono hs0_2 (fun k_ hk => .inl (.inl hk)))
 have HO0_3 := a_ (show Kd.V (Kd.int .i64) 2 w w.heap.size (fun k_ => ((P0_2_ k_ ∨ P0_3_ k_) ∨ w.heap.size ≤ k_)) (.slice A0_3 l0_3.length c0_3) l0_3 from Kd.V_mono hs0_3 (fun k_ hk => .inl (.inr hk)))
 have HR0_4 := Aside0.mk hr0_4
 have HC0_4 := Aside0.mk hc0_4
 clear hr0_4 hc0_4
 have HB := a_ (Below.refl w.heap.size w)
 have H : ((impl_isSheet.f a0_0 a0_1).bind fun t140 => (if t140 = true then ((impl_length_int64.f l0_2).bind fun t141 => (if t141 = (wrap64 (a0_0 * a0_1)) then ((impl_length_int64.f l0_3).bind fun t142 => (if t142 = (wrap64 (a0_0 * a0_1)) then ((impl_length_int64.f l0_4).bind fun t143 => (if t143 = (wrap64 (a0_0 * a0_1)) then ((impl_allIn.f l0_4 0 1).bind fun t144 => (impl_IsForm.j0 k (!t144) a0_0 a0_1 l0_2 l0_3 l0_4)) else (impl_IsForm.j0 k true a0_0 a0_1 l0_2 l0_3 l0_4))) else (impl_IsForm.j0 k true a0_0 a0_1 l0_2 l0_3 l0_4))) else (impl_IsForm.j0 k true a0_0 a0_1 l0_2 l0_3 l0_4))) else (some false))) = some r := h
 clear h
 replace H := Option.bind_eq_some_iff.mp H
 obtain ⟨t140, A20, H⟩ := H
 replace H : (if t140 = true then ((impl_length_int64.f l0_2).bind fun t141 => (if t141 = (wrap64 (a0_0 * a0_1)) then ((impl_length_int64.f l0_3).bind fun t142 => (if t142 = (wrap64 (a0_0 * a0_1)) then ((impl_length_int64.f l0_4).bind fun t143 => (if t143 = (wrap64 (a0_0 * a0_1)) then ((impl_allIn.f l0_4 0 1).bind fun t144 => (impl_IsForm.j0 k (!t144) a0_0 a0_1 l0_2 l0_3 l0_4)) else (impl_IsForm.j0 k true a0_0 a0_1 l0_2 l0_3 l0_4))) else (impl_IsForm.j0 k true a0_0 a0_1 l0_2 l0_3 l0_4))) else (impl_IsForm.j0 k true a0_0 a0_1 l0_2 l0_3 l0_4))) else (some false)) = some r := H
 have A2 := Aside0.mk A20
 clear A20
 by_cases c3 : t140 = true
 ·subst c3
  have H1 : ((impl_length_int64.f l0_2).bind fun t141 => (if t141 = (wrap64 (a0_0 * a0_1)) then ((impl_length_int64.f l0_3).bind fun t142 => (if t142 = (wrap64 (a0_0 * a0_1)) then ((impl_length_int64.f l0_4).bind fun t143 => (if t143 = (wrap64 (a0_0 * a0_1)) then ((impl_allIn.f l0_4 0 1).bind fun t144 => (impl_IsForm.j0 k (!t144) a0_0 a0_1 l0_2 l0_3 l0_4)) else (impl_IsForm.j0 k true a0_0 a0_1 l0_2 l0_3 l0_4))) else (impl_IsForm.j0 k true a0_0 a0_1 l0_2 l0_3 l0_4))) else (impl_IsForm.j0 k true a0_0 a0_1 l0_2 l0_3 l0_4))) = some r := by rw [if_pos rfl] at H; exact H
  clear H
  have H := H1
  clear H1
  have HC4 := Aside0.mk H
  clear H
  go_enter Tryz.func20, Tryz.ntmps20
  go_upto_region 4 with (first | ((with_reducible refine gate_dst (N := 1) rfl ?_); refine box_event ?hg (N := 1) ?hd (cs := #[.int .i64 a0_0, .int .i64 a0_1, .slice A0_2 l0_2.length c0_2, .slice A0_3 l0_3.length c0_3, .slice A0_4 l0_4.length c0_4]) (t := 28) ?hr ?_; (case hd => rfl); (case hg => rfl); (case hr => first | (go_simp; done) | (go_simp; rfl)); intro gb139 hg w5 hbox hb; replace HO0_2 := a_ (Kd.V_below (Kd.V_elderB z61_ gb139 (Nat.le_of_eq hg.symm)) hb); replace HO0_3 := a_ (Kd.V_below (Kd.V_elderB z62_ gb139 (Nat.le_of_eq hg.symm)) hb); have BK139 := a_ (hbox); have GW139 := a_ ((z32_ : w.heap.size ≤ gb139)); have GE139 := a_ ((z32_ : w.heap.size ≤ gb139)); replace HB := a_ (below_step z33_ hb); clear hb hbox hg; obtain ⟨hcz6_0, hcz6_1, hcz6_2, hcz6_3, hcz6_4, hfz6_0, hfz6_1, hfz6_2, hfz6_3, hfz6_4⟩ := cz5_ (w := w5) BK139.out) | ((with_reducible refine gate_callee (f := 60) rfl ?_); refine goesL_ (some 11) rfl rfl Tryz.func60 (by kernel_rfl) rfl #[.int .i64 a0_0, .int .i64 a0_1] rfl z36_ ?_; (with_reducible refine (impl_isSheet.calls a0_0 a0_1 true _ A2.out).mono ?_); rintro e w' ⟨rfl, ⟨nd, rfl⟩⟩; refine ⟨_, rfl, ?_⟩))
  (try simp only [Act.put, List.setIfInBounds_toArray, List.set_cons_zero, List.set_cons_succ])
  go_cut [42] (fun v42 wc => ∃ (kq : Nat) (x42_3 : Bool), v42 = .bool x42_3 ∧ Aside0 (impl_IsForm.j0 kq x42_3 a0_0 a0_1 l0_2 l0_3 l0_4 = some r) ∧ Aside0 (kq ≤ k) ∧ Aside0 (Kd.V (Kd.int .i64) 2 wc w.heap.size (fun k_ => ((P0_2_ k_ ∨ P0_3_ k_) ∨ w.heap.size ≤ k_) ∧ k_ ≠ gb139) (.slice A0_2 l0_2.length c0_2) l0_2) ∧ Aside0 (Kd.V (Kd.int .i64) 2 wc w.heap.size (fun k_ => ((P0_2_ k_ ∨ P0_3_ k_) ∨ w.heap.size ≤ k_) ∧ k_ ≠ gb139) (.slice A0_3 l0_3.length c0_3) l0_3) ∧ Aside0 (wc.heap[gb139]? = some (.cells #[.int .i64 a0_0, .int .i64 a0_1, (.slice A0_2 l0_2.length c0_2), (.slice A0_3 l0_3.length c0_3), (.slice A0_4 l0_4.length c0_4)] 28 (0, 0))) ∧ Aside0 (Below w.heap.size w wc))
  case first =>
   have H := HC4.out
   clear HC4
   replace H := Option.bind_eq_some_iff.mp H
   obtain ⟨t141, A70, H⟩ := H
   replace H : (if t141 = (wrap64 (a0_0 * a0_1)) then ((impl_length_int64.f l0_3).bind fun t142 => (if t142 = (wrap64 (a0_0 * a0_1)) then ((impl_length_int64.f l0_4).bind fun t143 => (if t143 = (wrap64 (a0_0 * a0_1)) then ((impl_allIn.f l0_4 0 1).bind fun t144 => (impl_IsForm.j0 k (!t144) a0_0 a0_1 l0_2 l0_3 l0_4)) else (impl_IsForm.j0 k true a0_0 a0_1 l0_2 l0_3 l0_4))) else (impl_IsForm.j0 k true a0_0 a0_1 l0_2 l0_3 l0_4))) else (impl_IsForm.j0 k true a0_0 a0_1 l0_2 l0_3 l0_4)) = some r := H
   have A7 := Aside0.mk A70
   clear A70
   by_cases c8 : t141 = (wrap64 (a0_0 * a0_1))
   ·rw [if_pos c8] at H
    have c8b0 : (t141 == (wrap64 (a0_0 * a0_1))) = true := beq_iff_eq.mpr c8
    have c8b1 : (t141 != (wrap64 (a0_0 * a0_1))) = false := bne_eq_false_iff_eq.mpr c8
    clear c8
    (first | rw [c8b0] | (simp only [i64_w, i32_w]; rw [c8b0]) | skip)
    replace H := Option.bind_eq_some_iff.mp H
    obtain ⟨t142, A90, H⟩ := H
    replace H : (if t142 = (wrap64 (a0_0 * a0_1)) then ((impl_length_int64.f l0_4).bind fun t143 => (if t143 = (wrap64 (a0_0 * a0_1)) then ((impl_allIn.f l0_4 0 1).bind fun t144 => (impl_IsForm.j0 k (!t144) a0_0 a0_1 l0_2 l0_3 l0_4)) else (impl_IsForm.j0 k true a0_0 a0_1 l0_2 l0_3 l0_4))) else (impl_IsForm.j0 k true a0_0 a0_1 l0_2 l0_3 l0_4)) = some r := H
    have A9 := Aside0.mk A90
    clear A90
    by_cases c10 : t142 = (wrap64 (a0_0 * a0_1))
    ·rw [if_pos c10] at H
     have c10b0 : (t142 == (wrap64 (a0_0 * a0_1))) = true := beq_iff_eq.mpr c10
     have c10b1 : (t142 != (wrap64 (a0_0 * a0_1))) = false := bne_eq_false_iff_eq.mpr c10
     clear c10
     replace H := Option.bind_eq_some_iff.mp H
     obtain ⟨t143, A110, H⟩ := H
     replace H : (if t143 = (wrap64 (a0_0 * a0_1)) then ((impl_allIn.f l0_4 0 1).bind fun t144 => (impl_IsForm.j0 k (!t144) a0_0 a0_1 l0_2 l0_3 l0_4)) else (impl_IsForm.j0 k true a0_0 a0_1 l0_2 l0_3 l0_4)) = some r := H
     have A11 := Aside0.mk A110
     clear A110
     by_cases c12 : t143 = (wrap64 (a0_0 * a0_1))
     ·rw [if_pos c12] at H
      have c12b0 : (t143 == (wrap64 (a0_0 * a0_1))) = true := beq_iff_eq.mpr c12
      have c12b1 : (t143 != (wrap64 (a0_0 * a0_1))) = false := bne_eq_false_iff_eq.mpr c12
      clear c12
      replace H := Option.bind_eq_some_iff.mp H
      obtain ⟨t144, A130, H⟩ := H
      replace H : (impl_IsForm.j0 k (!t144) a0_0 a0_1 l0_2 l0_3 l0_4) = some r := H
      have A13 := Aside0.mk A130
      clear A130
      have H' := Aside0.mk H
      clear H
      obtain ⟨hcz14_0, hcz14_1, hcz14_2, hcz14_3, hcz14_4, hfz14_0, hfz14_1, hfz14_2, hfz14_3, hfz14_4⟩ := cz5_ (w := w5) BK139.out
      go_wp2_with (first | ((with_reducible refine gate_callee (f := 61) rfl ?_); refine goesL_ (some 20) rfl rfl Tryz.func61 (by kernel_rfl) rfl #[.slice A0_2 l0_2.length c0_2] rfl z36_ ?_; (with_reducible refine (impl_length_int64.calls _ _ l0_2 t141 _ ?side1 ?side2 A7.out).mono ?_); (case side1 => exact z13_); (case side2 => exact (Kd.V_reads' HO0_2.out).2.1); rintro e w' ⟨rfl, ⟨nd, rfl⟩⟩; refine ⟨_, rfl, ?_⟩) | (go_at_call 61; (with_reducible refine (impl_length_int64.calls _ _ l0_3 t142 _ ?side1 ?side2 A9.out).mono ?_); (case side1 => exact z14_); (case side2 => exact (Kd.V_reads' HO0_3.out).2.1); rintro e w' ⟨rfl, ⟨nd, rfl⟩⟩) | (go_at_call 61; (with_reducible refine (impl_length_int64.calls _ _ l0_4 t143 _ ?side1 ?side2 A11.out).mono ?_); (case side1 => exact z3_); (case side2 => exact HC0_4.out); rintro e w' ⟨rfl, ⟨nd, rfl⟩⟩) | (go_at_call 62; (with_reducible refine (impl_allIn.calls _ _ l0_4 0 1 t144 _ ?side1 ?side2 A13.out).mono ?_); (case side1 => exact z3_); (case side2 => exact HC0_4.out); rintro e w15 ⟨rfl, hb⟩; replace HO0_2 := a_ (Kd.V_below z61_ hb); replace HO0_3 := a_ (Kd.V_below z62_ hb); replace BK139 := a_ (blk_below (g := gb139) (rb_ BK139.out) hb); replace HB := a_ (below_step z21_ hb); (try clear hb); (try clear hb2); (try clear hk); (try clear hi)))
      go_meet
      case rel => exact ⟨_, (!t144), z78_, H', ⟨z80_⟩, ⟨z61_⟩, ⟨z62_⟩, ⟨z55_⟩, ⟨z21_⟩⟩
     ·rw [if_neg c12] at H
      have c12b0 : (t143 == (wrap64 (a0_0 * a0_1))) = false := beq_eq_false_iff_ne.mpr c12
      have c12b1 : (t143 != (wrap64 (a0_0 * a0_1))) = true := bne_iff_ne.mpr c12
      have H' := Aside0.mk H
      clear H
      obtain ⟨hcz16_0, hcz16_1, hcz16_2, hcz16_3, hcz16_4, hfz16_0, hfz16_1, hfz16_2, hfz16_3, hfz16_4⟩ := cz5_ (w := w5) BK139.out
      go_wp2_with (first | ((with_reducible refine gate_callee (f := 61) rfl ?_); refine goesL_ (some 20) rfl rfl Tryz.func61 (by kernel_rfl) rfl #[.slice A0_2 l0_2.length c0_2] rfl z36_ ?_; (with_reducible refine (impl_length_int64.calls _ _ l0_2 t141 _ ?side1 ?side2 A7.out).mono ?_); (case side1 => exact z13_); (case side2 => exact (Kd.V_reads' HO0_2.out).2.1); rintro e w' ⟨rfl, ⟨nd, rfl⟩⟩; refine ⟨_, rfl, ?_⟩) | (go_at_call 61; (with_reducible refine (impl_length_int64.calls _ _ l0_3 t142 _ ?side1 ?side2 A9.out).mono ?_); (case side1 => exact z14_); (case side2 => exact (Kd.V_reads' HO0_3.out).2.1); rintro e w' ⟨rfl, ⟨nd, rfl⟩⟩) | (go_at_call 61; (with_reducible refine (impl_length_int64.calls _ _ l0_4 t143 _ ?side1 ?side2 A11.out).mono ?_); (case side1 => exact z3_); (case side2 => exact HC0_4.out); rintro e w' ⟨rfl, ⟨nd, rfl⟩⟩))
      go_meet
      case rel => exact ⟨_, (true), z78_, H', ⟨z80_⟩, ⟨z61_⟩, ⟨z62_⟩, ⟨z55_⟩, ⟨z21_⟩⟩
    ·rw [if_neg c10] at H
     have c10b0 : (t142 == (wrap64 (a0_0 * a0_1))) = false := beq_eq_false_iff_ne.mpr c10
     have c10b1 : (t142 != (wrap64 (a0_0 * a0_1))) = true := bne_iff_ne.mpr c10
     have H' := Aside0.mk H
     clear H
     obtain ⟨hcz17_0, hcz17_1, hcz17_2, hcz17_3, hcz17_4, hfz17_0, hfz17_1, hfz17_2, hfz17_3, hfz17_4⟩ := cz5_ (w := w5) BK139.out
     go_wp2_with (first | ((with_reducible refine gate_callee (f := 61) rfl ?_); refine goesL_ (some 20) rfl rfl Tryz.func61 (by kernel_rfl) rfl #[.slice A0_2 l0_2.length c0_2] rfl z36_ ?_; (with_reducible refine (impl_length_int64.calls _ _ l0_2 t141 _ ?side1 ?side2 A7.out).mono ?_); (case side1 => exact z13_); (case side2 => exact (Kd.V_reads' HO0_2.out).2.1); rintro e w' ⟨rfl, ⟨nd, rfl⟩⟩; refine ⟨_, rfl, ?_⟩) | (go_at_call 61; (with_reducible refine (impl_length_int64.calls _ _ l0_3 t142 _ ?side1 ?side2 A9.out).mono ?_); (case side1 => exact z14_); (case side2 => exact (Kd.V_reads' HO0_3.out).2.1); rintro e w' ⟨rfl, ⟨nd, rfl⟩⟩))
     go_meet
     case rel => exact ⟨_, (true), z78_, H', ⟨z80_⟩, ⟨z61_⟩, ⟨z62_⟩, ⟨z55_⟩, ⟨z21_⟩⟩
   ·rw [if_neg c8] at H
    have c8b0 : (t141 == (wrap64 (a0_0 * a0_1))) = false := beq_eq_false_iff_ne.mpr c8
    have c8b1 : (t141 != (wrap64 (a0_0 * a0_1))) = true := bne_iff_ne.mpr c8
    (first | rw [c8b0] | (simp only [i64_w, i32_w]; rw [c8b0]) | skip)
    have H' := Aside0.mk H
    clear H
    obtain ⟨hcz18_0, hcz18_1, hcz18_2, hcz18_3, hcz18_4, hfz18_0, hfz18_1, hfz18_2, hfz18_3, hfz18_4⟩ := cz5_ (w := w5) BK139.out
    go_wp2_with (first | ((with_reducible refine gate_callee (f := 61) rfl ?_); refine goesL_ (some 20) rfl rfl Tryz.func61 (by kernel_rfl) rfl #[.slice A0_2 l0_2.length c0_2] rfl z36_ ?_; (with_reducible refine (impl_length_int64.calls _ _ l0_2 t141 _ ?side1 ?side2 A7.out).mono ?_); (case side1 => exact z13_); (case side2 => exact (Kd.V_reads' HO0_2.out).2.1); rintro e w' ⟨rfl, ⟨nd, rfl⟩⟩; refine ⟨_, rfl, ?_⟩))
    go_meet
    case rel => exact ⟨_, (true), z78_, H', ⟨z80_⟩, ⟨z61_⟩, ⟨z62_⟩, ⟨z55_⟩, ⟨z21_⟩⟩
  case rest =>
   clear HC4; try clear c3; try clear hcz6_0 hcz6_1 hcz6_2 hcz6_3 hcz6_4; try clear hfz6_0 hfz6_1 hfz6_2 hfz6_3 hfz6_4
   obtain ⟨kq, x42_3, rfl, HA, HJ3, HO_140002, HO_140003, BK139, HB⟩ := hcut
   cases kq with
   | zero => exact absurd HA.out (by simp [impl_IsForm.j0])
   | succ kj3 =>
    have H := HA.out
    clear HA
    simp only [impl_IsForm.j0] at H
    by_cases c19 : x42_3 = true
    ·subst c19
     have H1 : (some false) = some r := by rw [if_pos rfl] at H; exact H
     clear H
     have H := H1
     clear H1
     obtain rfl := Option.some.inj H
     go_wp2
     go_ret
     exact ⟨z34_, z21_⟩
    ·replace c19 := Bool.eq_false_iff.mpr c19
     subst c19
     have H1 : ((slices_Concat_int64_int64.f kj3 (([l0_2, l0_3] : List (List Int)))).bind fun t148 => ((slices_Sorted_int64.f t148).bind fun t151 => (impl_IsForm.l0 kj3 t151 t151 (t151.length : Int) 0))) = some r := by rw [if_neg (show ¬ (false = true) by decide)] at H; exact H
     clear H
     have H := H1
     clear H1
     obtain ⟨y145, hy145⟩ : ∃ y_ : List (List Int), y_ = (([l0_2, l0_3] : List (List Int))) := ⟨_, rfl⟩
     replace H : ((slices_Concat_int64_int64.f kj3 y145).bind fun t148 => ((slices_Sorted_int64.f t148).bind fun t151 => (impl_IsForm.l0 kj3 t151 t151 (t151.length : Int) 0))) = some r := rh_ hy145 H
     have Ny145 := Aside0.mk hy145
     clear hy145
     replace H := Option.bind_eq_some_iff.mp H
     obtain ⟨t148, A200, H⟩ := H
     replace H : ((slices_Sorted_int64.f t148).bind fun t151 => (impl_IsForm.l0 kj3 t151 t151 (t151.length : Int) 0)) = some r := H
     have A20 := Aside0.mk A200
     clear A200
     replace H := Option.bind_eq_some_iff.mp H
     obtain ⟨t151, A210, H⟩ := H
     replace H : (impl_IsForm.l0 kj3 t151 t151 (t151.length : Int) 0) = some r := H
     have A21 := Aside0.mk A210
     clear A210
     have H' := Aside0.mk H
     clear H
     obtain ⟨hcz22_0, hcz22_1, hcz22_2, hcz22_3, hcz22_4, hfz22_0, hfz22_1, hfz22_2, hfz22_3, hfz22_4⟩ := cz5_ (w := wc) BK139.out
     go_wp2_with (first | ((with_reducible refine gate_dst (N := 47) rfl ?_); refine Kd.N_lit (Kd.slice 2 (Kd.int .i64)) _ 22 ?hg (N' := 47) ?hd (xs := ([l0_2, l0_3] : List (List Int))) (inner := [.slice A0_2 l0_2.length c0_2, .slice A0_3 l0_3.length c0_3]) (ok := (fun k_ => ((P0_2_ k_ ∨ P0_3_ k_) ∨ w.heap.size ≤ k_) ∧ k_ ≠ gb139)) (okp := (fun k_ => ((P0_2_ k_ ∨ P0_3_ k_) ∨ w.heap.size ≤ k_) ∧ k_ ≠ gb139)) ?hr ?hp (fun _ hk => hk) ((show ∀ k_, wc.heap.size ≤ k_ → (fun k_ => ((P0_2_ k_ ∨ P0_3_ k_) ∨ w.heap.size ≤ k_) ∧ k_ ≠ gb139) k_ from fun k_ hk => ⟨(.inr (Nat.le_trans (below_size z21_) hk)), Kd.freshB (g := gb139) (rb_ BK139.out) k_ hk⟩) _ (Nat.le_refl _)) (Below.refl _ _) (Nat.le_refl _) (by simp) ?_; (case hd => rfl); (case hg => rfl); (case hr => first | (go_simp; done) | (go_simp; rfl)); (case hp => exact (Reps.one (show Kd.FK (Kd.slice 2 (Kd.int .i64)) _ _ l0_2 [.slice A0_2 l0_2.length c0_2] from (Kd.FK_slice_mk (Kd.V_reads' (Kd.V_mono (ok' := (fun k_ => ((P0_2_ k_ ∨ P0_3_ k_) ∨ w.heap.size ≤ k_) ∧ k_ ≠ gb139)) (HO_140002.out) (fun k_ hk => ⟨hk.1, hk.2⟩))).2.1 (Kd.V_F (Kd.V_mono (ok' := (fun k_ => ((P0_2_ k_ ∨ P0_3_ k_) ∨ w.heap.size ≤ k_) ∧ k_ ≠ gb139)) (HO_140002.out) (fun k_ hk => ⟨hk.1, hk.2⟩))))) (Reps.one (show Kd.FK (Kd.slice 2 (Kd.int .i64)) _ _ l0_3 [.slice A0_3 l0_3.length c0_3] from (Kd.FK_slice_mk (Kd.V_reads' (Kd.V_mono (ok' := (fun k_ => ((P0_2_ k_ ∨ P0_3_ k_) ∨ w.heap.size ≤ k_) ∧ k_ ≠ gb139)) (HO_140003.out) (fun k_ hk => ⟨hk.1, hk.2⟩))).2.1 (Kd.V_F (Kd.V_mono (ok' := (fun k_ => ((P0_2_ k_ ∨ P0_3_ k_) ∨ w.heap.size ≤ k_) ∧ k_ ≠ gb139)) (HO_140003.out) (fun k_ hk => ⟨hk.1, hk.2⟩))))) (Reps.none _ _)))); intro v146 w23 ho24 hb hg_ hnew_; clear hg_ hnew_; (first | rw [← Ny145.out] at ho24 | (simp only [Int.reduceToNat] at ho24; rw [← Ny145.out] at ho24)); replace HO_140002 := a_ (Kd.V_elder' z59_ (Kd.N_base ho24) hb); replace HO_140003 := a_ (Kd.V_elder' z60_ (Kd.N_base ho24) hb); have HO147 := a_ (Kd.N_lower ho24 (below_size z21_)); replace BK139 := a_ (blk_below (g := gb139) (rb_ BK139.out) hb); replace HB := a_ (below_step z21_ hb); clear hb ho24; obtain ⟨Ao25, co25, eo25⟩ := Kd.N_slice HO147.out; subst eo25) | ((with_reducible refine gate_callee (f := 65) rfl ?_); refine goesL_ (some 48) rfl rfl Tryz.func65 (by kernel_rfl) rfl #[.slice Ao25 y145.length co25] rfl z36_ ?_; (with_reducible refine (slices_Concat_int64_int64.calls kj3 _ _ y145 t148 _ ?side1 ?side2 A20.out).mono ?_); (case side1 => exact (by (repeat (first | exact (Kd.N_reads' HO147.out).2.2 | (with_reducible refine Kd.C_alloc ?_ _) | (with_reducible refine Kd.C_drewN ?_ _) | (with_reducible refine Kd.C_drew ?_))); first | done | fail)); (case side2 => exact (Kd.N_reads' HO147.out).2.1); rintro e w26 ⟨v149, rfl, ho0, hb⟩; refine ⟨_, rfl, ?_⟩; replace HO_140002 := a_ (Kd.V_elder' z59_ (Kd.R_base ho0) hb); replace HO_140003 := a_ (Kd.V_elder' z60_ (Kd.R_base ho0) hb); replace HO147 := a_ (Kd.N_elder' (by (with_reducible repeat (first | apply Kd.N_alloc | apply Kd.N_drewN | apply Kd.N_drew)); exact HO147.out) (Kd.R_base ho0) hb); have HO150 := a_ (Kd.R_lower (Kd.R_newM (M := fun k_ => (w.heap.size ≤ k_)) ho0 (below_size z21_) (fun k_ h_ => h_)) (below_size z21_)); replace BK139 := a_ (blk_below (g := gb139) (rb_ BK139.out) hb); replace HB := a_ (below_step z21_ hb); (try clear hb); (try clear hb2); (try clear hk); (try clear hi); (try clear ho0); obtain ⟨Ao27, co27, eo27⟩ := Kd.R_slice HO150.out; subst eo27) | (go_at_call 64; refine (vs.valuesOf _ _ _ _).mono ?_; rintro e w' ⟨rfl, rfl⟩) | (go_at_call 63; (with_reducible refine (slices_Sorted_int64.calls _ _ t148 t151 _ ?side1 ?side2 A21.out).mono ?_); (case side1 => exact (by (repeat (first | exact (Kd.R_reads' HO150.out).2.2 | (with_reducible refine Kd.C_alloc ?_ _) | (with_reducible refine Kd.C_drewN ?_ _) | (with_reducible refine Kd.C_drew ?_))); first | done | fail)); (case side2 => exact (Kd.R_reads' HO150.out).2.1); rintro e w28 ⟨v152, rfl, ho0, hb⟩; replace HO_140002 := a_ (Kd.V_elder' z59_ (Kd.R_base ho0) hb); replace HO_140003 := a_ (Kd.V_elder' z60_ (Kd.R_base ho0) hb); replace HO147 := a_ (Kd.N_elder' (by (with_reducible repeat (first | apply Kd.N_alloc | apply Kd.N_drewN | apply Kd.N_drew)); exact HO147.out) (Kd.R_base ho0) hb); have HO153 := a_ (Kd.R_lower (Kd.R_new' (Kd.R_newM (M := fun k_ => (w.heap.size ≤ k_)) ho0 (below_size z21_) (fun k_ h_ => h_)) (Kd.R_lt (ra_ HO150.out))) (below_size z21_)); replace HO150 := a_ (Kd.R_elder' (ra_ HO150.out) (Kd.R_base ho0) hb); replace BK139 := a_ (blk_below (g := gb139) (rb_ BK139.out) hb); replace HB := a_ (below_step z21_ hb); (try clear hb); (try clear hb2); (try clear hk); (try clear hi); (try clear ho0); obtain ⟨Ao29, co29, eo29⟩ := Kd.R_slice HO153.out; subst eo29))
     go_loopg [53] kj3 (fun kq v53 w' => ∃ (x53_2 : Int), v53 = .int .i64 x53_2 ∧ Aside0 (impl_IsForm.l0 kq t151 t151 (t151.length : Int) x53_2 = some r) ∧ Aside0 (kq ≤ kj3) ∧ Aside0 (Kd.R (Kd.int .i64) 2 w' w.heap.size (fun k_ => (w.heap.size ≤ k_)) (.slice Ao29 t151.length co29) t151) ∧ Aside0 (Kd.R (Kd.int .i64) 2 w' w.heap.size (fun k_ => (w.heap.size ≤ k_)) (.slice Ao29 t151.length co29) t151) ∧ Aside0 (Kd.V (Kd.int .i64) 2 w' w.heap.size (fun k_ => ((P0_2_ k_ ∨ P0_3_ k_) ∨ w.heap.size ≤ k_) ∧ nb_ k_ Ao29 t151.length co29 ∧ nb_ k_ Ao29 t151.length co29 ∧ k_ ≠ gb139) (.slice A0_2 l0_2.length c0_2) l0_2) ∧ Aside0 (Kd.V (Kd.int .i64) 2 w' w.heap.size (fun k_ => ((P0_2_ k_ ∨ P0_3_ k_) ∨ w.heap.size ≤ k_) ∧ nb_ k_ Ao29 t151.length co29 ∧ nb_ k_ Ao29 t151.length co29 ∧ k_ ≠ gb139) (.slice A0_3 l0_3.length c0_3) l0_3) ∧ Aside0 (w'.heap[gb139]? = some (.cells #[.int .i64 a0_0, .int .i64 a0_1, (.slice A0_2 l0_2.length c0_2), (.slice A0_3 l0_3.length c0_3), (.slice A0_4 l0_4.length c0_4)] 28 (0, 0))) ∧ Aside0 (Below w.heap.size w w'))
     case atStart => exact ⟨(0), z78_, H', ⟨Nat.le_refl _⟩, ⟨by (with_reducible repeat (first | apply Kd.R_alloc | apply Kd.R_drewN | apply Kd.R_drew)); exact Kd.R_mono HO153.out (fun _ hk => hk.1.1)⟩, ⟨by (with_reducible repeat (first | apply Kd.R_alloc | apply Kd.R_drewN | apply Kd.R_drew)); exact Kd.R_mono HO153.out (fun _ hk => hk.1.1)⟩, ⟨by (with_reducible repeat (first | apply Kd.V_alloc | apply Kd.V_drewN | apply Kd.V_drew)); exact Kd.V_mono HO_140002.out (fun _ hk => ⟨hk.1.1.1.1, ⟨hk.2, ⟨hk.2, hk.1.1.1.2⟩⟩⟩)⟩, ⟨by (with_reducible repeat (first | apply Kd.V_alloc | apply Kd.V_drewN | apply Kd.V_drew)); exact Kd.V_mono HO_140003.out (fun _ hk => ⟨hk.1.1.1.1, ⟨hk.2, ⟨hk.2, hk.1.1.1.2⟩⟩⟩)⟩, ⟨z55_⟩, ⟨z21_⟩⟩
     case round =>
      clear H'
      try clear c19; try clear hcz22_0 hcz22_1 hcz22_2 hcz22_3 hcz22_4; try clear hfz22_0 hfz22_1 hfz22_2 hfz22_3 hfz22_4
      obtain ⟨x53_2, rfl, HA, HK2, HO_4, HO_51, HO_140002, HO_140003, BK139, HB⟩ := hrel
      cases gk with
      | zero => exact absurd HA.out (by simp [impl_IsForm.l0])
      | succ k2 =>
       have H := HA.out
       clear HA
       simp only [impl_IsForm.l0] at H
       by_cases c30 : x53_2 < (t151.length : Int)
       ·rw [if_pos c30] at H
        have c30b0 : decide (x53_2 < (t151.length : Int)) = true := decide_eq_true c30
        clear c30
        by_cases c31 : 0 ≤ x53_2
        ·rw [if_pos c31] at H
         have c31b0 : decide (0 ≤ x53_2) = true := decide_eq_true c31
         clear c31
         by_cases c32 : x53_2 < (t151.length : Int)
         ·rw [if_pos c32] at H
          have c32b0 : decide (x53_2 < (t151.length : Int)) = true := decide_eq_true c32
          clear c32
          by_cases c33 : 0 < (t151.length : Int)
          ·rw [if_pos c33] at H
           have c33b0 : decide (0 < (t151.length : Int)) = true := decide_eq_true c33
           have c33b1 : decide (0 < t151.length) = true := decide_eq_true (by omega)
           clear c33
           replace H := Option.bind_eq_some_iff.mp H
           obtain ⟨t156, A340, H⟩ := H
           replace H : (if t156 = true then (if (rd t151 x53_2) = (wrap64 ((rd t151 0) + x53_2)) then (impl_IsForm.l0 k2 t151 t151 (t151.length : Int) (wrap64 (x53_2 + 1))) else (some false)) else (some false)) = some r := H
           have A34 := Aside0.mk A340
           clear A340
           by_cases c35 : t156 = true
           ·subst c35
            have H1 : (if (rd t151 x53_2) = (wrap64 ((rd t151 0) + x53_2)) then (impl_IsForm.l0 k2 t151 t151 (t151.length : Int) (wrap64 (x53_2 + 1))) else (some false)) = some r := by rw [if_pos rfl] at H; exact H
            clear H
            have H := H1
            clear H1
            by_cases c36 : (rd t151 x53_2) = (wrap64 ((rd t151 0) + x53_2))
            ·rw [if_pos c36] at H
             have c36b0 : ((rd t151 x53_2) == (wrap64 ((rd t151 0) + x53_2))) = true := beq_iff_eq.mpr c36
             have c36b1 : ((rd t151 x53_2) != (wrap64 ((rd t151 0) + x53_2))) = false := bne_eq_false_iff_eq.mpr c36
             clear c36
             have H' := Aside0.mk H
             clear H
             have p154 : 0 ≤ (x53_2 : Int) := of_decide_eq_true z77_
             have q154 : x53_2 < (t151.length : Int) := of_decide_eq_true z77_
             obtain ⟨ad154, e154, hx154_0⟩ := Kd.at_int (Kd.R_reads' HO_51.out).2.2 x53_2 p154 q154
             cases e154
             replace p154 := eq_true p154
             replace q154 := eq_true q154
             have p155 : 0 ≤ (0 : Int) := (by omega)
             have q155 : 0 < (t151.length : Int) := of_decide_eq_true z77_
             obtain ⟨ad155, e155, hx155_0⟩ := Kd.at_int (Kd.R_reads' HO_4.out).2.2 0 p155 q155
             obtain rfl : ad154 = ad155 := (by injection e155)
             have qi155 : (0 < t151.length) = True := eq_true (by omega)
             (try rw [show ((0 : Int)).toNat = 0 from rfl] at hx155_0)
             (try rw [Addr.add_zero'] at hx155_0)
             replace p155 := eq_true p155
             replace q155 := eq_true q155
             go_wp2_with (first | ((with_reducible refine gate_callee (f := 54) rfl ?_); refine goesL_ (some 61) rfl rfl Tryz.func54 (by kernel_rfl) rfl #[.int .i64 (rd t151 0), .int .i64 1, .int .i64 1000000000] rfl z36_ ?_; (with_reducible refine (impl_inRange.calls (rd t151 0) 1 1000000000 true _ A34.out).mono ?_); rintro e w' ⟨rfl, ⟨nd, rfl⟩⟩; refine ⟨_, rfl, ?_⟩; have p157 : 0 ≤ (0 : Int) := (by omega); have q157 : 0 < (t151.length : Int) := of_decide_eq_true z77_; obtain ⟨ad157, e157, hx157_0⟩ := Kd.at_int (Kd.R_reads' HO_4.out).2.2 0 p157 q157; obtain rfl : ad154 = ad157 := (by injection e157); have qi157 : (0 < t151.length) = True := eq_true (by omega); (try rw [show ((0 : Int)).toNat = 0 from rfl] at hx157_0); (try rw [Addr.add_zero'] at hx157_0); replace p157 := eq_true p157; replace q157 := eq_true q157))
             go_roundg k2
             case measure => have := HJ3.out; have := HK2.out; omega
             case rel => exact ⟨(wrap64 (x53_2 + 1)), z78_, H', ⟨by have := HJ3.out; have := HK2.out; omega⟩, ⟨by (with_reducible repeat (first | apply Kd.R_alloc | apply Kd.R_drewN | apply Kd.R_drew)); exact HO_4.out⟩, ⟨by (with_reducible repeat (first | apply Kd.R_alloc | apply Kd.R_drewN | apply Kd.R_drew)); exact HO_51.out⟩, ⟨z59_⟩, ⟨z60_⟩, ⟨z55_⟩, ⟨z21_⟩⟩
            ·rw [if_neg c36] at H
             have c36b0 : ((rd t151 x53_2) == (wrap64 ((rd t151 0) + x53_2))) = false := beq_eq_false_iff_ne.mpr c36
             have c36b1 : ((rd t151 x53_2) != (wrap64 ((rd t151 0) + x53_2))) = true := bne_iff_ne.mpr c36
             obtain rfl := Option.some.inj H
             have p154 : 0 ≤ (x53_2 : Int) := of_decide_eq_true z77_
             have q154 : x53_2 < (t151.length : Int) := of_decide_eq_true z77_
             obtain ⟨ad154, e154, hx154_0⟩ := Kd.at_int (Kd.R_reads' HO_51.out).2.2 x53_2 p154 q154
             cases e154
             replace p154 := eq_true p154
             replace q154 := eq_true q154
             have p155 : 0 ≤ (0 : Int) := (by omega)
             have q155 : 0 < (t151.length : Int) := of_decide_eq_true z77_
             obtain ⟨ad155, e155, hx155_0⟩ := Kd.at_int (Kd.R_reads' HO_4.out).2.2 0 p155 q155
             obtain rfl : ad154 = ad155 := (by injection e155)
             have qi155 : (0 < t151.length) = True := eq_true (by omega)
             (try rw [show ((0 : Int)).toNat = 0 from rfl] at hx155_0)
             (try rw [Addr.add_zero'] at hx155_0)
             replace p155 := eq_true p155
             replace q155 := eq_true q155
             go_wp2_with (first | ((with_reducible refine gate_callee (f := 54) rfl ?_); refine goesL_ (some 61) rfl rfl Tryz.func54 (by kernel_rfl) rfl #[.int .i64 (rd t151 0), .int .i64 1, .int .i64 1000000000] rfl z36_ ?_; (with_reducible refine (impl_inRange.calls (rd t151 0) 1 1000000000 true _ A34.out).mono ?_); rintro e w' ⟨rfl, ⟨nd, rfl⟩⟩; refine ⟨_, rfl, ?_⟩; have p157 : 0 ≤ (0 : Int) := (by omega); have q157 : 0 < (t151.length : Int) := of_decide_eq_true z77_; obtain ⟨ad157, e157, hx157_0⟩ := Kd.at_int (Kd.R_reads' HO_4.out).2.2 0 p157 q157; obtain rfl : ad154 = ad157 := (by injection e157); have qi157 : (0 < t151.length) = True := eq_true (by omega); (try rw [show ((0 : Int)).toNat = 0 from rfl] at hx157_0); (try rw [Addr.add_zero'] at hx157_0); replace p157 := eq_true p157; replace q157 := eq_true q157))
             go_ret
             exact ⟨z34_, z21_⟩
           ·replace c35 := Bool.eq_false_iff.mpr c35
            subst c35
            have H1 : (some false) = some r := by rw [if_neg (show ¬ (false = true) by decide)] at H; exact H
            clear H
            have H := H1
            clear H1
            obtain rfl := Option.some.inj H
            have p154 : 0 ≤ (x53_2 : Int) := of_decide_eq_true z77_
            have q154 : x53_2 < (t151.length : Int) := of_decide_eq_true z77_
            obtain ⟨ad154, e154, hx154_0⟩ := Kd.at_int (Kd.R_reads' HO_51.out).2.2 x53_2 p154 q154
            cases e154
            replace p154 := eq_true p154
            replace q154 := eq_true q154
            have p155 : 0 ≤ (0 : Int) := (by omega)
            have q155 : 0 < (t151.length : Int) := of_decide_eq_true z77_
            obtain ⟨ad155, e155, hx155_0⟩ := Kd.at_int (Kd.R_reads' HO_4.out).2.2 0 p155 q155
            obtain rfl : ad154 = ad155 := (by injection e155)
            have qi155 : (0 < t151.length) = True := eq_true (by omega)
            (try rw [show ((0 : Int)).toNat = 0 from rfl] at hx155_0)
            (try rw [Addr.add_zero'] at hx155_0)
            replace p155 := eq_true p155
            replace q155 := eq_true q155
            go_wp2_with (first | ((with_reducible refine gate_callee (f := 54) rfl ?_); refine goesL_ (some 61) rfl rfl Tryz.func54 (by kernel_rfl) rfl #[.int .i64 (rd t151 0), .int .i64 1, .int .i64 1000000000] rfl z36_ ?_; (with_reducible refine (impl_inRange.calls (rd t151 0) 1 1000000000 false _ A34.out).mono ?_); rintro e w' ⟨rfl, ⟨nd, rfl⟩⟩; refine ⟨_, rfl, ?_⟩))
            go_ret
            exact ⟨z34_, z21_⟩
          ·rw [if_neg c33] at H
           exact absurd H (by simp)
         ·rw [if_neg c32] at H
          exact absurd H (by simp)
        ·rw [if_neg c31] at H
         exact absurd H (by simp)
       ·rw [if_neg c30] at H
        have c30b0 : decide (x53_2 < (t151.length : Int)) = false := decide_eq_false c30
        clear c30
        obtain rfl := Option.some.inj H
        go_wp2
        go_ret
        exact ⟨z34_, z21_⟩
 ·replace c3 := Bool.eq_false_iff.mpr c3
  subst c3
  have H1 : (some false) = some r := by rw [if_neg (show ¬ (false = true) by decide)] at H; exact H
  clear H
  have H := H1
  clear H1
  obtain rfl := Option.some.inj H
  go_enter Tryz.func20, Tryz.ntmps20
  go_wp2_with (first | ((with_reducible refine gate_dst (N := 1) rfl ?_); refine box_event ?hg (N := 1) ?hd (cs := #[.int .i64 a0_0, .int .i64 a0_1, .slice A0_2 l0_2.length c0_2, .slice A0_3 l0_3.length c0_3, .slice A0_4 l0_4.length c0_4]) (t := 28) ?hr ?_; (case hd => rfl); (case hg => rfl); (case hr => first | (go_simp; done) | (go_simp; rfl)); intro gb139 hg w37 hbox hb; replace HO0_2 := a_ (Kd.V_below (Kd.V_elderB z61_ gb139 (Nat.le_of_eq hg.symm)) hb); replace HO0_3 := a_ (Kd.V_below (Kd.V_elderB z62_ gb139 (Nat.le_of_eq hg.symm)) hb); have BK139 := a_ (hbox); have GW139 := a_ ((z32_ : w.heap.size ≤ gb139)); have GE139 := a_ ((z32_ : w.heap.size ≤ gb139)); replace HB := a_ (below_step z33_ hb); clear hb hbox hg; obtain ⟨hcz38_0, hcz38_1, hcz38_2, hcz38_3, hcz38_4, hfz38_0, hfz38_1, hfz38_2, hfz38_3, hfz38_4⟩ := cz5_ (w := w37) BK139.out) | ((with_reducible refine gate_callee (f := 60) rfl ?_); refine goesL_ (some 11) rfl rfl Tryz.func60 (by kernel_rfl) rfl #[.int .i64 a0_0, .int .i64 a0_1] rfl z36_ ?_; (with_reducible refine (impl_isSheet.calls a0_0 a0_1 false _ A2.out).mono ?_); rintro e w' ⟨rfl, ⟨nd, rfl⟩⟩; refine ⟨_, rfl, ?_⟩))
  go_ret
  exact ⟨z34_, z21_⟩

/-! ### impl_halvings: function 74 -/
def impl_halvings.l0 : Nat → Int → Int → Option (Int)
 | 0, _, _ => none
 | k + 1, x0, x3 => if x0 > 1 then (impl_halvings.l0 k (wrap64 (Int.tdiv x0 2)) (wrap64 (x3 + 1))) else (some x3)
def impl_halvings.f (k : Nat) (a0 : Int) : Option (Int) := impl_halvings.l0 k a0 0
theorem impl_halvings.mono_l : ∀ k, (∀ y0 y1, LeO (impl_halvings.l0 k y0 y1) (impl_halvings.l0 (k + 1) y0 y1))
 | 0 => fun _ _ r h => by simp [impl_halvings.l0] at h
 | k + 1 => by
  have ih0 := impl_halvings.mono_l k
  ·intro y0 y1
   unfold impl_halvings.l0
   repeat' first
   | (with_reducible exact ih0 _ _)
   | (with_reducible exact LeO.refl _)
   | (with_reducible exact LeO.none _)
   | (with_reducible refine LeO.ite ?_ ?_)
   | (with_reducible refine LeO.bind ?_ (fun _ => ?_))
   | exact ih0 _ _
   | exact LeO.none _
   | refine LeO.ite ?_ ?_
   | refine LeO.bind ?_ (fun _ => ?_)
theorem impl_halvings.mono : ∀ a0 k, LeO (impl_halvings.f k a0) (impl_halvings.f (k + 1) a0) := by
 intro a0 k
 have ih0 := impl_halvings.mono_l k
 unfold impl_halvings.f
 repeat' first
   | (with_reducible exact ih0 _ _)
   | (with_reducible exact LeO.refl _)
   | (with_reducible exact LeO.none _)
   | (with_reducible refine LeO.ite ?_ ?_)
   | (with_reducible refine LeO.bind ?_ (fun _ => ?_))
   | exact ih0 _ _
   | exact LeO.none _
   | refine LeO.ite ?_ ?_
   | refine LeO.bind ?_ (fun _ => ?_)
set_option maxHeartbeats 8000000 in
set_option maxRecDepth 100000 in
theorem impl_halvings.calls (k : Nat) (a0 : Int) (r : Int) (w : World) (h : impl_halvings.f k a0 = some r) :
  Calls Tryz.prog 74 #[.int .i64 a0] w fun e w' => e = .returned (.int .i64 r) ∧ Drawn0 w w' := by
 have H : (impl_halvings.l0 k a0 0) = some r := h
 clear h
 have H' := Aside0.mk H
 clear H
 go_enter Tryz.func74, Tryz.ntmps74
 go_wp2
 go_loopg [0, 3] k (fun kq v0 v3 w' => ∃ (x0_1 : Int) (x3_1 : Int), v0 = .int .i64 x0_1 ∧ v3 = .int .i64 x3_1 ∧ Aside0 (impl_halvings.l0 kq x0_1 x3_1 = some r) ∧ Aside0 (kq ≤ k) ∧ Drawn0 w w')
 case atStart => exact ⟨(a0), (0), z78_, z78_, H', ⟨Nat.le_refl _⟩, z73_⟩
 case round =>
  clear H'
  obtain ⟨x0_1, x3_1, rfl, rfl, HA, HK1, ⟨m1, rfl⟩⟩ := hrel
  cases gk with
  | zero => exact absurd HA.out (by simp [impl_halvings.l0])
  | succ k1 =>
   have H := HA.out
   clear HA
   simp only [impl_halvings.l0] at H
   by_cases c2 : x0_1 > 1
   ·rw [if_pos c2] at H
    have c2b0 : decide (1 < x0_1) = true := decide_eq_true c2
    clear c2
    have H' := Aside0.mk H
    clear H
    go_wp2
    go_roundg k1
    case measure => have := HK1.out; omega
    case rel => exact ⟨(wrap64 (Int.tdiv x0_1 2)), (wrap64 (x3_1 + 1)), z78_, z78_, H', ⟨by have := HK1.out; omega⟩, z73_⟩
   ·rw [if_neg c2] at H
    have c2b0 : decide (1 < x0_1) = false := decide_eq_false c2
    clear c2
    obtain rfl := Option.some.inj H
    go_wp2
    go_ret
    exact ⟨z67_, z73_⟩

-- NOT PRINTED: function 104 (strings_trimLeftByte)

-- NOT PRINTED: function 105 (strings_trimRightByte)

-- NOT PRINTED: function 106 (strings_makeASCIISet)

-- NOT PRINTED: function 127 (strings_asciiSet_contains)

-- NOT PRINTED: function 107 (strings_trimLeftASCII)

-- NOT PRINTED: function 108 (strings_trimRightASCII)

-- NOT PRINTED: function 138 (utf8_decodeRuneInStringSlow)

-- NOT PRINTED: function 128 (utf8_DecodeRuneInString)

-- NOT PRINTED: function 142 (bytealg_IndexString)

-- NOT PRINTED: function 143 (bytealg_Cutover)

-- NOT PRINTED: function 148 (bytealg_IndexByteString)

-- NOT PRINTED: function 141 (stringslite_IndexByte)

-- NOT PRINTED: function 146 (strings_IndexByte)

-- NOT PRINTED: function 147 (utf8_ValidRune)

-- NOT PRINTED: function 139 (strings_IndexRune)

-- NOT PRINTED: function 129 (strings_ContainsRune)

-- NOT PRINTED: function 109 (strings_trimLeftUnicode)

-- NOT PRINTED: function 140 (utf8_RuneStart)

-- NOT PRINTED: function 130 (utf8_DecodeLastRuneInString)

-- NOT PRINTED: function 110 (strings_trimRightUnicode)

-- NOT PRINTED: function 92 (strings_Trim)

-- NOT PRINTED: function 111 (utf8_RuneCountInString)

-- NOT PRINTED: function 112 (bytealg_CountString)

-- NOT PRINTED: function 149 (bytealg_hashStr_string)

-- NOT PRINTED: function 144 (bytealg_IndexRabinKarp_string)

-- NOT PRINTED: function 131 (stringslite_Index)

-- NOT PRINTED: function 113 (strings_Index)

-- NOT PRINTED: function 93 (strings_Count)

/-! ### impl_IsScheme -/
def lay_trim_ren : Go.Shelf.Ren := ⟨fun | 160 => 92 | 232 => 105 | 231 => 104 | 227 => 106 | 234 => 108 | 233 => 107 | 236 => 110 | 235 => 109 | 228 => 127 | 271 => 130 | 151 => 129 | 197 => 128 | 120 => 140 | 152 => 139 | 260 => 138 | 137 => 146 | 119 => 147 | 224 => 143 | 225 => 142 | 217 => 141 | 266 => 148 | n => n, fun | 9 => 9 | 4 => 4 | 3 => 3 | 5 => 5 | 117 => 119 | 116 => 118 | 0 => 0 | 124 => 122 | 21 => 21 | 105 => 139 | 46 => 115 | 119 => 153 | 139 => 156 | 138 => 155 | n => n, fun | 3 => 1 | 4 => 2 | n => n⟩
theorem lay_trim : Go.Proofs.Lays.n160 Tryz.prog lay_trim_ren := {
 mixed := by kernel_rfl
 f119 := Tryz.func147.trans (congrArg some (by kernel_rfl))
 f120 := Tryz.func140.trans (congrArg some (by kernel_rfl))
 f137 := Tryz.func146.trans (congrArg some (by kernel_rfl))
 f151 := Tryz.func129.trans (congrArg some (by kernel_rfl))
 f152 := Tryz.func139.trans (congrArg some (by kernel_rfl))
 f160 := Tryz.func92.trans (congrArg some (by kernel_rfl))
 f197 := Tryz.func128.trans (congrArg some (by kernel_rfl))
 f217 := Tryz.func141.trans (congrArg some (by kernel_rfl))
 f224 := Tryz.func143.trans (congrArg some (by kernel_rfl))
 f225 := Tryz.func142.trans (congrArg some (by kernel_rfl))
 f227 := Tryz.func106.trans (congrArg some (by kernel_rfl))
 f228 := Tryz.func127.trans (congrArg some (by kernel_rfl))
 f231 := Tryz.func104.trans (congrArg some (by kernel_rfl))
 f232 := Tryz.func105.trans (congrArg some (by kernel_rfl))
 f233 := Tryz.func107.trans (congrArg some (by kernel_rfl))
 f234 := Tryz.func108.trans (congrArg some (by kernel_rfl))
 f235 := Tryz.func109.trans (congrArg some (by kernel_rfl))
 f236 := Tryz.func110.trans (congrArg some (by kernel_rfl))
 f260 := Tryz.func138.trans (congrArg some (by kernel_rfl))
 f266 := Tryz.func148.trans (congrArg some (by kernel_rfl))
 f271 := Tryz.func130.trans (congrArg some (by kernel_rfl))
 t0 := Tryz.underlying0
 a0 := Tryz.isAgg0
 z0 := Tryz.sizeOf0
 v0 := Tryz.zeroValue0
 t3 := Tryz.underlying3
 a3 := Tryz.isAgg3
 z3 := Tryz.sizeOf3
 v3 := Tryz.zeroValue3
 t4 := Tryz.underlying4
 a4 := Tryz.isAgg4
 z4 := Tryz.sizeOf4
 v4 := Tryz.zeroValue4
 t5 := Tryz.underlying5
 a5 := Tryz.isAgg5
 z5 := Tryz.sizeOf5
 v5 := Tryz.zeroValue5
 t9 := Tryz.underlying9
 a9 := Tryz.isAgg9
 z9 := Tryz.sizeOf9
 v9 := Tryz.zeroValue9
 t21 := Tryz.underlying21
 a21 := Tryz.isAgg21
 z21 := Tryz.sizeOf21
 v21 := Tryz.zeroValue21
 t46 := Tryz.underlying115
 a46 := Tryz.isAgg115
 z46 := Tryz.sizeOf115
 v46 := Tryz.zeroValue115
 t105 := Tryz.underlying139
 a105 := Tryz.isAgg139
 z105 := Tryz.sizeOf139
 v105 := Tryz.zeroValue139
 t116 := Tryz.underlying118
 a116 := Tryz.isAgg118
 z116 := Tryz.sizeOf118
 t117 := Tryz.underlying119
 a117 := Tryz.isAgg119
 z117 := Tryz.sizeOf119
 v117 := Tryz.zeroValue119
 t119 := Tryz.underlying153
 a119 := Tryz.isAgg153
 z119 := Tryz.sizeOf153
 t124 := Tryz.underlying122
 a124 := Tryz.isAgg122
 z124 := Tryz.sizeOf122
 v124 := Tryz.zeroValue122
 t138 := Tryz.underlying155
 a138 := Tryz.isAgg155
 z138 := Tryz.sizeOf155
 v138 := Tryz.zeroValue155
 t139 := Tryz.underlying156
 a139 := Tryz.isAgg156
 z139 := Tryz.sizeOf156
 v139 := Tryz.zeroValue156
 g3 := by kernel_rfl
 g4 := by kernel_rfl }
def lay_count_ren : Go.Shelf.Ren := ⟨fun | 138 => 93 | 195 => 111 | 218 => 112 | 143 => 113 | 219 => 131 | 217 => 141 | 225 => 142 | 224 => 143 | 267 => 144 | 266 => 148 | 314 => 149 | n => n, fun | 9 => 9 | 3 => 3 | 4 => 4 | 5 => 5 | 0 => 0 | 46 => 115 | 146 => 158 | 51 => 135 | n => n, fun | 1 => 0 | n => n⟩
theorem lay_count : Go.Proofs.Lays.n138 Tryz.prog lay_count_ren := {
 mixed := by kernel_rfl
 f138 := Tryz.func93.trans (congrArg some (by kernel_rfl))
 f143 := Tryz.func113.trans (congrArg some (by kernel_rfl))
 f195 := Tryz.func111.trans (congrArg some (by kernel_rfl))
 f217 := Tryz.func141.trans (congrArg some (by kernel_rfl))
 f218 := Tryz.func112.trans (congrArg some (by kernel_rfl))
 f219 := Tryz.func131.trans (congrArg some (by kernel_rfl))
 f224 := Tryz.func143.trans (congrArg some (by kernel_rfl))
 f225 := Tryz.func142.trans (congrArg some (by kernel_rfl))
 f266 := Tryz.func148.trans (congrArg some (by kernel_rfl))
 f267 := Tryz.func144.trans (congrArg some (by kernel_rfl))
 f314 := Tryz.func149.trans (congrArg some (by kernel_rfl))
 t0 := Tryz.underlying0
 a0 := Tryz.isAgg0
 z0 := Tryz.sizeOf0
 v0 := Tryz.zeroValue0
 t3 := Tryz.underlying3
 a3 := Tryz.isAgg3
 z3 := Tryz.sizeOf3
 v3 := Tryz.zeroValue3
 t4 := Tryz.underlying4
 a4 := Tryz.isAgg4
 z4 := Tryz.sizeOf4
 v4 := Tryz.zeroValue4
 t5 := Tryz.underlying5
 a5 := Tryz.isAgg5
 z5 := Tryz.sizeOf5
 v5 := Tryz.zeroValue5
 t9 := Tryz.underlying9
 a9 := Tryz.isAgg9
 z9 := Tryz.sizeOf9
 v9 := Tryz.zeroValue9
 t46 := Tryz.underlying115
 a46 := Tryz.isAgg115
 z46 := Tryz.sizeOf115
 v46 := Tryz.zeroValue115
 t51 := Tryz.underlying135
 a51 := Tryz.isAgg135
 z51 := Tryz.sizeOf135
 v51 := Tryz.zeroValue135
 t146 := Tryz.underlying158
 a146 := Tryz.isAgg158
 z146 := Tryz.sizeOf158
 v146 := Tryz.zeroValue158
 g1 := by kernel_rfl }
def lrcount (s : ByteArray) : Nat := Go.Lib.countByte s.data.toList 76 + Go.Lib.countByte s.data.toList 82
def impl_IsScheme.f (k : Nat) (a0 a1 : Int) (a2 : ByteArray) : Option Bool := (impl_isSheet.f a0 a1).bind fun b => if b = true then (if a2.size ≤ 1048576 then (if Go.Lib.trimS a2.data.toList [76, 82, 84, 66] = [] then ((impl_halvings.f k a0).bind fun x => if (lrcount a2 : Int) = x then ((impl_halvings.f k a1).bind fun y => some (decide ((a2.size : Int) - (lrcount a2 : Int) = y))) else some false) else some false) else none) else some false
theorem impl_IsScheme.mono : ∀ a0 a1 a2 k, LeO (impl_IsScheme.f k a0 a1 a2) (impl_IsScheme.f (k + 1) a0 a1 a2) := by
 intro a0 a1 a2 k
 unfold impl_IsScheme.f
 exact LeO.bind (LeO.refl _) (fun _ => LeO.ite (LeO.ite (LeO.ite (LeO.bind (impl_halvings.mono _ _) (fun _ => LeO.ite (LeO.bind (impl_halvings.mono _ _) (fun _ => LeO.refl _)) (LeO.refl _))) (LeO.refl _)) (LeO.none _)) (LeO.refl _))
set_option maxHeartbeats 4000000 in
set_option maxRecDepth 100000 in
theorem impl_IsScheme.calls (k : Nat) (a0 a1 : Int) (a2 : ByteArray) (r : Bool) (w : World) (h : impl_IsScheme.f k a0 a1 a2 = some r) :
  Calls Tryz.prog 77 #[.int .i64 a0, .int .i64 a1, .string a2] w fun e w' => e = .returned (.bool r) ∧ Below w.heap.size w w' := by
 unfold impl_IsScheme.f at h
 obtain ⟨b, hb, h0⟩ := Option.bind_eq_some_iff.1 h
 clear h
 have HB := Aside0.mk hb
 clear hb
 cases b with
 | false =>
  rw [if_neg (by simp)] at h0
  injection h0 with e1
  subst e1
  go_enter Tryz.func77, Tryz.ntmps77
  go_wp2_with (go_at_call 60; (with_reducible refine (impl_isSheet.calls a0 a1 false _ HB.out).mono ?_); rintro e w1 ⟨rfl, ⟨nd, rfl⟩⟩)
  go_ret
  exact ⟨rfl, pw_below_drewN (Below.refl _ _) _⟩
 | true =>
  rw [if_pos rfl] at h0
  by_cases hs : a2.size ≤ 1048576
  ·rw [if_pos hs] at h0
   have hcon := fun W => Go.Proofs.Any.strings_Trim_laid lay_trim (by kernel_rfl) a2 ⟨#[76, 82, 84, 66]⟩ W (by omega) (by decide) (Go.Proofs.ascii_of_all (by decide))
   change ∀ W, Calls Tryz.prog 92 #[.string a2, .string ⟨#[76, 82, 84, 66]⟩] W (fun e w' => e = .returned (.string ⟨(Go.Lib.trimS a2.data.toList [76, 82, 84, 66]).toArray⟩) ∧ Below W.heap.size W w') at hcon
   have hc1 := fun W => Go.Proofs.Any.strings_Count_one lay_count a2 76 W
   have hc2 := fun W => Go.Proofs.Any.strings_Count_one lay_count a2 82 W
   change ∀ W, Calls Tryz.prog 93 #[.string a2, .string ⟨#[76]⟩] W (fun e w' => e = .returned (.int .i64 (Go.Lib.countByte a2.data.toList 76)) ∧ w' = W) at hc1
   change ∀ W, Calls Tryz.prog 93 #[.string a2, .string ⟨#[82]⟩] W (fun e w' => e = .returned (.int .i64 (Go.Lib.countByte a2.data.toList 82)) ∧ w' = W) at hc2
   generalize Go.Lib.trimS a2.data.toList [76, 82, 84, 66] = t at hcon h0
   have hn1 : Go.Lib.countByte a2.data.toList 76 ≤ 1048576 := Nat.le_trans List.count_le_length (by simpa using hs)
   have hn2 : Go.Lib.countByte a2.data.toList 82 ≤ 1048576 := Nat.le_trans List.count_le_length (by simpa using hs)
   unfold lrcount at h0
   generalize Go.Lib.countByte a2.data.toList 76 = n1 at hc1 hn1 h0
   generalize Go.Lib.countByte a2.data.toList 82 = n2 at hc2 hn2 h0
   have e1 : wrap64 ((n1 : Int) + (n2 : Int)) = (n1 : Int) + (n2 : Int) := by unfold wrap64; omega
   have e2 : wrap64 ((a2.size : Int) - ((n1 : Int) + (n2 : Int))) = (a2.size : Int) - ((n1 : Int) + (n2 : Int)) := by unfold wrap64; omega
   rw [show ((n1 + n2 : Nat) : Int) = (n1 : Int) + (n2 : Int) from Int.natCast_add _ _] at h0
   cases t with
   | cons c t =>
    rw [if_neg (by simp)] at h0
    injection h0 with e3
    subst e3
    obtain ⟨S, hS⟩ : ∃ S : ByteArray, (⟨(c :: t).toArray⟩ : ByteArray) = S := ⟨_, rfl⟩
    rw [hS] at hcon
    have z1 : S.toList.isEmpty = false := by rw [← hS, ByteArray.toList_eq]; rfl
    clear hS hn1 hn2 hc1 hc2 hs
    go_enter Tryz.func77, Tryz.ntmps77
    go_wp2_with (first | (go_at_call 60; (with_reducible refine (impl_isSheet.calls a0 a1 true _ HB.out).mono ?_); rintro e w1 ⟨rfl, ⟨nd, rfl⟩⟩) | (go_at_call 92; (with_reducible refine (hcon _).mono ?_); rintro e w2 ⟨rfl, hb2⟩; have HB2 := Aside0.mk hb2; clear hb2))
    go_ret
    exact ⟨rfl, (pw_below_drewN (Below.refl _ _) nd).trans (HB2.out.mono (below_size (pw_below_drewN (Below.refl w.heap.size w) nd)))⟩
   | nil =>
    rw [if_pos rfl] at h0
    obtain ⟨x, hx, h1⟩ := Option.bind_eq_some_iff.1 h0
    clear h0
    have HX := Aside0.mk hx
    have hcon2 : ∀ W, Calls Tryz.prog 92 #[.string a2, .string ⟨#[76, 82, 84, 66]⟩] W (fun e w' => e = .returned (.string ⟨#[]⟩) ∧ Below W.heap.size W w') := hcon
    clear hx hcon hn1 hn2 hs
    by_cases hc : (n1 : Int) + (n2 : Int) = x
    ·rw [if_pos hc] at h1
     obtain ⟨y, hy, h2⟩ := Option.bind_eq_some_iff.1 h1
     clear h1
     injection h2 with e3
     subst e3
     have HY := Aside0.mk hy
     clear hy
     have d1 : (((n1 : Int) + (n2 : Int)) == x) = true := by rw [hc]; exact beq_self_eq_true _
     have d2 : ∀ q : Int, (q == y) = decide (q = y) := fun q => rfl
     have HC := Aside0.mk hc
     clear hc
     go_enter Tryz.func77, Tryz.ntmps77
     go_wp2_with (first | (go_at_call 60; (with_reducible refine (impl_isSheet.calls a0 a1 true _ HB.out).mono ?_); rintro e w1 ⟨rfl, ⟨nd, rfl⟩⟩) | (go_at_call 92; (with_reducible refine (hcon2 _).mono ?_); rintro e w2 ⟨rfl, hb2⟩; have HB2 := Aside0.mk hb2; clear hb2) | (go_at_call 93; (with_reducible refine (hc1 _).mono ?_); rintro e w3 ⟨rfl, rfl⟩) | (go_at_call 93; (with_reducible refine (hc2 _).mono ?_); rintro e w3 ⟨rfl, rfl⟩) | (go_at_call 74; (with_reducible refine (impl_halvings.calls k a0 x _ HX.out).mono ?_); rintro e w4 ⟨rfl, ⟨nd4, rfl⟩⟩) | (go_at_call 74; (with_reducible refine (impl_halvings.calls k a1 y _ HY.out).mono ?_); rintro e w5 ⟨rfl, ⟨nd5, rfl⟩⟩))
     go_ret
     have hb3 : Below w.heap.size w w3 := (pw_below_drewN (Below.refl _ _) nd).trans (HB2.out.mono (below_size (pw_below_drewN (Below.refl w.heap.size w) nd)))
     exact ⟨rfl, pw_below_drewN hb3 _⟩
    ·rw [if_neg hc] at h1
     injection h1 with e3
     subst e3
     have d1 : (((n1 : Int) + (n2 : Int)) == x) = false := beq_false_of_ne hc
     have HC := Aside0.mk hc
     clear hc
     go_enter Tryz.func77, Tryz.ntmps77
     go_wp2_with (first | (go_at_call 60; (with_reducible refine (impl_isSheet.calls a0 a1 true _ HB.out).mono ?_); rintro e w1 ⟨rfl, ⟨nd, rfl⟩⟩) | (go_at_call 92; (with_reducible refine (hcon2 _).mono ?_); rintro e w2 ⟨rfl, hb2⟩; have HB2 := Aside0.mk hb2; clear hb2) | (go_at_call 93; (with_reducible refine (hc1 _).mono ?_); rintro e w3 ⟨rfl, rfl⟩) | (go_at_call 93; (with_reducible refine (hc2 _).mono ?_); rintro e w3 ⟨rfl, rfl⟩) | (go_at_call 74; (with_reducible refine (impl_halvings.calls k a0 x _ HX.out).mono ?_); rintro e w4 ⟨rfl, ⟨nd4, rfl⟩⟩))
     go_ret
     have hb3 : Below w.heap.size w w3 := (pw_below_drewN (Below.refl _ _) nd).trans (HB2.out.mono (below_size (pw_below_drewN (Below.refl w.heap.size w) nd)))
     exact ⟨rfl, pw_below_drewN hb3 _⟩
  ·rw [if_neg hs] at h0; cases h0

end Go.Proofs.YtkpidjmhdagkfaaGreatDoor.QFnExactReadForm
-- halved
