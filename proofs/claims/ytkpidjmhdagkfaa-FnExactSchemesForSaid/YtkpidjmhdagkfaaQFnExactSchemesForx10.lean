-- Written by own_print.py of this session's repo over the kit's print (its output, turned at some places).
import Derived.Test.YtkpidjmhdagkfaaQFnExactSchemesForx0
import Derived.Test.YtkpidjmhdagkfaaQFnExactSchemesForx8
import Derived.Test.YtkpidjmhdagkfaaQFnExactSchemesForx9
namespace Go.Proofs.Ytkpidjmhdagkfaa.QFnExactSchemesFor
open Go.RowKit Go.Proofs.YtkpidjmhdagkfaaW.PrintWords Go.Proofs.YtkpidjmhdagkfaaW.PrintLast Go.Proofs.YtkpidjmhdagkfaaW.PrintMore
attribute [local go_sem] max2_int min2_int max_two min_two max_three min_three max_four min_four   -- for this text's walks alone
set_option linter.unusedVariables false
set_option linter.unusedSimpArgs false

/-! ### impl_IsForm: function 12 -/
mutual
def impl_IsForm.j0 : Nat → Bool → Int → Int → List Int → List Int → List Int → Option (Bool)
 | 0, _, _, _, _, _, _ => none
 | k + 1, x42, x375000, x375001, x375002, x375003, x375004 => if x42 = true then (some false) else ((slices_Concat_int64_int64.f k (([x375002, x375003] : List (List Int)))).bind fun t383 => ((slices_Sorted_int64.f t383).bind fun t386 => (impl_IsForm.l0 k t386 t386 (t386.length : Int) 0)))
def impl_IsForm.l0 : Nat → List Int → List Int → Int → Int → Option (Bool)
 | 0, _, _, _, _ => none
 | k + 1, x4, x51, x52, x53 => if x53 < x52 then (if 0 ≤ x53 then (if x53 < (x51.length : Int) then (if 0 < (x4.length : Int) then ((impl_inRange.f (rd x4 0) 1 1000000000).bind fun t391 => (if t391 = true then (if (rd x51 x53) = (wrap64 ((rd x4 0) + x53)) then (impl_IsForm.l0 k x4 x51 x52 (wrap64 (x53 + 1))) else (some false)) else (some false))) else (none)) else (none)) else (none)) else (some true)
end
def impl_IsForm.f (k : Nat) (a0_0 : Int) (a0_1 : Int) (l0_2 : List Int) (l0_3 : List Int) (l0_4 : List Int) : Option (Bool) := (impl_isSheet.f a0_0 a0_1).bind fun t375 => (if t375 = true then ((impl_length_int64.f l0_2).bind fun t376 => (if t376 = (wrap64 (a0_0 * a0_1)) then ((impl_length_int64.f l0_3).bind fun t377 => (if t377 = (wrap64 (a0_0 * a0_1)) then ((impl_length_int64.f l0_4).bind fun t378 => (if t378 = (wrap64 (a0_0 * a0_1)) then ((impl_allIn.f l0_4 0 1).bind fun t379 => (impl_IsForm.j0 k (!t379) a0_0 a0_1 l0_2 l0_3 l0_4)) else (impl_IsForm.j0 k true a0_0 a0_1 l0_2 l0_3 l0_4))) else (impl_IsForm.j0 k true a0_0 a0_1 l0_2 l0_3 l0_4))) else (impl_IsForm.j0 k true a0_0 a0_1 l0_2 l0_3 l0_4))) else (some false))
theorem impl_IsForm.mono_l : ∀ k, (∀ y0 y1 y2 y3 y4 y5, LeO (impl_IsForm.j0 k y0 y1 y2 y3 y4 y5) (impl_IsForm.j0 (k + 1) y0 y1 y2 y3 y4 y5)) ∧ (∀ y0 y1 y2 y3, LeO (impl_IsForm.l0 k y0 y1 y2 y3) (impl_IsForm.l0 (k + 1) y0 y1 y2 y3))
 | 0 => ⟨fun _ _ _ _ _ _ r h => by simp [impl_IsForm.j0] at h, fun _ _ _ _ r h => by simp [impl_IsForm.l0] at h⟩
 | k + 1 => by
  obtain ⟨ih0, ih1⟩ := impl_IsForm.mono_l k
  refine ⟨?_, ?_⟩
  ·intro y0 y1 y2 y3 y4 y5
   unfold impl_IsForm.j0
   repeat' first
   | (with_reducible exact ih0 _ _ _ _ _ _)
   | (with_reducible exact ih1 _ _ _ _)
   | (with_reducible exact slices_Concat_int64_int64.mono _ _)
   | (with_reducible exact LeO.refl _)
   | (with_reducible exact LeO.none _)
   | (with_reducible refine LeO.ite ?_ ?_)
   | (with_reducible refine LeO.bind ?_ (fun _ => ?_))
   | exact ih0 _ _ _ _ _ _
   | exact ih1 _ _ _ _
   | exact slices_Concat_int64_int64.mono _ _
   | exact LeO.none _
   | refine LeO.ite ?_ ?_
   | refine LeO.bind ?_ (fun _ => ?_)
  ·intro y0 y1 y2 y3
   unfold impl_IsForm.l0
   repeat' first
   | (with_reducible exact ih0 _ _ _ _ _ _)
   | (with_reducible exact ih1 _ _ _ _)
   | (with_reducible exact slices_Concat_int64_int64.mono _ _)
   | (with_reducible exact LeO.refl _)
   | (with_reducible exact LeO.none _)
   | (with_reducible refine LeO.ite ?_ ?_)
   | (with_reducible refine LeO.bind ?_ (fun _ => ?_))
   | exact ih0 _ _ _ _ _ _
   | exact ih1 _ _ _ _
   | exact slices_Concat_int64_int64.mono _ _
   | exact LeO.none _
   | refine LeO.ite ?_ ?_
   | refine LeO.bind ?_ (fun _ => ?_)
theorem impl_IsForm.mono : ∀ a0 a1 a2 a3 a4 k, LeO (impl_IsForm.f k a0 a1 a2 a3 a4) (impl_IsForm.f (k + 1) a0 a1 a2 a3 a4) := by
 intro a0 a1 a2 a3 a4 k
 obtain ⟨ih0, ih1⟩ := impl_IsForm.mono_l k
 unfold impl_IsForm.f
 repeat' first
   | (with_reducible exact ih0 _ _ _ _ _ _)
   | (with_reducible exact ih1 _ _ _ _)
   | (with_reducible exact slices_Concat_int64_int64.mono _ _)
   | (with_reducible exact LeO.refl _)
   | (with_reducible exact LeO.none _)
   | (with_reducible refine LeO.ite ?_ ?_)
   | (with_reducible refine LeO.bind ?_ (fun _ => ?_))
   | exact ih0 _ _ _ _ _ _
   | exact ih1 _ _ _ _
   | exact slices_Concat_int64_int64.mono _ _
   | exact LeO.none _
   | refine LeO.ite ?_ ?_
   | refine LeO.bind ?_ (fun _ => ?_)
set_option maxHeartbeats 8000000 in
set_option maxRecDepth 100000 in
theorem impl_IsForm.calls (k : Nat) (a0_0 : Int) (a0_1 : Int) (P0_2_ : Nat → Prop) (A0_2 : Option Addr) (c0_2 : Nat) (l0_2 : List Int) (P0_3_ : Nat → Prop) (A0_3 : Option Addr) (c0_3 : Nat) (l0_3 : List Int) (A0_4 : Option Addr) (c0_4 : Nat) (l0_4 : List Int) (r : Bool) (w : World) (hs0_2 : Kd.V (Kd.int .i64) 2 w w.heap.size (fun k_ => P0_2_ k_) (.slice A0_2 l0_2.length c0_2) l0_2) (hs0_3 : Kd.V (Kd.int .i64) 2 w w.heap.size (fun k_ => P0_3_ k_) (.slice A0_3 l0_3.length c0_3) l0_3) (hr0_4 : Kd.C (Kd.int .i64) w A0_4 l0_4.length l0_4) (hc0_4 : l0_4.length ≤ c0_4) (h : impl_IsForm.f k a0_0 a0_1 l0_2 l0_3 l0_4 = some r) :
  Calls Try.prog 12 #[.agg #[.int .i64 a0_0, .int .i64 a0_1, .slice A0_2 l0_2.length c0_2, .slice A0_3 l0_3.length c0_3, .slice A0_4 l0_4.length c0_4]] w fun e w' => e = .returned (.bool r) ∧ Below w.heap.size w w' := by
 have hu27 := Try.underlying27
 have HO0_2 := a_ (show Kd.V (Kd.int .i64) 2 w w.heap.size (fun k_ => ((P0_2_ k_ ∨ P0_3_ k_) ∨ w.heap.size ≤ k_)) (.slice A0_2 l0_2.length c0_2) l0_2 from Kd.V_mono hs0_2 (fun k_ hk => .inl (.inl hk)))
 have HO0_3 := a_ (show Kd.V (Kd.int .i64) 2 w w.heap.size (fun k_ => ((P0_2_ k_ ∨ P0_3_ k_) ∨ w.heap.size ≤ k_)) (.slice A0_3 l0_3.length c0_3) l0_3 from Kd.V_mono hs0_3 (fun k_ hk => .inl (.inr hk)))
 have HR0_4 := Aside0.mk hr0_4
 have HC0_4 := Aside0.mk hc0_4
 clear hr0_4 hc0_4
 have HB := a_ (Below.refl w.heap.size w)
 have H : ((impl_isSheet.f a0_0 a0_1).bind fun t375 => (if t375 = true then ((impl_length_int64.f l0_2).bind fun t376 => (if t376 = (wrap64 (a0_0 * a0_1)) then ((impl_length_int64.f l0_3).bind fun t377 => (if t377 = (wrap64 (a0_0 * a0_1)) then ((impl_length_int64.f l0_4).bind fun t378 => (if t378 = (wrap64 (a0_0 * a0_1)) then ((impl_allIn.f l0_4 0 1).bind fun t379 => (impl_IsForm.j0 k (!t379) a0_0 a0_1 l0_2 l0_3 l0_4)) else (impl_IsForm.j0 k true a0_0 a0_1 l0_2 l0_3 l0_4))) else (impl_IsForm.j0 k true a0_0 a0_1 l0_2 l0_3 l0_4))) else (impl_IsForm.j0 k true a0_0 a0_1 l0_2 l0_3 l0_4))) else (some false))) = some r := h
 clear h
 replace H := Option.bind_eq_some_iff.mp H
 obtain ⟨t375, A20, H⟩ := H
 replace H : (if t375 = true then ((impl_length_int64.f l0_2).bind fun t376 => (if t376 = (wrap64 (a0_0 * a0_1)) then ((impl_length_int64.f l0_3).bind fun t377 => (if t377 = (wrap64 (a0_0 * a0_1)) then ((impl_length_int64.f l0_4).bind fun t378 => (if t378 = (wrap64 (a0_0 * a0_1)) then ((impl_allIn.f l0_4 0 1).bind fun t379 => (impl_IsForm.j0 k (!t379) a0_0 a0_1 l0_2 l0_3 l0_4)) else (impl_IsForm.j0 k true a0_0 a0_1 l0_2 l0_3 l0_4))) else (impl_IsForm.j0 k true a0_0 a0_1 l0_2 l0_3 l0_4))) else (impl_IsForm.j0 k true a0_0 a0_1 l0_2 l0_3 l0_4))) else (some false)) = some r := H
 have A2 := Aside0.mk A20
 clear A20
 by_cases c3 : t375 = true
 ·subst c3
  have H1 : ((impl_length_int64.f l0_2).bind fun t376 => (if t376 = (wrap64 (a0_0 * a0_1)) then ((impl_length_int64.f l0_3).bind fun t377 => (if t377 = (wrap64 (a0_0 * a0_1)) then ((impl_length_int64.f l0_4).bind fun t378 => (if t378 = (wrap64 (a0_0 * a0_1)) then ((impl_allIn.f l0_4 0 1).bind fun t379 => (impl_IsForm.j0 k (!t379) a0_0 a0_1 l0_2 l0_3 l0_4)) else (impl_IsForm.j0 k true a0_0 a0_1 l0_2 l0_3 l0_4))) else (impl_IsForm.j0 k true a0_0 a0_1 l0_2 l0_3 l0_4))) else (impl_IsForm.j0 k true a0_0 a0_1 l0_2 l0_3 l0_4))) = some r := by rw [if_pos rfl] at H; exact H
  clear H
  have H := H1
  clear H1
  have HC4 := Aside0.mk H
  clear H
  go_enter Try.func12, Try.ntmps12
  go_upto_region 4 with (first | ((with_reducible refine gate_dst (N := 1) rfl ?_); refine box_event ?hg (N := 1) ?hd (cs := #[.int .i64 a0_0, .int .i64 a0_1, .slice A0_2 l0_2.length c0_2, .slice A0_3 l0_3.length c0_3, .slice A0_4 l0_4.length c0_4]) (t := 27) ?hr ?_; (case hd => rfl); (case hg => rfl); (case hr => first | (go_simp; done) | (go_simp; rfl)); intro gb374 hg w5 hbox hb; replace HO0_2 := a_ (Kd.V_below (Kd.V_elderB z62_ gb374 (Nat.le_of_eq hg.symm)) hb); replace HO0_3 := a_ (Kd.V_below (Kd.V_elderB z63_ gb374 (Nat.le_of_eq hg.symm)) hb); have BK374 := a_ (hbox); have GW374 := a_ ((z30_ : w.heap.size ≤ gb374)); have GE374 := a_ ((z30_ : w.heap.size ≤ gb374)); replace HB := a_ (below_step z31_ hb); clear hb hbox hg; obtain ⟨hcz6_0, hcz6_1, hcz6_2, hcz6_3, hcz6_4, hfz6_0, hfz6_1, hfz6_2, hfz6_3, hfz6_4⟩ := cz5_ (w := w5) BK374.out) | ((with_reducible refine gate_callee (f := 39) rfl ?_); refine goesL_ (some 11) rfl rfl Try.func39 (by kernel_rfl) rfl #[.int .i64 a0_0, .int .i64 a0_1] rfl z34_ ?_; (with_reducible refine (impl_isSheet.calls a0_0 a0_1 true _ A2.out).mono ?_); rintro e w' ⟨rfl, ⟨nd, rfl⟩⟩; refine ⟨_, rfl, ?_⟩))
  (try simp only [Act.put, List.setIfInBounds_toArray, List.set_cons_zero, List.set_cons_succ])
  go_cut [42] (fun v42 wc => ∃ (kq : Nat) (x42_3 : Bool), v42 = .bool x42_3 ∧ Aside0 (impl_IsForm.j0 kq x42_3 a0_0 a0_1 l0_2 l0_3 l0_4 = some r) ∧ Aside0 (kq ≤ k) ∧ Aside0 (Kd.V (Kd.int .i64) 2 wc w.heap.size (fun k_ => ((P0_2_ k_ ∨ P0_3_ k_) ∨ w.heap.size ≤ k_) ∧ k_ ≠ gb374) (.slice A0_2 l0_2.length c0_2) l0_2) ∧ Aside0 (Kd.V (Kd.int .i64) 2 wc w.heap.size (fun k_ => ((P0_2_ k_ ∨ P0_3_ k_) ∨ w.heap.size ≤ k_) ∧ k_ ≠ gb374) (.slice A0_3 l0_3.length c0_3) l0_3) ∧ Aside0 (wc.heap[gb374]? = some (.cells #[.int .i64 a0_0, .int .i64 a0_1, (.slice A0_2 l0_2.length c0_2), (.slice A0_3 l0_3.length c0_3), (.slice A0_4 l0_4.length c0_4)] 27 (0, 0))) ∧ Aside0 (Below w.heap.size w wc))
  case first =>
   have H := HC4.out
   clear HC4
   replace H := Option.bind_eq_some_iff.mp H
   obtain ⟨t376, A70, H⟩ := H
   replace H : (if t376 = (wrap64 (a0_0 * a0_1)) then ((impl_length_int64.f l0_3).bind fun t377 => (if t377 = (wrap64 (a0_0 * a0_1)) then ((impl_length_int64.f l0_4).bind fun t378 => (if t378 = (wrap64 (a0_0 * a0_1)) then ((impl_allIn.f l0_4 0 1).bind fun t379 => (impl_IsForm.j0 k (!t379) a0_0 a0_1 l0_2 l0_3 l0_4)) else (impl_IsForm.j0 k true a0_0 a0_1 l0_2 l0_3 l0_4))) else (impl_IsForm.j0 k true a0_0 a0_1 l0_2 l0_3 l0_4))) else (impl_IsForm.j0 k true a0_0 a0_1 l0_2 l0_3 l0_4)) = some r := H
   have A7 := Aside0.mk A70
   clear A70
   by_cases c8 : t376 = (wrap64 (a0_0 * a0_1))
   ·rw [if_pos c8] at H
    have c8b0 : (t376 == (wrap64 (a0_0 * a0_1))) = true := beq_iff_eq.mpr c8
    have c8b1 : (t376 != (wrap64 (a0_0 * a0_1))) = false := bne_eq_false_iff_eq.mpr c8
    clear c8
    (first | rw [c8b0] | (simp only [i64_w, i32_w]; rw [c8b0]) | skip)
    replace H := Option.bind_eq_some_iff.mp H
    obtain ⟨t377, A90, H⟩ := H
    replace H : (if t377 = (wrap64 (a0_0 * a0_1)) then ((impl_length_int64.f l0_4).bind fun t378 => (if t378 = (wrap64 (a0_0 * a0_1)) then ((impl_allIn.f l0_4 0 1).bind fun t379 => (impl_IsForm.j0 k (!t379) a0_0 a0_1 l0_2 l0_3 l0_4)) else (impl_IsForm.j0 k true a0_0 a0_1 l0_2 l0_3 l0_4))) else (impl_IsForm.j0 k true a0_0 a0_1 l0_2 l0_3 l0_4)) = some r := H
    have A9 := Aside0.mk A90
    clear A90
    by_cases c10 : t377 = (wrap64 (a0_0 * a0_1))
    ·rw [if_pos c10] at H
     have c10b0 : (t377 == (wrap64 (a0_0 * a0_1))) = true := beq_iff_eq.mpr c10
     have c10b1 : (t377 != (wrap64 (a0_0 * a0_1))) = false := bne_eq_false_iff_eq.mpr c10
     clear c10
     replace H := Option.bind_eq_some_iff.mp H
     obtain ⟨t378, A110, H⟩ := H
     replace H : (if t378 = (wrap64 (a0_0 * a0_1)) then ((impl_allIn.f l0_4 0 1).bind fun t379 => (impl_IsForm.j0 k (!t379) a0_0 a0_1 l0_2 l0_3 l0_4)) else (impl_IsForm.j0 k true a0_0 a0_1 l0_2 l0_3 l0_4)) = some r := H
     have A11 := Aside0.mk A110
     clear A110
     by_cases c12 : t378 = (wrap64 (a0_0 * a0_1))
     ·rw [if_pos c12] at H
      have c12b0 : (t378 == (wrap64 (a0_0 * a0_1))) = true := beq_iff_eq.mpr c12
      have c12b1 : (t378 != (wrap64 (a0_0 * a0_1))) = false := bne_eq_false_iff_eq.mpr c12
      clear c12
      replace H := Option.bind_eq_some_iff.mp H
      obtain ⟨t379, A130, H⟩ := H
      replace H : (impl_IsForm.j0 k (!t379) a0_0 a0_1 l0_2 l0_3 l0_4) = some r := H
      have A13 := Aside0.mk A130
      clear A130
      have H' := Aside0.mk H
      clear H
      obtain ⟨hcz14_0, hcz14_1, hcz14_2, hcz14_3, hcz14_4, hfz14_0, hfz14_1, hfz14_2, hfz14_3, hfz14_4⟩ := cz5_ (w := w5) BK374.out
      go_wp2_with (first | ((with_reducible refine gate_callee (f := 40) rfl ?_); refine goesL_ (some 20) rfl rfl Try.func40 (by kernel_rfl) rfl #[.slice A0_2 l0_2.length c0_2] rfl z34_ ?_; (with_reducible refine (impl_length_int64.calls _ _ l0_2 t376 _ ?side1 ?side2 A7.out).mono ?_); (case side1 => exact z13_); (case side2 => exact (Kd.V_reads' HO0_2.out).2.1); rintro e w' ⟨rfl, ⟨nd, rfl⟩⟩; refine ⟨_, rfl, ?_⟩) | (go_at_call 40; (with_reducible refine (impl_length_int64.calls _ _ l0_3 t377 _ ?side1 ?side2 A9.out).mono ?_); (case side1 => exact z14_); (case side2 => exact (Kd.V_reads' HO0_3.out).2.1); rintro e w' ⟨rfl, ⟨nd, rfl⟩⟩) | (go_at_call 40; (with_reducible refine (impl_length_int64.calls _ _ l0_4 t378 _ ?side1 ?side2 A11.out).mono ?_); (case side1 => exact z3_); (case side2 => exact HC0_4.out); rintro e w' ⟨rfl, ⟨nd, rfl⟩⟩) | (go_at_call 41; (with_reducible refine (impl_allIn.calls _ _ l0_4 0 1 t379 _ ?side1 ?side2 A13.out).mono ?_); (case side1 => exact z3_); (case side2 => exact HC0_4.out); rintro e w15 ⟨rfl, hb⟩; replace HO0_2 := a_ (Kd.V_below z62_ hb); replace HO0_3 := a_ (Kd.V_below z63_ hb); replace BK374 := a_ (blk_below (g := gb374) (rb_ BK374.out) hb); replace HB := a_ (below_step z26_ hb); (try clear hb); (try clear hb2); (try clear hk); (try clear hi)))
      go_meet
      case rel => exact ⟨_, (!t379), z81_, H', ⟨z84_⟩, ⟨z62_⟩, ⟨z63_⟩, ⟨z57_⟩, ⟨z26_⟩⟩
     ·rw [if_neg c12] at H
      have c12b0 : (t378 == (wrap64 (a0_0 * a0_1))) = false := beq_eq_false_iff_ne.mpr c12
      have c12b1 : (t378 != (wrap64 (a0_0 * a0_1))) = true := bne_iff_ne.mpr c12
      have H' := Aside0.mk H
      clear H
      obtain ⟨hcz16_0, hcz16_1, hcz16_2, hcz16_3, hcz16_4, hfz16_0, hfz16_1, hfz16_2, hfz16_3, hfz16_4⟩ := cz5_ (w := w5) BK374.out
      go_wp2_with (first | ((with_reducible refine gate_callee (f := 40) rfl ?_); refine goesL_ (some 20) rfl rfl Try.func40 (by kernel_rfl) rfl #[.slice A0_2 l0_2.length c0_2] rfl z34_ ?_; (with_reducible refine (impl_length_int64.calls _ _ l0_2 t376 _ ?side1 ?side2 A7.out).mono ?_); (case side1 => exact z13_); (case side2 => exact (Kd.V_reads' HO0_2.out).2.1); rintro e w' ⟨rfl, ⟨nd, rfl⟩⟩; refine ⟨_, rfl, ?_⟩) | (go_at_call 40; (with_reducible refine (impl_length_int64.calls _ _ l0_3 t377 _ ?side1 ?side2 A9.out).mono ?_); (case side1 => exact z14_); (case side2 => exact (Kd.V_reads' HO0_3.out).2.1); rintro e w' ⟨rfl, ⟨nd, rfl⟩⟩) | (go_at_call 40; (with_reducible refine (impl_length_int64.calls _ _ l0_4 t378 _ ?side1 ?side2 A11.out).mono ?_); (case side1 => exact z3_); (case side2 => exact HC0_4.out); rintro e w' ⟨rfl, ⟨nd, rfl⟩⟩))
      go_meet
      case rel => exact ⟨_, (true), z81_, H', ⟨z84_⟩, ⟨z62_⟩, ⟨z63_⟩, ⟨z57_⟩, ⟨z26_⟩⟩
    ·rw [if_neg c10] at H
     have c10b0 : (t377 == (wrap64 (a0_0 * a0_1))) = false := beq_eq_false_iff_ne.mpr c10
     have c10b1 : (t377 != (wrap64 (a0_0 * a0_1))) = true := bne_iff_ne.mpr c10
     have H' := Aside0.mk H
     clear H
     obtain ⟨hcz17_0, hcz17_1, hcz17_2, hcz17_3, hcz17_4, hfz17_0, hfz17_1, hfz17_2, hfz17_3, hfz17_4⟩ := cz5_ (w := w5) BK374.out
     go_wp2_with (first | ((with_reducible refine gate_callee (f := 40) rfl ?_); refine goesL_ (some 20) rfl rfl Try.func40 (by kernel_rfl) rfl #[.slice A0_2 l0_2.length c0_2] rfl z34_ ?_; (with_reducible refine (impl_length_int64.calls _ _ l0_2 t376 _ ?side1 ?side2 A7.out).mono ?_); (case side1 => exact z13_); (case side2 => exact (Kd.V_reads' HO0_2.out).2.1); rintro e w' ⟨rfl, ⟨nd, rfl⟩⟩; refine ⟨_, rfl, ?_⟩) | (go_at_call 40; (with_reducible refine (impl_length_int64.calls _ _ l0_3 t377 _ ?side1 ?side2 A9.out).mono ?_); (case side1 => exact z14_); (case side2 => exact (Kd.V_reads' HO0_3.out).2.1); rintro e w' ⟨rfl, ⟨nd, rfl⟩⟩))
     go_meet
     case rel => exact ⟨_, (true), z81_, H', ⟨z84_⟩, ⟨z62_⟩, ⟨z63_⟩, ⟨z57_⟩, ⟨z26_⟩⟩
   ·rw [if_neg c8] at H
    have c8b0 : (t376 == (wrap64 (a0_0 * a0_1))) = false := beq_eq_false_iff_ne.mpr c8
    have c8b1 : (t376 != (wrap64 (a0_0 * a0_1))) = true := bne_iff_ne.mpr c8
    (first | rw [c8b0] | (simp only [i64_w, i32_w]; rw [c8b0]) | skip)
    have H' := Aside0.mk H
    clear H
    obtain ⟨hcz18_0, hcz18_1, hcz18_2, hcz18_3, hcz18_4, hfz18_0, hfz18_1, hfz18_2, hfz18_3, hfz18_4⟩ := cz5_ (w := w5) BK374.out
    go_wp2_with (first | ((with_reducible refine gate_callee (f := 40) rfl ?_); refine goesL_ (some 20) rfl rfl Try.func40 (by kernel_rfl) rfl #[.slice A0_2 l0_2.length c0_2] rfl z34_ ?_; (with_reducible refine (impl_length_int64.calls _ _ l0_2 t376 _ ?side1 ?side2 A7.out).mono ?_); (case side1 => exact z13_); (case side2 => exact (Kd.V_reads' HO0_2.out).2.1); rintro e w' ⟨rfl, ⟨nd, rfl⟩⟩; refine ⟨_, rfl, ?_⟩))
    go_meet
    case rel => exact ⟨_, (true), z81_, H', ⟨z84_⟩, ⟨z62_⟩, ⟨z63_⟩, ⟨z57_⟩, ⟨z26_⟩⟩
  case rest =>
   clear HC4; try clear c3; try clear hcz6_0 hcz6_1 hcz6_2 hcz6_3 hcz6_4; try clear hfz6_0 hfz6_1 hfz6_2 hfz6_3 hfz6_4
   obtain ⟨kq, x42_3, rfl, HA, HJ3, HO_375002, HO_375003, BK374, HB⟩ := hcut
   cases kq with
   | zero => exact absurd HA.out (by simp [impl_IsForm.j0])
   | succ kj3 =>
    have H := HA.out
    clear HA
    simp only [impl_IsForm.j0] at H
    by_cases c19 : x42_3 = true
    ·subst c19
     have H1 : (some false) = some r := by rw [if_pos rfl] at H; exact H
     clear H
     have H := H1
     clear H1
     obtain rfl := Option.some.inj H
     go_wp2
     go_ret
     exact ⟨z32_, z26_⟩
    ·replace c19 := Bool.eq_false_iff.mpr c19
     subst c19
     have H1 : ((slices_Concat_int64_int64.f kj3 (([l0_2, l0_3] : List (List Int)))).bind fun t383 => ((slices_Sorted_int64.f t383).bind fun t386 => (impl_IsForm.l0 kj3 t386 t386 (t386.length : Int) 0))) = some r := by rw [if_neg (show ¬ (false = true) by decide)] at H; exact H
     clear H
     have H := H1
     clear H1
     obtain ⟨y380, hy380⟩ : ∃ y_ : List (List Int), y_ = (([l0_2, l0_3] : List (List Int))) := ⟨_, rfl⟩
     replace H : ((slices_Concat_int64_int64.f kj3 y380).bind fun t383 => ((slices_Sorted_int64.f t383).bind fun t386 => (impl_IsForm.l0 kj3 t386 t386 (t386.length : Int) 0))) = some r := rh_ hy380 H
     have Ny380 := Aside0.mk hy380
     clear hy380
     replace H := Option.bind_eq_some_iff.mp H
     obtain ⟨t383, A200, H⟩ := H
     replace H : ((slices_Sorted_int64.f t383).bind fun t386 => (impl_IsForm.l0 kj3 t386 t386 (t386.length : Int) 0)) = some r := H
     have A20 := Aside0.mk A200
     clear A200
     replace H := Option.bind_eq_some_iff.mp H
     obtain ⟨t386, A210, H⟩ := H
     replace H : (impl_IsForm.l0 kj3 t386 t386 (t386.length : Int) 0) = some r := H
     have A21 := Aside0.mk A210
     clear A210
     have H' := Aside0.mk H
     clear H
     obtain ⟨hcz22_0, hcz22_1, hcz22_2, hcz22_3, hcz22_4, hfz22_0, hfz22_1, hfz22_2, hfz22_3, hfz22_4⟩ := cz5_ (w := wc) BK374.out
     go_wp2_with (first | ((with_reducible refine gate_dst (N := 47) rfl ?_); refine Kd.N_lit (Kd.slice 2 (Kd.int .i64)) _ 22 ?hg (N' := 47) ?hd (xs := ([l0_2, l0_3] : List (List Int))) (inner := [.slice A0_2 l0_2.length c0_2, .slice A0_3 l0_3.length c0_3]) (ok := (fun k_ => ((P0_2_ k_ ∨ P0_3_ k_) ∨ w.heap.size ≤ k_) ∧ k_ ≠ gb374)) (okp := (fun k_ => ((P0_2_ k_ ∨ P0_3_ k_) ∨ w.heap.size ≤ k_) ∧ k_ ≠ gb374)) ?hr ?hp (fun _ hk => hk) ((show ∀ k_, wc.heap.size ≤ k_ → (fun k_ => ((P0_2_ k_ ∨ P0_3_ k_) ∨ w.heap.size ≤ k_) ∧ k_ ≠ gb374) k_ from fun k_ hk => ⟨(.inr (Nat.le_trans (below_size z26_) hk)), Kd.freshB (g := gb374) (rb_ BK374.out) k_ hk⟩) _ (Nat.le_refl _)) (Below.refl _ _) (Nat.le_refl _) (by simp) ?_; (case hd => rfl); (case hg => rfl); (case hr => first | (go_simp; done) | (go_simp; rfl)); (case hp => exact (Reps.one (show Kd.FK (Kd.slice 2 (Kd.int .i64)) _ _ l0_2 [.slice A0_2 l0_2.length c0_2] from (Kd.FK_slice_mk (Kd.V_reads' (Kd.V_mono (ok' := (fun k_ => ((P0_2_ k_ ∨ P0_3_ k_) ∨ w.heap.size ≤ k_) ∧ k_ ≠ gb374)) (HO_375002.out) (fun k_ hk => ⟨hk.1, hk.2⟩))).2.1 (Kd.V_F (Kd.V_mono (ok' := (fun k_ => ((P0_2_ k_ ∨ P0_3_ k_) ∨ w.heap.size ≤ k_) ∧ k_ ≠ gb374)) (HO_375002.out) (fun k_ hk => ⟨hk.1, hk.2⟩))))) (Reps.one (show Kd.FK (Kd.slice 2 (Kd.int .i64)) _ _ l0_3 [.slice A0_3 l0_3.length c0_3] from (Kd.FK_slice_mk (Kd.V_reads' (Kd.V_mono (ok' := (fun k_ => ((P0_2_ k_ ∨ P0_3_ k_) ∨ w.heap.size ≤ k_) ∧ k_ ≠ gb374)) (HO_375003.out) (fun k_ hk => ⟨hk.1, hk.2⟩))).2.1 (Kd.V_F (Kd.V_mono (ok' := (fun k_ => ((P0_2_ k_ ∨ P0_3_ k_) ∨ w.heap.size ≤ k_) ∧ k_ ≠ gb374)) (HO_375003.out) (fun k_ hk => ⟨hk.1, hk.2⟩))))) (Reps.none _ _)))); intro v381 w23 ho24 hb hg_ hnew_; clear hg_ hnew_; (first | rw [← Ny380.out] at ho24 | (simp only [Int.reduceToNat] at ho24; rw [← Ny380.out] at ho24)); replace HO_375002 := a_ (Kd.V_elder' z59_ (Kd.N_base ho24) hb); replace HO_375003 := a_ (Kd.V_elder' z60_ (Kd.N_base ho24) hb); have HO382 := a_ (Kd.N_lower ho24 (below_size z26_)); replace BK374 := a_ (blk_below (g := gb374) (rb_ BK374.out) hb); replace HB := a_ (below_step z26_ hb); clear hb ho24; obtain ⟨Ao25, co25, eo25⟩ := Kd.N_slice HO382.out; subst eo25) | ((with_reducible refine gate_callee (f := 44) rfl ?_); refine goesL_ (some 48) rfl rfl Try.func44 (by kernel_rfl) rfl #[.slice Ao25 y380.length co25] rfl z34_ ?_; (with_reducible refine (slices_Concat_int64_int64.calls kj3 _ _ y380 t383 _ ?side1 ?side2 A20.out).mono ?_); (case side1 => exact (by (repeat (first | exact (Kd.N_reads' HO382.out).2.2 | (with_reducible refine Kd.C_alloc ?_ _) | (with_reducible refine Kd.C_drewN ?_ _) | (with_reducible refine Kd.C_drew ?_))); first | done | fail)); (case side2 => exact (Kd.N_reads' HO382.out).2.1); rintro e w26 ⟨v384, rfl, ho0, hb⟩; refine ⟨_, rfl, ?_⟩; replace HO_375002 := a_ (Kd.V_elder' z59_ (Kd.R_base ho0) hb); replace HO_375003 := a_ (Kd.V_elder' z60_ (Kd.R_base ho0) hb); replace HO382 := a_ (Kd.N_elder' (by (with_reducible repeat (first | apply Kd.N_alloc | apply Kd.N_drewN | apply Kd.N_drew)); exact HO382.out) (Kd.R_base ho0) hb); have HO385 := a_ (Kd.R_lower (Kd.R_newM (M := fun k_ => (w.heap.size ≤ k_)) ho0 (below_size z26_) (fun k_ h_ => h_)) (below_size z26_)); replace BK374 := a_ (blk_below (g := gb374) (rb_ BK374.out) hb); replace HB := a_ (below_step z26_ hb); (try clear hb); (try clear hb2); (try clear hk); (try clear hi); (try clear ho0); obtain ⟨Ao27, co27, eo27⟩ := Kd.R_slice HO385.out; subst eo27) | (go_at_call 43; refine (vs.valuesOf _ _ _ _).mono ?_; rintro e w' ⟨rfl, rfl⟩) | (go_at_call 42; (with_reducible refine (slices_Sorted_int64.calls _ _ t383 t386 _ ?side1 ?side2 A21.out).mono ?_); (case side1 => exact (by (repeat (first | exact (Kd.R_reads' HO385.out).2.2 | (with_reducible refine Kd.C_alloc ?_ _) | (with_reducible refine Kd.C_drewN ?_ _) | (with_reducible refine Kd.C_drew ?_))); first | done | fail)); (case side2 => exact (Kd.R_reads' HO385.out).2.1); rintro e w28 ⟨v387, rfl, ho0, hb⟩; replace HO_375002 := a_ (Kd.V_elder' z59_ (Kd.R_base ho0) hb); replace HO_375003 := a_ (Kd.V_elder' z60_ (Kd.R_base ho0) hb); replace HO382 := a_ (Kd.N_elder' (by (with_reducible repeat (first | apply Kd.N_alloc | apply Kd.N_drewN | apply Kd.N_drew)); exact HO382.out) (Kd.R_base ho0) hb); have HO388 := a_ (Kd.R_lower (Kd.R_new' (Kd.R_newM (M := fun k_ => (w.heap.size ≤ k_)) ho0 (below_size z26_) (fun k_ h_ => h_)) (Kd.R_lt (ra_ HO385.out))) (below_size z26_)); replace HO385 := a_ (Kd.R_elder' (ra_ HO385.out) (Kd.R_base ho0) hb); replace BK374 := a_ (blk_below (g := gb374) (rb_ BK374.out) hb); replace HB := a_ (below_step z26_ hb); (try clear hb); (try clear hb2); (try clear hk); (try clear hi); (try clear ho0); obtain ⟨Ao29, co29, eo29⟩ := Kd.R_slice HO388.out; subst eo29))
     go_loopg [53] kj3 (fun kq v53 w' => ∃ (x53_2 : Int), v53 = .int .i64 x53_2 ∧ Aside0 (impl_IsForm.l0 kq t386 t386 (t386.length : Int) x53_2 = some r) ∧ Aside0 (kq ≤ kj3) ∧ Aside0 (Kd.R (Kd.int .i64) 2 w' w.heap.size (fun k_ => (w.heap.size ≤ k_)) (.slice Ao29 t386.length co29) t386) ∧ Aside0 (Kd.R (Kd.int .i64) 2 w' w.heap.size (fun k_ => (w.heap.size ≤ k_)) (.slice Ao29 t386.length co29) t386) ∧ Aside0 (Kd.V (Kd.int .i64) 2 w' w.heap.size (fun k_ => ((P0_2_ k_ ∨ P0_3_ k_) ∨ w.heap.size ≤ k_) ∧ nb_ k_ Ao29 t386.length co29 ∧ nb_ k_ Ao29 t386.length co29 ∧ k_ ≠ gb374) (.slice A0_2 l0_2.length c0_2) l0_2) ∧ Aside0 (Kd.V (Kd.int .i64) 2 w' w.heap.size (fun k_ => ((P0_2_ k_ ∨ P0_3_ k_) ∨ w.heap.size ≤ k_) ∧ nb_ k_ Ao29 t386.length co29 ∧ nb_ k_ Ao29 t386.length co29 ∧ k_ ≠ gb374) (.slice A0_3 l0_3.length c0_3) l0_3) ∧ Aside0 (w'.heap[gb374]? = some (.cells #[.int .i64 a0_0, .int .i64 a0_1, (.slice A0_2 l0_2.length c0_2), (.slice A0_3 l0_3.length c0_3), (.slice A0_4 l0_4.length c0_4)] 27 (0, 0))) ∧ Aside0 (Below w.heap.size w w'))
     case atStart => exact ⟨(0), z81_, H', ⟨Nat.le_refl _⟩, ⟨by (with_reducible repeat (first | apply Kd.R_alloc | apply Kd.R_drewN | apply Kd.R_drew)); exact Kd.R_mono HO388.out (fun _ hk => hk.1.1)⟩, ⟨by (with_reducible repeat (first | apply Kd.R_alloc | apply Kd.R_drewN | apply Kd.R_drew)); exact Kd.R_mono HO388.out (fun _ hk => hk.1.1)⟩, ⟨by (with_reducible repeat (first | apply Kd.V_alloc | apply Kd.V_drewN | apply Kd.V_drew)); exact Kd.V_mono HO_375002.out (fun _ hk => ⟨hk.1.1.1.1, ⟨hk.2, ⟨hk.2, hk.1.1.1.2⟩⟩⟩)⟩, ⟨by (with_reducible repeat (first | apply Kd.V_alloc | apply Kd.V_drewN | apply Kd.V_drew)); exact Kd.V_mono HO_375003.out (fun _ hk => ⟨hk.1.1.1.1, ⟨hk.2, ⟨hk.2, hk.1.1.1.2⟩⟩⟩)⟩, ⟨z57_⟩, ⟨z26_⟩⟩
     case round =>
      clear H'
      try clear c19; try clear hcz22_0 hcz22_1 hcz22_2 hcz22_3 hcz22_4; try clear hfz22_0 hfz22_1 hfz22_2 hfz22_3 hfz22_4
      obtain ⟨x53_2, rfl, HA, HK2, HO_4, HO_51, HO_375002, HO_375003, BK374, HB⟩ := hrel
      cases gk with
      | zero => exact absurd HA.out (by simp [impl_IsForm.l0])
      | succ k2 =>
       have H := HA.out
       clear HA
       simp only [impl_IsForm.l0] at H
       by_cases c30 : x53_2 < (t386.length : Int)
       ·rw [if_pos c30] at H
        have c30b0 : decide (x53_2 < (t386.length : Int)) = true := decide_eq_true c30
        clear c30
        by_cases c31 : 0 ≤ x53_2
        ·rw [if_pos c31] at H
         have c31b0 : decide (0 ≤ x53_2) = true := decide_eq_true c31
         clear c31
         by_cases c32 : x53_2 < (t386.length : Int)
         ·rw [if_pos c32] at H
          have c32b0 : decide (x53_2 < (t386.length : Int)) = true := decide_eq_true c32
          clear c32
          by_cases c33 : 0 < (t386.length : Int)
          ·rw [if_pos c33] at H
           have c33b0 : decide (0 < (t386.length : Int)) = true := decide_eq_true c33
           have c33b1 : decide (0 < t386.length) = true := decide_eq_true (by omega)
           clear c33
           replace H := Option.bind_eq_some_iff.mp H
           obtain ⟨t391, A340, H⟩ := H
           replace H : (if t391 = true then (if (rd t386 x53_2) = (wrap64 ((rd t386 0) + x53_2)) then (impl_IsForm.l0 k2 t386 t386 (t386.length : Int) (wrap64 (x53_2 + 1))) else (some false)) else (some false)) = some r := H
           have A34 := Aside0.mk A340
           clear A340
           by_cases c35 : t391 = true
           ·subst c35
            have H1 : (if (rd t386 x53_2) = (wrap64 ((rd t386 0) + x53_2)) then (impl_IsForm.l0 k2 t386 t386 (t386.length : Int) (wrap64 (x53_2 + 1))) else (some false)) = some r := by rw [if_pos rfl] at H; exact H
            clear H
            have H := H1
            clear H1
            by_cases c36 : (rd t386 x53_2) = (wrap64 ((rd t386 0) + x53_2))
            ·rw [if_pos c36] at H
             have c36b0 : ((rd t386 x53_2) == (wrap64 ((rd t386 0) + x53_2))) = true := beq_iff_eq.mpr c36
             have c36b1 : ((rd t386 x53_2) != (wrap64 ((rd t386 0) + x53_2))) = false := bne_eq_false_iff_eq.mpr c36
             clear c36
             have H' := Aside0.mk H
             clear H
             have p389 : 0 ≤ (x53_2 : Int) := of_decide_eq_true z80_
             have q389 : x53_2 < (t386.length : Int) := of_decide_eq_true z80_
             obtain ⟨ad389, e389, hx389_0⟩ := Kd.at_int (Kd.R_reads' HO_51.out).2.2 x53_2 p389 q389
             cases e389
             replace p389 := eq_true p389
             replace q389 := eq_true q389
             have p390 : 0 ≤ (0 : Int) := (by omega)
             have q390 : 0 < (t386.length : Int) := of_decide_eq_true z80_
             obtain ⟨ad390, e390, hx390_0⟩ := Kd.at_int (Kd.R_reads' HO_4.out).2.2 0 p390 q390
             obtain rfl : ad389 = ad390 := (by injection e390)
             have qi390 : (0 < t386.length) = True := eq_true (by omega)
             (try rw [show ((0 : Int)).toNat = 0 from rfl] at hx390_0)
             (try rw [Addr.add_zero'] at hx390_0)
             replace p390 := eq_true p390
             replace q390 := eq_true q390
             go_wp2_with (first | ((with_reducible refine gate_callee (f := 45) rfl ?_); refine goesL_ (some 61) rfl rfl Try.func45 (by kernel_rfl) rfl #[.int .i64 (rd t386 0), .int .i64 1, .int .i64 1000000000] rfl z34_ ?_; (with_reducible refine (impl_inRange.calls (rd t386 0) 1 1000000000 true _ A34.out).mono ?_); rintro e w' ⟨rfl, ⟨nd, rfl⟩⟩; refine ⟨_, rfl, ?_⟩; have p392 : 0 ≤ (0 : Int) := (by omega); have q392 : 0 < (t386.length : Int) := of_decide_eq_true z80_; obtain ⟨ad392, e392, hx392_0⟩ := Kd.at_int (Kd.R_reads' HO_4.out).2.2 0 p392 q392; obtain rfl : ad389 = ad392 := (by injection e392); have qi392 : (0 < t386.length) = True := eq_true (by omega); (try rw [show ((0 : Int)).toNat = 0 from rfl] at hx392_0); (try rw [Addr.add_zero'] at hx392_0); replace p392 := eq_true p392; replace q392 := eq_true q392))
             go_roundg k2
             case measure => have := HJ3.out; have := HK2.out; omega
             case rel => exact ⟨(wrap64 (x53_2 + 1)), z81_, H', ⟨by have := HJ3.out; have := HK2.out; omega⟩, ⟨z65_⟩, ⟨by (with_reducible repeat (first | apply Kd.R_alloc | apply Kd.R_drewN | apply Kd.R_drew)); exact HO_51.out⟩, ⟨z59_⟩, ⟨z60_⟩, ⟨z57_⟩, ⟨z26_⟩⟩
            ·rw [if_neg c36] at H
             have c36b0 : ((rd t386 x53_2) == (wrap64 ((rd t386 0) + x53_2))) = false := beq_eq_false_iff_ne.mpr c36
             have c36b1 : ((rd t386 x53_2) != (wrap64 ((rd t386 0) + x53_2))) = true := bne_iff_ne.mpr c36
             obtain rfl := Option.some.inj H
             have p389 : 0 ≤ (x53_2 : Int) := of_decide_eq_true z80_
             have q389 : x53_2 < (t386.length : Int) := of_decide_eq_true z80_
             obtain ⟨ad389, e389, hx389_0⟩ := Kd.at_int (Kd.R_reads' HO_51.out).2.2 x53_2 p389 q389
             cases e389
             replace p389 := eq_true p389
             replace q389 := eq_true q389
             have p390 : 0 ≤ (0 : Int) := (by omega)
             have q390 : 0 < (t386.length : Int) := of_decide_eq_true z80_
             obtain ⟨ad390, e390, hx390_0⟩ := Kd.at_int (Kd.R_reads' HO_4.out).2.2 0 p390 q390
             obtain rfl : ad389 = ad390 := (by injection e390)
             have qi390 : (0 < t386.length) = True := eq_true (by omega)
             (try rw [show ((0 : Int)).toNat = 0 from rfl] at hx390_0)
             (try rw [Addr.add_zero'] at hx390_0)
             replace p390 := eq_true p390
             replace q390 := eq_true q390
             go_wp2_with (first | ((with_reducible refine gate_callee (f := 45) rfl ?_); refine goesL_ (some 61) rfl rfl Try.func45 (by kernel_rfl) rfl #[.int .i64 (rd t386 0), .int .i64 1, .int .i64 1000000000] rfl z34_ ?_; (with_reducible refine (impl_inRange.calls (rd t386 0) 1 1000000000 true _ A34.out).mono ?_); rintro e w' ⟨rfl, ⟨nd, rfl⟩⟩; refine ⟨_, rfl, ?_⟩; have p392 : 0 ≤ (0 : Int) := (by omega); have q392 : 0 < (t386.length : Int) := of_decide_eq_true z80_; obtain ⟨ad392, e392, hx392_0⟩ := Kd.at_int (Kd.R_reads' HO_4.out).2.2 0 p392 q392; obtain rfl : ad389 = ad392 := (by injection e392); have qi392 : (0 < t386.length) = True := eq_true (by omega); (try rw [show ((0 : Int)).toNat = 0 from rfl] at hx392_0); (try rw [Addr.add_zero'] at hx392_0); replace p392 := eq_true p392; replace q392 := eq_true q392))
             go_ret
             exact ⟨z32_, z26_⟩
           ·replace c35 := Bool.eq_false_iff.mpr c35
            subst c35
            have H1 : (some false) = some r := by rw [if_neg (show ¬ (false = true) by decide)] at H; exact H
            clear H
            have H := H1
            clear H1
            obtain rfl := Option.some.inj H
            have p389 : 0 ≤ (x53_2 : Int) := of_decide_eq_true z80_
            have q389 : x53_2 < (t386.length : Int) := of_decide_eq_true z80_
            obtain ⟨ad389, e389, hx389_0⟩ := Kd.at_int (Kd.R_reads' HO_51.out).2.2 x53_2 p389 q389
            cases e389
            replace p389 := eq_true p389
            replace q389 := eq_true q389
            have p390 : 0 ≤ (0 : Int) := (by omega)
            have q390 : 0 < (t386.length : Int) := of_decide_eq_true z80_
            obtain ⟨ad390, e390, hx390_0⟩ := Kd.at_int (Kd.R_reads' HO_4.out).2.2 0 p390 q390
            obtain rfl : ad389 = ad390 := (by injection e390)
            have qi390 : (0 < t386.length) = True := eq_true (by omega)
            (try rw [show ((0 : Int)).toNat = 0 from rfl] at hx390_0)
            (try rw [Addr.add_zero'] at hx390_0)
            replace p390 := eq_true p390
            replace q390 := eq_true q390
            go_wp2_with (first | ((with_reducible refine gate_callee (f := 45) rfl ?_); refine goesL_ (some 61) rfl rfl Try.func45 (by kernel_rfl) rfl #[.int .i64 (rd t386 0), .int .i64 1, .int .i64 1000000000] rfl z34_ ?_; (with_reducible refine (impl_inRange.calls (rd t386 0) 1 1000000000 false _ A34.out).mono ?_); rintro e w' ⟨rfl, ⟨nd, rfl⟩⟩; refine ⟨_, rfl, ?_⟩))
            go_ret
            exact ⟨z32_, z26_⟩
          ·rw [if_neg c33] at H
           exact absurd H (by simp)
         ·rw [if_neg c32] at H
          exact absurd H (by simp)
        ·rw [if_neg c31] at H
         exact absurd H (by simp)
       ·rw [if_neg c30] at H
        have c30b0 : decide (x53_2 < (t386.length : Int)) = false := decide_eq_false c30
        clear c30
        obtain rfl := Option.some.inj H
        go_wp2
        go_ret
        exact ⟨z32_, z26_⟩
 ·replace c3 := Bool.eq_false_iff.mpr c3
  subst c3
  have H1 : (some false) = some r := by rw [if_neg (show ¬ (false = true) by decide)] at H; exact H
  clear H
  have H := H1
  clear H1
  obtain rfl := Option.some.inj H
  go_enter Try.func12, Try.ntmps12
  go_wp2_with (first | ((with_reducible refine gate_dst (N := 1) rfl ?_); refine box_event ?hg (N := 1) ?hd (cs := #[.int .i64 a0_0, .int .i64 a0_1, .slice A0_2 l0_2.length c0_2, .slice A0_3 l0_3.length c0_3, .slice A0_4 l0_4.length c0_4]) (t := 27) ?hr ?_; (case hd => rfl); (case hg => rfl); (case hr => first | (go_simp; done) | (go_simp; rfl)); intro gb374 hg w37 hbox hb; replace HO0_2 := a_ (Kd.V_below (Kd.V_elderB z62_ gb374 (Nat.le_of_eq hg.symm)) hb); replace HO0_3 := a_ (Kd.V_below (Kd.V_elderB z63_ gb374 (Nat.le_of_eq hg.symm)) hb); have BK374 := a_ (hbox); have GW374 := a_ ((z30_ : w.heap.size ≤ gb374)); have GE374 := a_ ((z30_ : w.heap.size ≤ gb374)); replace HB := a_ (below_step z31_ hb); clear hb hbox hg; obtain ⟨hcz38_0, hcz38_1, hcz38_2, hcz38_3, hcz38_4, hfz38_0, hfz38_1, hfz38_2, hfz38_3, hfz38_4⟩ := cz5_ (w := w37) BK374.out) | ((with_reducible refine gate_callee (f := 39) rfl ?_); refine goesL_ (some 11) rfl rfl Try.func39 (by kernel_rfl) rfl #[.int .i64 a0_0, .int .i64 a0_1] rfl z34_ ?_; (with_reducible refine (impl_isSheet.calls a0_0 a0_1 false _ A2.out).mono ?_); rintro e w' ⟨rfl, ⟨nd, rfl⟩⟩; refine ⟨_, rfl, ?_⟩))
  go_ret
  exact ⟨z32_, z26_⟩

-- NOT PRINTED: function 61 (impl_schemes)

/-! ### impl_halvings: function 62 -/
def impl_halvings.l0 : Nat → Int → Int → Option (Int)
 | 0, _, _ => none
 | k + 1, x0, x3 => if x0 > 1 then (impl_halvings.l0 k (wrap64 (Int.tdiv x0 2)) (wrap64 (x3 + 1))) else (some x3)
def impl_halvings.f (k : Nat) (a0 : Int) : Option (Int) := impl_halvings.l0 k a0 0
theorem impl_halvings.mono_l : ∀ k, (∀ y0 y1, LeO (impl_halvings.l0 k y0 y1) (impl_halvings.l0 (k + 1) y0 y1))
 | 0 => fun _ _ r h => by simp [impl_halvings.l0] at h
 | k + 1 => by
  have ih0 := impl_halvings.mono_l k
  ·intro y0 y1
   unfold impl_halvings.l0
   repeat' first
   | (with_reducible exact ih0 _ _)
   | (with_reducible exact LeO.refl _)
   | (with_reducible exact LeO.none _)
   | (with_reducible refine LeO.ite ?_ ?_)
   | (with_reducible refine LeO.bind ?_ (fun _ => ?_))
   | exact ih0 _ _
   | exact LeO.none _
   | refine LeO.ite ?_ ?_
   | refine LeO.bind ?_ (fun _ => ?_)
theorem impl_halvings.mono : ∀ a0 k, LeO (impl_halvings.f k a0) (impl_halvings.f (k + 1) a0) := by
 intro a0 k
 have ih0 := impl_halvings.mono_l k
 unfold impl_halvings.f
 repeat' first
   | (with_reducible exact ih0 _ _)
   | (with_reducible exact LeO.refl _)
   | (with_reducible exact LeO.none _)
   | (with_reducible refine LeO.ite ?_ ?_)
   | (with_reducible refine LeO.bind ?_ (fun _ => ?_))
   | exact ih0 _ _
   | exact LeO.none _
   | refine LeO.ite ?_ ?_
   | refine LeO.bind ?_ (fun _ => ?_)
set_option maxHeartbeats 8000000 in
set_option maxRecDepth 100000 in
theorem impl_halvings.calls (k : Nat) (a0 : Int) (r : Int) (w : World) (h : impl_halvings.f k a0 = some r) :
  Calls Try.prog 62 #[.int .i64 a0] w fun e w' => e = .returned (.int .i64 r) ∧ Drawn0 w w' := by
 have H : (impl_halvings.l0 k a0 0) = some r := h
 clear h
 have H' := Aside0.mk H
 clear H
 go_enter Try.func62, Try.ntmps62
 go_wp2
 go_loopg [0, 3] k (fun kq v0 v3 w' => ∃ (x0_1 : Int) (x3_1 : Int), v0 = .int .i64 x0_1 ∧ v3 = .int .i64 x3_1 ∧ Aside0 (impl_halvings.l0 kq x0_1 x3_1 = some r) ∧ Aside0 (kq ≤ k) ∧ Drawn0 w w')
 case atStart => exact ⟨(a0), (0), z81_, z81_, H', ⟨Nat.le_refl _⟩, z76_⟩
 case round =>
  clear H'
  obtain ⟨x0_1, x3_1, rfl, rfl, HA, HK1, ⟨m1, rfl⟩⟩ := hrel
  cases gk with
  | zero => exact absurd HA.out (by simp [impl_halvings.l0])
  | succ k1 =>
   have H := HA.out
   clear HA
   simp only [impl_halvings.l0] at H
   by_cases c2 : x0_1 > 1
   ·rw [if_pos c2] at H
    have c2b0 : decide (1 < x0_1) = true := decide_eq_true c2
    clear c2
    have H' := Aside0.mk H
    clear H
    go_wp2
    go_roundg k1
    case measure => have := HK1.out; omega
    case rel => exact ⟨(wrap64 (Int.tdiv x0_1 2)), (wrap64 (x3_1 + 1)), z81_, z81_, H', ⟨z85_⟩, z76_⟩
   ·rw [if_neg c2] at H
    have c2b0 : decide (1 < x0_1) = false := decide_eq_false c2
    clear c2
    obtain rfl := Option.some.inj H
    go_wp2
    go_ret
    exact ⟨z70_, z76_⟩

/-! ### slices_Min_int64_int64: function 79 -/
def slices_Min_int64_int64.l0 : Nat → List Int → Int → Int → Option (Int)
 | 0, _, _, _ => none
 | k + 1, x0, x3, x4 => if x4 < (x0.length : Int) then (if 0 ≤ x4 then (slices_Min_int64_int64.l0 k x0 (mn x3 (rd x0 x4)) (wrap64 (x4 + 1))) else (none)) else (some x3)
def slices_Min_int64_int64.f (k : Nat) (l0 : List Int) : Option (Int) := if (l0.length : Int) < 1 then (none) else (if 0 < (l0.length : Int) then (slices_Min_int64_int64.l0 k l0 (rd l0 0) 1) else (none))
theorem slices_Min_int64_int64.mono_l : ∀ k, (∀ y0 y1 y2, LeO (slices_Min_int64_int64.l0 k y0 y1 y2) (slices_Min_int64_int64.l0 (k + 1) y0 y1 y2))
 | 0 => fun _ _ _ r h => by simp [slices_Min_int64_int64.l0] at h
 | k + 1 => by
  have ih0 := slices_Min_int64_int64.mono_l k
  ·intro y0 y1 y2
   unfold slices_Min_int64_int64.l0
   repeat' first
   | (with_reducible exact ih0 _ _ _)
   | (with_reducible exact LeO.refl _)
   | (with_reducible exact LeO.none _)
   | (with_reducible refine LeO.ite ?_ ?_)
   | (with_reducible refine LeO.bind ?_ (fun _ => ?_))
   | exact ih0 _ _ _
   | exact LeO.none _
   | refine LeO.ite ?_ ?_
   | refine LeO.bind ?_ (fun _ => ?_)
theorem slices_Min_int64_int64.mono : ∀ a0 k, LeO (slices_Min_int64_int64.f k a0) (slices_Min_int64_int64.f (k + 1) a0) := by
 intro a0 k
 have ih0 := slices_Min_int64_int64.mono_l k
 unfold slices_Min_int64_int64.f
 repeat' first
   | (with_reducible exact ih0 _ _ _)
   | (with_reducible exact LeO.refl _)
   | (with_reducible exact LeO.none _)
   | (with_reducible refine LeO.ite ?_ ?_)
   | (with_reducible refine LeO.bind ?_ (fun _ => ?_))
   | exact ih0 _ _ _
   | exact LeO.none _
   | refine LeO.ite ?_ ?_
   | refine LeO.bind ?_ (fun _ => ?_)
set_option maxHeartbeats 8000000 in
set_option maxRecDepth 100000 in
theorem slices_Min_int64_int64.calls (k : Nat) (A0 : Option Addr) (c0 : Nat) (l0 : List Int) (r : Int) (w : World) (hr0 : Kd.C (Kd.int .i64) w A0 l0.length l0) (hc0 : l0.length ≤ c0) (h : slices_Min_int64_int64.f k l0 = some r) :
  Calls Try.prog 79 #[.slice A0 l0.length c0] w fun e w' => e = .returned (.int .i64 r) ∧ Below w.heap.size w w' := by
 have HR0 := Aside0.mk hr0
 have HC0 := Aside0.mk hc0
 clear hr0 hc0
 have HB := a_ (Below.refl w.heap.size w)
 have H : (if (l0.length : Int) < 1 then (none) else (if 0 < (l0.length : Int) then (slices_Min_int64_int64.l0 k l0 (rd l0 0) 1) else (none))) = some r := h
 clear h
 by_cases c2 : (l0.length : Int) < 1
 ·rw [if_pos c2] at H
  exact absurd H (by simp)
 ·rw [if_neg c2] at H
  have c2b0 : decide ((l0.length : Int) < 1) = false := decide_eq_false c2
  have c2b1 : decide (l0.length < 1) = false := decide_eq_false (by omega)
  clear c2
  by_cases c3 : 0 < (l0.length : Int)
  ·rw [if_pos c3] at H
   have c3b0 : decide (0 < (l0.length : Int)) = true := decide_eq_true c3
   have c3b1 : decide (0 < l0.length) = true := decide_eq_true (by omega)
   clear c3
   have H' := Aside0.mk H
   clear H
   have p393 : 0 ≤ (0 : Int) := (by omega)
   have q393 : 0 < (l0.length : Int) := of_decide_eq_true z80_
   obtain ⟨ad393, e393, hx393_0⟩ := Kd.at_int HR0.out 0 p393 q393
   cases e393
   have qi393 : (0 < l0.length) = True := eq_true (by omega)
   (try rw [show ((0 : Int)).toNat = 0 from rfl] at hx393_0)
   (try rw [Addr.add_zero'] at hx393_0)
   replace p393 := eq_true p393
   replace q393 := eq_true q393
   go_enter Try.func79, Try.ntmps79
   go_wp2
   go_loopg [3, 4] k (fun kq v3 v4 w' => ∃ (x3_1 : Int) (x4_1 : Int), v3 = .int .i64 x3_1 ∧ v4 = .int .i64 x4_1 ∧ Aside0 (slices_Min_int64_int64.l0 kq l0 x3_1 x4_1 = some r) ∧ Aside0 (kq ≤ k) ∧ Aside0 (Below w.heap.size w w'))
   case atStart => exact ⟨(rd l0 0), (1), z81_, z81_, H', ⟨Nat.le_refl _⟩, ⟨z31_⟩⟩
   case round =>
    clear H'
    try clear c2b0; try clear c2b1; try clear c3b0; try clear c3b1; try clear hx393_0; try clear p393; try clear q393
    obtain ⟨x3_1, x4_1, rfl, rfl, HA, HK1, HB⟩ := hrel
    cases gk with
    | zero => exact absurd HA.out (by simp [slices_Min_int64_int64.l0])
    | succ k1 =>
     have H := HA.out
     clear HA
     simp only [slices_Min_int64_int64.l0] at H
     by_cases c4 : x4_1 < (l0.length : Int)
     ·rw [if_pos c4] at H
      have c4b0 : decide (x4_1 < (l0.length : Int)) = true := decide_eq_true c4
      clear c4
      by_cases c5 : 0 ≤ x4_1
      ·rw [if_pos c5] at H
       have c5b0 : decide (0 ≤ x4_1) = true := decide_eq_true c5
       clear c5
       obtain ⟨ji6, hji6⟩ : ∃ j_ : Int, (mn x3_1 (rd l0 x4_1)) = j_ := ⟨_, rfl⟩
       replace H : (slices_Min_int64_int64.l0 k1 l0 ji6 (wrap64 (x4_1 + 1))) = some r := by first | (rw [hji6] at H; exact H) | (simp only [hji6] at H ⊢; exact H)
       have hji6_ : (if (rd l0 x4_1) < x3_1 then (rd l0 x4_1) else x3_1) = ji6 := hji6
       have H' := Aside0.mk H
       clear H
       have p394 : 0 ≤ (x4_1 : Int) := of_decide_eq_true z80_
       have q394 : x4_1 < (l0.length : Int) := of_decide_eq_true z80_
       obtain ⟨ad394, e394, hx394_0⟩ := Kd.at_int HR0.out x4_1 p394 q394
       obtain rfl : ad393 = ad394 := (by injection e394)
       replace hx394_0 := (HB.out.cell (World.block_lt_of_cell? _ _ hx394_0)).trans hx394_0
       replace p394 := eq_true p394
       replace q394 := eq_true q394
       go_wp2
       go_roundg k1
       case measure => have := HK1.out; omega
       case rel => exact ⟨(ji6), (wrap64 (x4_1 + 1)), (by first | rfl | (simp; done) | (simp only [← hji6] <;> (first | rfl | simp)) | (simp [*]; done)), z81_, H', ⟨z85_⟩, ⟨z31_⟩⟩
      ·rw [if_neg c5] at H
       exact absurd H (by simp)
     ·rw [if_neg c4] at H
      have c4b0 : decide (x4_1 < (l0.length : Int)) = false := decide_eq_false c4
      clear c4
      obtain rfl := Option.some.inj H
      go_wp2
      go_ret
      exact ⟨z32_, z31_⟩
  ·rw [if_neg c3] at H
   exact absurd H (by simp)

/-! ### impl_backPlace: function 49 -/
def impl_backPlace.f (a0 : Int) (a1 : Int) (a2 : Int) : Option (Int) := some (wrap64 ((wrap64 ((wrap64 ((wrap64 (a2 * a0)) + a0)) - 1)) - a1))
set_option maxHeartbeats 8000000 in
set_option maxRecDepth 100000 in
theorem impl_backPlace.calls (a0 : Int) (a1 : Int) (a2 : Int) (r : Int) (w : World) (h : impl_backPlace.f a0 a1 a2 = some r) :
  Calls Try.prog 49 #[.int .i64 a0, .int .i64 a1, .int .i64 a2] w fun e w' => e = .returned (.int .i64 r) ∧ Drawn0 w w' := by
 have H : (some (wrap64 ((wrap64 ((wrap64 ((wrap64 (a2 * a0)) + a0)) - 1)) - a1))) = some r := h
 clear h
 obtain rfl := Option.some.inj H
 go_enter Try.func49, Try.ntmps49
 go_wp2
 go_ret
 exact ⟨z70_, z76_⟩

-- NOT PRINTED: function 117 (impl_halved_1)

/-! ### impl_Leaf_121 -/
def growleaf_lays_ren : Go.Shelf.Ren := ⟨fun | 4 => 121 | n => n, fun | 22 => 99 | 25 => 102 | 3 => 3 | 4 => 4 | 9 => 9 | 20 => 20 | 0 => 0 | n => n, fun | n => n⟩
theorem growleaf_lays : Go.Proofs.Lays8.n4 Try.prog growleaf_lays_ren := {
 mixed := by kernel_rfl
 f4 := ⟨Try.f121.name, by decide, Try.func121.trans (congrArg some (by kernel_rfl))⟩
 t0 := Try.underlying0
 a0 := Try.isAgg0
 z0 := Try.sizeOf0
 v0 := Try.zeroValue0
 t3 := Try.underlying3
 a3 := Try.isAgg3
 z3 := Try.sizeOf3
 v3 := Try.zeroValue3
 t4 := Try.underlying4
 a4 := Try.isAgg4
 z4 := Try.sizeOf4
 v4 := Try.zeroValue4
 t9 := Try.underlying9
 a9 := Try.isAgg9
 z9 := Try.sizeOf9
 v9 := Try.zeroValue9
 t20 := Try.underlying20
 a20 := Try.isAgg20
 z20 := Try.sizeOf20
 v20 := Try.zeroValue20
 t22 := Try.underlying99
 a22 := Try.isAgg99
 z22 := Try.sizeOf99
 v22 := Try.zeroValue99 }
def impl_Leaf_121.f (l0 : List S102) (a1 : Int) : Option (List S102) := if l0 = [] then (if 0 ≤ a1 then (if a1 ≤ 1000000 then some [] else none) else none) else none
set_option maxHeartbeats 4000000 in
set_option maxRecDepth 100000 in
theorem impl_Leaf_121.calls (P0_ : Nat → Prop) (u_ : Value) (l0 : List S102) (a1 : Int) (r : List S102) (w0 w : World) (hB : Below w0.heap.size w0 w) (ho0 : Kd.R k102 102 w w0.heap.size P0_ u_ l0) (h : impl_Leaf_121.f l0 a1 = some r) :
  Calls Try.prog 121 #[u_, .int .i64 a1] w fun e w' => ∃ v0_ : Value, e = .returned (v0_) ∧ Kd.R k102 102 w' w0.heap.size (fun k_ => (P0_ k_ ∨ w.heap.size ≤ k_)) v0_ r ∧ Below w0.heap.size w0 w' ∧ Kept w w' (fun k_ => P0_ k_) := by
 unfold impl_Leaf_121.f at h
 by_cases c1 : l0 = []
 ·rw [if_pos c1] at h
  by_cases c2 : 0 ≤ a1
  ·rw [if_pos c2] at h
   by_cases c3 : a1 ≤ 1000000
   ·rw [if_pos c3] at h
    subst c1
    obtain rfl := Option.some.inj h
    clear h
    obtain ⟨n, rfl⟩ := Int.eq_ofNat_of_zero_le c2
    have hw := hB.size
    obtain ⟨i0, hi0, hz0, hz1, hz2⟩ := info_parts (show (Try.prog.info? 102).map (fun i => (i.zero, i.size, i.bytes)) = some (some (.agg #[.int .i64 0, .int .i64 0, .bool false, .bool false]), 4, 24) by kernel_rfl)
    have key : ∀ (base : Option Addr) (c : Nat) (cs : List Value), u_ = .slice base 0 c → c ≤ maxLen → cs.length = c * 4 → (base = none → c = 0) → (∀ a, base = some a → ∀ j v, cs[j]? = some v → w.cell? (a.add j) = some v) → Calls Try.prog 121 #[u_, .int .i64 (n : Int)] w fun e w' => ∃ v0_ : Value, e = .returned (v0_) ∧ Kd.R k102 102 w' w0.heap.size (fun k_ => (P0_ k_ ∨ w.heap.size ≤ k_)) v0_ [] ∧ Below w0.heap.size w0 w' ∧ Kept w w' (fun k_ => P0_ k_) := by
     intro base c cs hu hmx hcl hnil hcs
     subst hu
     by_cases hr : 0 + n ≤ c
     ·have hcon := Go.Proofs.Any8.slices_Grow_room growleaf_lays base 0 c n w (Nat.zero_le _) (by simpa [maxLen] using hmx) (by omega) hr
      change Calls Try.prog 121 _ _ _ at hcon
      refine hcon.mono ?_
      rintro e w' ⟨rfl, rfl⟩
      exact ⟨_, rfl, Kd.R_mono ho0 (fun _ hk => .inl hk), hB, Kept.refl _ _⟩
     ·have hcon := Go.Proofs.Any8.slices_Grow_grow growleaf_lays i0 (.agg #[.int .i64 0, .int .i64 0, .bool false, .bool false]) hi0 hz0 (by omega) base 0 c n cs w (Nat.zero_le _) (by omega) (by rw [hz2]; omega) (by omega) (by rw [hz1, hcl]) hnil hcs
      change Calls Try.prog 121 _ _ _ at hcon
      refine hcon.mono ?_
      rintro e w' ⟨rfl, rfl⟩
      have hge := grownCap_ge w (0 + n) c 102
      have hle := grownCap_le_maxLen w (0 + n) c 102 (by unfold maxLen; omega)
      refine ⟨_, rfl, ⟨fun k hk => .inr ?_, [], ⟨by rfl, .inr ⟨w.heap.size, _, _, rfl, hw, heap_alloc_new _ _, Nat.zero_le _, hle, ?_, by rfl⟩⟩, Reps.none _ _⟩, (hB.drew).alloc hw _, (Kept.refl w _).below (((Below.refl _ _).drew).alloc (Nat.le_refl _) _)⟩
      ·simp [Value.ownBlock] at hk
       omega
      ·rw [Array.size_append, Array.size_append, size_zeroCells, size_zeroCells, List.size_toArray, hcl]
       show c * 4 + (0 + n - c) * 4 + (grownCap w (0 + n) c 102 - (0 + n)) * 4 = grownCap w (0 + n) c 102 * 4
       omega
    obtain ⟨inner_, ho_⟩ := Kd.R_own ho0
    obtain ⟨_, ho⟩ := ho_
    rcases ho with ⟨hv, _⟩ | ⟨g, cap, cur, hv, hg, hh, hn, hm, hsz, _⟩
    ·exact key none 0 [] hv (Nat.zero_le _) rfl (fun _ => rfl) (fun a ha => by cases ha)
    ·refine key (some ⟨g, 0, none⟩) cap cur.toList hv hm (by rw [Array.length_toList, hsz]; rfl) (fun ha => by cases ha) ?_
     intro a ha j v hj
     injection ha with ha
     subst ha
     have e : (⟨g, 0, none⟩ : Addr).add j = ⟨g, j, none⟩ := by
      unfold Addr.add
      split
      ·rename_i h0
       rw [h0]
      ·simp
     rw [e]
     simp only [World.cell?, hh]
     simpa using hj
   ·rw [if_neg c3] at h
    exact absurd h (by simp)
  ·rw [if_neg c2] at h
   exact absurd h (by simp)
 ·rw [if_neg c1] at h
  exact absurd h (by simp)

end Go.Proofs.Ytkpidjmhdagkfaa.QFnExactSchemesFor
-- halved
