-- Written by own_print.py of this session's repo over the kit's print (its output, turned at some places).
import Derived.Test.YtkpidjmhdagkfaaGreatDoorQFnExactReadFormx0
import Derived.Test.YtkpidjmhdagkfaaGreatDoorQFnExactReadFormx7
namespace Go.Proofs.YtkpidjmhdagkfaaGreatDoor.QFnExactReadForm
open Go.RowKit Go.Proofs.YtkpidjmhdagkfaaGreatDoorW.PrintWords Go.Proofs.YtkpidjmhdagkfaaGreatDoorW.PrintLast Go.Proofs.YtkpidjmhdagkfaaGreatDoorW.PrintMore
attribute [local go_sem] max2_int min2_int max_two min_two max_three min_three max_four min_four   -- for this text's walks alone
set_option linter.unusedVariables false
set_option linter.unusedSimpArgs false

/-! ### spec_IsForm: function 21 -/
mutual
def spec_IsForm.j0 : Nat → Int → Bool → Int → Int → List Int → List Int → List Int → Option (Bool)
 | 0, _, _, _, _, _, _, _ => none
 | k + 1, x3, x44, x250000, x250001, x250002, x250003, x250004 => if x44 = true then (some false) else ((spec_l01Own.f x250002).bind fun t252 => (if t252.length + x250003.length < 17592186044416 then ((spec_l05Least.f k x250000 x250001 x250002 x250003 x250004).bind fun t258 => (spec_IsForm.l0 k x3 (t252 ++ x250003) t258 0)) else (none)))
def spec_IsForm.l0 : Nat → Int → List Int → Int → Int → Option (Bool)
 | 0, _, _, _, _ => none
 | k + 1, x3, x4, x5, x6 => if x6 < (x4.length : Int) then (if 0 ≤ x6 then ((spec_l01In.f (rd x4 x6) x5 (wrap64 ((wrap64 (x5 + (wrap64 (2 * x3)))) - 1))).bind fun t260 => (if t260 = true then (if x6 ≤ (x4.length : Int) then ((spec_l01Has.f k (x4.take (x6 : Int).toNat) (rd x4 x6)).bind fun t266 => (if t266 = true then (some false) else (spec_IsForm.l0 k x3 x4 x5 (wrap64 (x6 + 1))))) else (none)) else (some false))) else (none)) else (if x5 ≥ 1 then (some (decide (x5 ≤ 1000000000))) else (some false))
end
def spec_IsForm.f (k : Nat) (a0_0 : Int) (a0_1 : Int) (l0_2 : List Int) (l0_3 : List Int) (l0_4 : List Int) : Option (Bool) := (spec_l04Sheet.f a0_0 a0_1).bind fun t250 => (if t250 = true then (if (l0_2.length : Int) = (wrap64 (a0_0 * a0_1)) then (if (l0_3.length : Int) = (wrap64 (a0_0 * a0_1)) then (if (l0_4.length : Int) = (wrap64 (a0_0 * a0_1)) then ((spec_l01Within.f k l0_4 64 0 1).bind fun t251 => (spec_IsForm.j0 k (wrap64 (a0_0 * a0_1)) (!t251) a0_0 a0_1 l0_2 l0_3 l0_4)) else (spec_IsForm.j0 k (wrap64 (a0_0 * a0_1)) true a0_0 a0_1 l0_2 l0_3 l0_4)) else (spec_IsForm.j0 k (wrap64 (a0_0 * a0_1)) true a0_0 a0_1 l0_2 l0_3 l0_4)) else (spec_IsForm.j0 k (wrap64 (a0_0 * a0_1)) true a0_0 a0_1 l0_2 l0_3 l0_4)) else (spec_IsForm.j0 k (wrap64 (a0_0 * a0_1)) true a0_0 a0_1 l0_2 l0_3 l0_4))
theorem spec_IsForm.mono_l : ∀ k, (∀ y0 y1 y2 y3 y4 y5 y6, LeO (spec_IsForm.j0 k y0 y1 y2 y3 y4 y5 y6) (spec_IsForm.j0 (k + 1) y0 y1 y2 y3 y4 y5 y6)) ∧ (∀ y0 y1 y2 y3, LeO (spec_IsForm.l0 k y0 y1 y2 y3) (spec_IsForm.l0 (k + 1) y0 y1 y2 y3))
 | 0 => ⟨fun _ _ _ _ _ _ _ r h => by simp [spec_IsForm.j0] at h, fun _ _ _ _ r h => by simp [spec_IsForm.l0] at h⟩
 | k + 1 => by
  obtain ⟨ih0, ih1⟩ := spec_IsForm.mono_l k
  refine ⟨?_, ?_⟩
  ·intro y0 y1 y2 y3 y4 y5 y6
   unfold spec_IsForm.j0
   repeat' first
   | (with_reducible exact ih0 _ _ _ _ _ _ _)
   | (with_reducible exact ih1 _ _ _ _)
   | (with_reducible exact spec_l01Has.mono _ _ _)
   | (with_reducible exact spec_l01Within.mono _ _ _ _ _)
   | (with_reducible exact spec_l05Least.mono _ _ _ _ _ _)
   | (with_reducible exact LeO.refl _)
   | (with_reducible exact LeO.none _)
   | (with_reducible refine LeO.ite ?_ ?_)
   | (with_reducible refine LeO.bind ?_ (fun _ => ?_))
   | exact ih0 _ _ _ _ _ _ _
   | exact ih1 _ _ _ _
   | exact spec_l01Has.mono _ _ _
   | exact spec_l01Within.mono _ _ _ _ _
   | exact spec_l05Least.mono _ _ _ _ _ _
   | exact LeO.none _
   | refine LeO.ite ?_ ?_
   | refine LeO.bind ?_ (fun _ => ?_)
  ·intro y0 y1 y2 y3
   unfold spec_IsForm.l0
   repeat' first
   | (with_reducible exact ih0 _ _ _ _ _ _ _)
   | (with_reducible exact ih1 _ _ _ _)
   | (with_reducible exact spec_l01Has.mono _ _ _)
   | (with_reducible exact spec_l01Within.mono _ _ _ _ _)
   | (with_reducible exact spec_l05Least.mono _ _ _ _ _ _)
   | (with_reducible exact LeO.refl _)
   | (with_reducible exact LeO.none _)
   | (with_reducible refine LeO.ite ?_ ?_)
   | (with_reducible refine LeO.bind ?_ (fun _ => ?_))
   | exact ih0 _ _ _ _ _ _ _
   | exact ih1 _ _ _ _
   | exact spec_l01Has.mono _ _ _
   | exact spec_l01Within.mono _ _ _ _ _
   | exact spec_l05Least.mono _ _ _ _ _ _
   | exact LeO.none _
   | refine LeO.ite ?_ ?_
   | refine LeO.bind ?_ (fun _ => ?_)
theorem spec_IsForm.mono : ∀ a0 a1 a2 a3 a4 k, LeO (spec_IsForm.f k a0 a1 a2 a3 a4) (spec_IsForm.f (k + 1) a0 a1 a2 a3 a4) := by
 intro a0 a1 a2 a3 a4 k
 obtain ⟨ih0, ih1⟩ := spec_IsForm.mono_l k
 unfold spec_IsForm.f
 repeat' first
   | (with_reducible exact ih0 _ _ _ _ _ _ _)
   | (with_reducible exact ih1 _ _ _ _)
   | (with_reducible exact spec_l01Has.mono _ _ _)
   | (with_reducible exact spec_l01Within.mono _ _ _ _ _)
   | (with_reducible exact spec_l05Least.mono _ _ _ _ _ _)
   | (with_reducible exact LeO.refl _)
   | (with_reducible exact LeO.none _)
   | (with_reducible refine LeO.ite ?_ ?_)
   | (with_reducible refine LeO.bind ?_ (fun _ => ?_))
   | exact ih0 _ _ _ _ _ _ _
   | exact ih1 _ _ _ _
   | exact spec_l01Has.mono _ _ _
   | exact spec_l01Within.mono _ _ _ _ _
   | exact spec_l05Least.mono _ _ _ _ _ _
   | exact LeO.none _
   | refine LeO.ite ?_ ?_
   | refine LeO.bind ?_ (fun _ => ?_)
def spec_IsForm.T9 : Bool × List (List Nat × List Nat) := (true, [([], []), ([], []), ([0, 1], [0, 1]), ([2], [2]), ([], []), ([], []), ([], []), ([6], [6]), ([5, 7], [5, 7]), ([8], [8]), ([3, 4, 9], [3, 4, 9]), ([10], [10]), ([11, 10], [11]), ([12], [12]), ([12], [12]), ([13, 14, 12], [12, 13, 14]), ([12], [12]), ([12], [12]), ([16, 17, 12], [12, 16, 17]), ([18, 12], [12, 18]), ([15, 19, 12, 12], [12, 15, 19]), ([12, 20], [12, 20])])
def spec_IsForm.B9 : List Nat := [0, 0, 3, 7, 0, 0, 0, 64, 224, 480, 1023, 2047, 4095, 8191, 8191, 32767, 8191, 8191, 204799, 466943, 1048575, 2097151]
theorem spec_IsForm.tab9 : rtab .any (opsOf Tryz.f21 9) = spec_IsForm.T9 := by kernel_rfl
theorem spec_IsForm.bits9 : waitsOk spec_IsForm.T9.2 spec_IsForm.B9 = true := by kernel_rfl
set_option maxHeartbeats 8000000 in
set_option maxRecDepth 100000 in
theorem spec_IsForm.calls (k : Nat) (a0_0 : Int) (a0_1 : Int) (A0_2 : Option Addr) (c0_2 : Nat) (l0_2 : List Int) (A0_3 : Option Addr) (c0_3 : Nat) (l0_3 : List Int) (A0_4 : Option Addr) (c0_4 : Nat) (l0_4 : List Int) (r : Bool) (w : World) (hr0_2 : Kd.C (Kd.int .i64) w A0_2 l0_2.length l0_2) (hc0_2 : l0_2.length ≤ c0_2) (hr0_3 : Kd.C (Kd.int .i64) w A0_3 l0_3.length l0_3) (hc0_3 : l0_3.length ≤ c0_3) (hr0_4 : Kd.C (Kd.int .i64) w A0_4 l0_4.length l0_4) (hc0_4 : l0_4.length ≤ c0_4) (h : spec_IsForm.f k a0_0 a0_1 l0_2 l0_3 l0_4 = some r) :
  Calls Tryz.prog 21 #[.agg #[.int .i64 a0_0, .int .i64 a0_1, .slice A0_2 l0_2.length c0_2, .slice A0_3 l0_3.length c0_3, .slice A0_4 l0_4.length c0_4]] w fun e w' => e = .returned (.bool r) ∧ Below w.heap.size w w' := by
 have hu28 := Tryz.underlying28
 have HR0_2 := Aside0.mk hr0_2
 have HC0_2 := Aside0.mk hc0_2
 clear hr0_2 hc0_2
 have HR0_3 := Aside0.mk hr0_3
 have HC0_3 := Aside0.mk hc0_3
 clear hr0_3 hc0_3
 have HR0_4 := Aside0.mk hr0_4
 have HC0_4 := Aside0.mk hc0_4
 clear hr0_4 hc0_4
 have HB := a_ (Below.refl w.heap.size w)
 have H : ((spec_l04Sheet.f a0_0 a0_1).bind fun t250 => (if t250 = true then (if (l0_2.length : Int) = (wrap64 (a0_0 * a0_1)) then (if (l0_3.length : Int) = (wrap64 (a0_0 * a0_1)) then (if (l0_4.length : Int) = (wrap64 (a0_0 * a0_1)) then ((spec_l01Within.f k l0_4 64 0 1).bind fun t251 => (spec_IsForm.j0 k (wrap64 (a0_0 * a0_1)) (!t251) a0_0 a0_1 l0_2 l0_3 l0_4)) else (spec_IsForm.j0 k (wrap64 (a0_0 * a0_1)) true a0_0 a0_1 l0_2 l0_3 l0_4)) else (spec_IsForm.j0 k (wrap64 (a0_0 * a0_1)) true a0_0 a0_1 l0_2 l0_3 l0_4)) else (spec_IsForm.j0 k (wrap64 (a0_0 * a0_1)) true a0_0 a0_1 l0_2 l0_3 l0_4)) else (spec_IsForm.j0 k (wrap64 (a0_0 * a0_1)) true a0_0 a0_1 l0_2 l0_3 l0_4))) = some r := h
 clear h
 have HC2 := Aside0.mk H
 clear H
 go_enter Tryz.func21, Tryz.ntmps21
 go_upto_region 2 with (first | ((with_reducible refine gate_dst (N := 1) rfl ?_); (try (refine gate_guard (by rfl) ?_; dsimp only)); refine box_event ?hg (N := 1) ?hd (cs := #[.int .i64 a0_0, .int .i64 a0_1, .slice A0_2 l0_2.length c0_2, .slice A0_3 l0_3.length c0_3, .slice A0_4 l0_4.length c0_4]) (t := 28) ?hr ?_; (case hd => rfl); (case hg => rfl); (case hr => first | (go_simp; done) | (go_simp; rfl)); intro gb249 hg w3 hbox hb; have BK249 := a_ (hbox); have GW249 := a_ ((z32_ : w.heap.size ≤ gb249)); have GE249 := a_ ((z32_ : w.heap.size ≤ gb249)); replace HB := a_ (below_step z33_ hb); clear hb hbox hg; obtain ⟨hcz4_0, hcz4_1, hcz4_2, hcz4_3, hcz4_4, hfz4_0, hfz4_1, hfz4_2, hfz4_3, hfz4_4⟩ := cz5_ (w := w3) BK249.out))
 (try simp only [Act.put, List.setIfInBounds_toArray, List.set_cons_zero, List.set_cons_succ])
 go_cut [44] (fun v44 wc => ∃ (kq : Nat) (x44_1 : Bool), v44 = .bool x44_1 ∧ Aside0 (spec_IsForm.j0 kq (wrap64 (a0_0 * a0_1)) x44_1 a0_0 a0_1 l0_2 l0_3 l0_4 = some r) ∧ Aside0 (kq ≤ k) ∧ Aside0 (wc.heap[gb249]? = some (.cells #[.int .i64 a0_0, .int .i64 a0_1, (.slice A0_2 l0_2.length c0_2), (.slice A0_3 l0_3.length c0_3), (.slice A0_4 l0_4.length c0_4)] 28 (0, 0))) ∧ Aside0 (Below w.heap.size w wc))
 case first =>
  have H := HC2.out
  clear HC2
  replace H := Option.bind_eq_some_iff.mp H
  obtain ⟨t250, A50, H⟩ := H
  replace H : (if t250 = true then (if (l0_2.length : Int) = (wrap64 (a0_0 * a0_1)) then (if (l0_3.length : Int) = (wrap64 (a0_0 * a0_1)) then (if (l0_4.length : Int) = (wrap64 (a0_0 * a0_1)) then ((spec_l01Within.f k l0_4 64 0 1).bind fun t251 => (spec_IsForm.j0 k (wrap64 (a0_0 * a0_1)) (!t251) a0_0 a0_1 l0_2 l0_3 l0_4)) else (spec_IsForm.j0 k (wrap64 (a0_0 * a0_1)) true a0_0 a0_1 l0_2 l0_3 l0_4)) else (spec_IsForm.j0 k (wrap64 (a0_0 * a0_1)) true a0_0 a0_1 l0_2 l0_3 l0_4)) else (spec_IsForm.j0 k (wrap64 (a0_0 * a0_1)) true a0_0 a0_1 l0_2 l0_3 l0_4)) else (spec_IsForm.j0 k (wrap64 (a0_0 * a0_1)) true a0_0 a0_1 l0_2 l0_3 l0_4)) = some r := H
  have A5 := Aside0.mk A50
  clear A50
  by_cases c6 : t250 = true
  ·subst c6
   have H1 : (if (l0_2.length : Int) = (wrap64 (a0_0 * a0_1)) then (if (l0_3.length : Int) = (wrap64 (a0_0 * a0_1)) then (if (l0_4.length : Int) = (wrap64 (a0_0 * a0_1)) then ((spec_l01Within.f k l0_4 64 0 1).bind fun t251 => (spec_IsForm.j0 k (wrap64 (a0_0 * a0_1)) (!t251) a0_0 a0_1 l0_2 l0_3 l0_4)) else (spec_IsForm.j0 k (wrap64 (a0_0 * a0_1)) true a0_0 a0_1 l0_2 l0_3 l0_4)) else (spec_IsForm.j0 k (wrap64 (a0_0 * a0_1)) true a0_0 a0_1 l0_2 l0_3 l0_4)) else (spec_IsForm.j0 k (wrap64 (a0_0 * a0_1)) true a0_0 a0_1 l0_2 l0_3 l0_4)) = some r := by rw [if_pos rfl] at H; exact H
   clear H
   have H := H1
   clear H1
   by_cases c7 : (l0_2.length : Int) = (wrap64 (a0_0 * a0_1))
   ·rw [if_pos c7] at H
    have c7b0 : ((l0_2.length : Int) == (wrap64 (a0_0 * a0_1))) = true := beq_iff_eq.mpr c7
    have c7b1 : ((l0_2.length : Int) != (wrap64 (a0_0 * a0_1))) = false := bne_eq_false_iff_eq.mpr c7
    clear c7
    (first | rw [c7b0] | (simp only [i64_w, i32_w]; rw [c7b0]) | skip)
    by_cases c8 : (l0_3.length : Int) = (wrap64 (a0_0 * a0_1))
    ·rw [if_pos c8] at H
     have c8b0 : ((l0_3.length : Int) == (wrap64 (a0_0 * a0_1))) = true := beq_iff_eq.mpr c8
     have c8b1 : ((l0_3.length : Int) != (wrap64 (a0_0 * a0_1))) = false := bne_eq_false_iff_eq.mpr c8
     clear c8
     by_cases c9 : (l0_4.length : Int) = (wrap64 (a0_0 * a0_1))
     ·rw [if_pos c9] at H
      have c9b0 : ((l0_4.length : Int) == (wrap64 (a0_0 * a0_1))) = true := beq_iff_eq.mpr c9
      have c9b1 : ((l0_4.length : Int) != (wrap64 (a0_0 * a0_1))) = false := bne_eq_false_iff_eq.mpr c9
      clear c9
      replace H := Option.bind_eq_some_iff.mp H
      obtain ⟨t251, A100, H⟩ := H
      replace H : (spec_IsForm.j0 k (wrap64 (a0_0 * a0_1)) (!t251) a0_0 a0_1 l0_2 l0_3 l0_4) = some r := H
      have A10 := Aside0.mk A100
      clear A100
      have H' := Aside0.mk H
      clear H
      obtain ⟨hcz11_0, hcz11_1, hcz11_2, hcz11_3, hcz11_4, hfz11_0, hfz11_1, hfz11_2, hfz11_3, hfz11_4⟩ := cz5_ (w := w3) BK249.out
      go_wp2_with (first | ((with_reducible refine gate_callee (f := 66) rfl ?_); refine goesL_ (some 16) rfl rfl Tryz.func66 (by kernel_rfl) rfl #[.int .i64 a0_0, .int .i64 a0_1] rfl z36_ ?_; (with_reducible refine (spec_l04Sheet.calls a0_0 a0_1 true _ A5.out).mono ?_); rintro e w' ⟨rfl, ⟨nd, rfl⟩⟩; refine ⟨_, rfl, ?_⟩) | (go_at_call 67; (with_reducible refine (spec_l01Within.calls k _ _ l0_4 64 0 1 t251 _ ?side1 ?side2 A10.out).mono ?_); (case side1 => exact (by (repeat (first | exact (Kd.C_below HR0_4.out z26_) | (with_reducible refine Kd.C_alloc ?_ _) | (with_reducible refine Kd.C_drewN ?_ _) | (with_reducible refine Kd.C_drew ?_))); first | done | fail)); (case side2 => exact HC0_4.out); rintro e w' ⟨rfl, ⟨nd, rfl⟩⟩))
      go_meet
      case rel => exact ⟨_, (!t251), z78_, H', ⟨z80_⟩, ⟨z57_⟩, ⟨z26_⟩⟩
     ·rw [if_neg c9] at H
      have c9b0 : ((l0_4.length : Int) == (wrap64 (a0_0 * a0_1))) = false := beq_eq_false_iff_ne.mpr c9
      have c9b1 : ((l0_4.length : Int) != (wrap64 (a0_0 * a0_1))) = true := bne_iff_ne.mpr c9
      have H' := Aside0.mk H
      clear H
      obtain ⟨hcz12_0, hcz12_1, hcz12_2, hcz12_3, hcz12_4, hfz12_0, hfz12_1, hfz12_2, hfz12_3, hfz12_4⟩ := cz5_ (w := w3) BK249.out
      go_wp2_with (first | ((with_reducible refine gate_callee (f := 66) rfl ?_); refine goesL_ (some 16) rfl rfl Tryz.func66 (by kernel_rfl) rfl #[.int .i64 a0_0, .int .i64 a0_1] rfl z36_ ?_; (with_reducible refine (spec_l04Sheet.calls a0_0 a0_1 true _ A5.out).mono ?_); rintro e w' ⟨rfl, ⟨nd, rfl⟩⟩; refine ⟨_, rfl, ?_⟩))
      go_meet
      case rel => exact ⟨_, (true), z78_, H', ⟨z80_⟩, ⟨z57_⟩, ⟨z26_⟩⟩
    ·rw [if_neg c8] at H
     have c8b0 : ((l0_3.length : Int) == (wrap64 (a0_0 * a0_1))) = false := beq_eq_false_iff_ne.mpr c8
     have c8b1 : ((l0_3.length : Int) != (wrap64 (a0_0 * a0_1))) = true := bne_iff_ne.mpr c8
     have H' := Aside0.mk H
     clear H
     obtain ⟨hcz13_0, hcz13_1, hcz13_2, hcz13_3, hcz13_4, hfz13_0, hfz13_1, hfz13_2, hfz13_3, hfz13_4⟩ := cz5_ (w := w3) BK249.out
     go_wp2_with (first | ((with_reducible refine gate_callee (f := 66) rfl ?_); refine goesL_ (some 16) rfl rfl Tryz.func66 (by kernel_rfl) rfl #[.int .i64 a0_0, .int .i64 a0_1] rfl z36_ ?_; (with_reducible refine (spec_l04Sheet.calls a0_0 a0_1 true _ A5.out).mono ?_); rintro e w' ⟨rfl, ⟨nd, rfl⟩⟩; refine ⟨_, rfl, ?_⟩))
     go_meet
     case rel => exact ⟨_, (true), z78_, H', ⟨z80_⟩, ⟨z57_⟩, ⟨z26_⟩⟩
   ·rw [if_neg c7] at H
    have c7b0 : ((l0_2.length : Int) == (wrap64 (a0_0 * a0_1))) = false := beq_eq_false_iff_ne.mpr c7
    have c7b1 : ((l0_2.length : Int) != (wrap64 (a0_0 * a0_1))) = true := bne_iff_ne.mpr c7
    (first | rw [c7b0] | (simp only [i64_w, i32_w]; rw [c7b0]) | skip)
    have H' := Aside0.mk H
    clear H
    obtain ⟨hcz14_0, hcz14_1, hcz14_2, hcz14_3, hcz14_4, hfz14_0, hfz14_1, hfz14_2, hfz14_3, hfz14_4⟩ := cz5_ (w := w3) BK249.out
    go_wp2_with (first | ((with_reducible refine gate_callee (f := 66) rfl ?_); refine goesL_ (some 16) rfl rfl Tryz.func66 (by kernel_rfl) rfl #[.int .i64 a0_0, .int .i64 a0_1] rfl z36_ ?_; (with_reducible refine (spec_l04Sheet.calls a0_0 a0_1 true _ A5.out).mono ?_); rintro e w' ⟨rfl, ⟨nd, rfl⟩⟩; refine ⟨_, rfl, ?_⟩))
    go_meet
    case rel => exact ⟨_, (true), z78_, H', ⟨z80_⟩, ⟨z57_⟩, ⟨z26_⟩⟩
  ·replace c6 := Bool.eq_false_iff.mpr c6
   subst c6
   have H1 : (spec_IsForm.j0 k (wrap64 (a0_0 * a0_1)) true a0_0 a0_1 l0_2 l0_3 l0_4) = some r := by rw [if_neg (show ¬ (false = true) by decide)] at H; exact H
   clear H
   have H := H1
   clear H1
   have H' := Aside0.mk H
   clear H
   obtain ⟨hcz15_0, hcz15_1, hcz15_2, hcz15_3, hcz15_4, hfz15_0, hfz15_1, hfz15_2, hfz15_3, hfz15_4⟩ := cz5_ (w := w3) BK249.out
   go_wp2_with (first | ((with_reducible refine gate_callee (f := 66) rfl ?_); refine goesL_ (some 16) rfl rfl Tryz.func66 (by kernel_rfl) rfl #[.int .i64 a0_0, .int .i64 a0_1] rfl z36_ ?_; (with_reducible refine (spec_l04Sheet.calls a0_0 a0_1 false _ A5.out).mono ?_); rintro e w' ⟨rfl, ⟨nd, rfl⟩⟩; refine ⟨_, rfl, ?_⟩))
   go_meet
   case rel => exact ⟨_, (true), z78_, H', ⟨z80_⟩, ⟨z57_⟩, ⟨z26_⟩⟩
 case rest =>
  clear HC2; try clear hcz4_0 hcz4_1 hcz4_2 hcz4_3 hcz4_4; try clear hfz4_0 hfz4_1 hfz4_2 hfz4_3 hfz4_4
  obtain ⟨kq, x44_1, rfl, HA, HJ1, BK249, HB⟩ := hcut
  cases kq with
  | zero => exact absurd HA.out (by simp [spec_IsForm.j0])
  | succ kj1 =>
   have H := HA.out
   clear HA
   simp only [spec_IsForm.j0] at H
   by_cases c16 : x44_1 = true
   ·subst c16
    have H1 : (some false) = some r := by rw [if_pos rfl] at H; exact H
    clear H
    have H := H1
    clear H1
    obtain rfl := Option.some.inj H
    go_wp2
    go_ret
    exact ⟨z34_, z26_⟩
   ·replace c16 := Bool.eq_false_iff.mpr c16
    subst c16
    have H1 : ((spec_l01Own.f l0_2).bind fun t252 => (if t252.length + l0_3.length < 17592186044416 then ((spec_l05Least.f kj1 a0_0 a0_1 l0_2 l0_3 l0_4).bind fun t258 => (spec_IsForm.l0 kj1 (wrap64 (a0_0 * a0_1)) (t252 ++ l0_3) t258 0)) else (none))) = some r := by rw [if_neg (show ¬ (false = true) by decide)] at H; exact H
    clear H
    have H := H1
    clear H1
    replace H := Option.bind_eq_some_iff.mp H
    obtain ⟨t252, A170, H⟩ := H
    replace H : (if t252.length + l0_3.length < 17592186044416 then ((spec_l05Least.f kj1 a0_0 a0_1 l0_2 l0_3 l0_4).bind fun t258 => (spec_IsForm.l0 kj1 (wrap64 (a0_0 * a0_1)) (t252 ++ l0_3) t258 0)) else (none)) = some r := H
    have A17 := Aside0.mk A170
    clear A170
    by_cases c18 : t252.length + l0_3.length < 17592186044416
    ·rw [if_pos c18] at H
     have LMc18 := Aside0.mk c18
     clear c18
     obtain ⟨y255, hy255⟩ : ∃ y_ : List Int, y_ = (t252 ++ l0_3) := ⟨_, rfl⟩
     replace H : ((spec_l05Least.f kj1 a0_0 a0_1 l0_2 l0_3 l0_4).bind fun t258 => (spec_IsForm.l0 kj1 (wrap64 (a0_0 * a0_1)) y255 t258 0)) = some r := rh_ hy255 H
     have Ny255 := Aside0.mk hy255
     clear hy255
     replace H := Option.bind_eq_some_iff.mp H
     obtain ⟨t258, A190, H⟩ := H
     replace H : (spec_IsForm.l0 kj1 (wrap64 (a0_0 * a0_1)) y255 t258 0) = some r := H
     have A19 := Aside0.mk A190
     clear A190
     have H' := Aside0.mk H
     clear H
     try go_wp2
     replace BK249 := a_ (blk_drew BK249.out)
     replace HB := a_ (below_drew1 HB.out)
     refine start_ (n := 7) (S := fun w' => w'.cell? ⟨gb249, 0, none⟩ = some (.int .i64 a0_0) ∧ w'.cell? ⟨gb249, 1, none⟩ = some (.int .i64 a0_1) ∧ w'.cell? ⟨gb249, 2, none⟩ = some (.slice A0_2 l0_2.length c0_2) ∧ w'.cell? ⟨gb249, 3, none⟩ = some (.slice A0_3 l0_3.length c0_3) ∧ w'.cell? ⟨gb249, 4, none⟩ = some (.slice A0_4 l0_4.length c0_4)) (ds := []) #[false, false, false, false, false, false, false] (by kernel_rfl) rfl rfl ⟨(blk_cell BK249.out 0).trans rfl, (blk_cell BK249.out 1).trans rfl, (blk_cell BK249.out 2).trans rfl, (blk_cell BK249.out 3).trans rfl, (blk_cell BK249.out 4).trans rfl⟩ (fun hHeld => ?_)
     generalize wc.drew = w20 at BK249 HB hHeld ⊢
     refine pu_ (i := 0) (N := some 45) #[true, false, false, false, false, false, false] ?_ (hc := (by kernel_rfl))
     refine pu_ (i := 3) (N := some 48) #[true, false, false, true, false, false, false] ?_ (hc := (by kernel_rfl))
     refine tk5_ (i := 1) (N := some 46) #[true, true, false, true, false, false, false] hHeld ?_ (hc := (by kernel_rfl))
     refine tk5_ (i := 4) (N := some 49) #[true, true, false, true, true, false, false] hHeld ?_ (hc := (by kernel_rfl))
     refine one_ (i := 2) (N := some 47) #[true, true, true, true, true, false, false] rfl rfl (by kernel_rfl) (by decide) (fun K hK => ?_)
     refine goes_ Tryz.func59 (by kernel_rfl) rfl #[.slice A0_2 l0_2.length c0_2] (by rfl) rfl rfl z36_ ?_
     with_reducible refine (spec_l01Own.calls _ _ l0_2 t252 _ ?side1 ?side2 A17.out).mono ?_
     (case side1 => exact kc_ (Kd.C_below HR0_2.out HB.out))
     (case side2 => exact HC0_2.out)
     rintro e w21 ⟨v253, rfl, ho0, hb⟩
     refine ⟨_, rfl, ?_⟩
     have HO254 := a_ (Kd.R_lower ho0 (below_size z26_))
     replace BK249 := a_ (blk_below (g := gb249) (rb_ BK249.out) hb)
     replace HB := a_ (below_step z26_ hb)
     (try clear hb)
     (try clear hb2)
     (try clear hk)
     (try clear hi)
     (try clear ho0)
     refine hK.out _ _ ⟨(blk_cell BK249.out 0).trans rfl, (blk_cell BK249.out 1).trans rfl, (blk_cell BK249.out 2).trans rfl, (blk_cell BK249.out 3).trans rfl, (blk_cell BK249.out 4).trans rfl⟩ (fun hHeld => ?_)
     clear hK K
     refine nm_ ?_
     refine one_ (i := 5) (N := some 50) #[true, true, true, true, true, true, false] rfl rfl (by kernel_rfl) (by decide) (fun K hK => ?_)
     refine Kd.R_append_rows_step (Kd.int .i64) (w0 := w) w.heap.size (by rfl) (.tmp 47) (.tmp 49) 22 2 (.int .i64 0) 8 rfl Tryz.underlying22 info2 rfl (by decide) (by omega) v253 t252 l0_3 _ _ _ (fun _ => True) (fun _ => False) rfl rfl ?aO ?aR (fun _ _ h => h) (fun _ h => h.elim) ?aF ?aB ?aS ?aL ?_
     (case aR => exact kc_ (Kd.C_below HR0_3.out HB.out))
     (case aB => exact z26_)
     (case aF => exact (fun _ _ => trivial))
     (case aO => exact (ra_ HO254.out))
     (case aS => exact (below_size z26_))
     (case aL => have := LMc18.out; omega)
     intro v256 w22 ho hb hg hat
     rw [← Ny255.out] at ho
     replace BK249 := a_ (blk_grown (g := gb249) (rb_ BK249.out) hg (Kd.R_ne HO254.out BK249.out (by decide)))
     replace HB := a_ (hb)
     have HO257 := a_ (ho)
     clear HO254
     clear ho hb hg hat
     refine hK.out _ _ ⟨(blk_cell BK249.out 0).trans rfl, (blk_cell BK249.out 1).trans rfl, (blk_cell BK249.out 2).trans rfl, (blk_cell BK249.out 3).trans rfl, (blk_cell BK249.out 4).trans rfl⟩ (fun hHeld => ?_)
     clear hK K
     refine nm_ ?_
     refine pu_ (i := 6) (N := some 4) #[true, true, true, true, true, true, true] ?_ (hc := (by kernel_rfl))
     refine done_ (by kernel_rfl) ?_
     obtain ⟨hcz23_0, hcz23_1, hcz23_2, hcz23_3, hcz23_4, hfz23_0, hfz23_1, hfz23_2, hfz23_3, hfz23_4⟩ := cz5_ (w := w22) BK249.out
     try go_wp2_with (first | ((with_reducible refine gate_callee (f := 68) rfl ?_); refine goesL_ (some 52) rfl rfl Tryz.func68 (by kernel_rfl) rfl #[.agg #[.int .i64 a0_0, .int .i64 a0_1, .slice A0_2 l0_2.length c0_2, .slice A0_3 l0_3.length c0_3, .slice A0_4 l0_4.length c0_4]] rfl z36_ ?_; (with_reducible refine (spec_l05Least.calls kj1 a0_0 a0_1 _ _ l0_2 _ _ l0_3 _ _ l0_4 t258 _ ?side1 ?side2 ?side3 ?side4 ?side5 ?side6 A19.out).mono ?_); (case side1 => exact kc_ (Kd.C_below HR0_2.out HB.out)); (case side2 => exact HC0_2.out); (case side3 => exact kc_ (Kd.C_below HR0_3.out HB.out)); (case side4 => exact HC0_3.out); (case side5 => exact kc_ (Kd.C_below HR0_4.out HB.out)); (case side6 => exact HC0_4.out); rintro e w24 ⟨rfl, hb⟩; refine ⟨_, rfl, ?_⟩; replace HO257 := a_ (Kd.R_below (ra_ HO257.out) hb); replace BK249 := a_ (blk_below (g := gb249) (rb_ BK249.out) hb); replace HB := a_ (below_step z26_ hb); (try clear hb); (try clear hb2); (try clear hk); (try clear hi)))
     go_loopg [6] kj1 (fun kq v6 w' => ∃ (x6_2 : Int), v6 = .int .i64 x6_2 ∧ Aside0 (spec_IsForm.l0 kq (wrap64 (a0_0 * a0_1)) y255 t258 x6_2 = some r) ∧ Aside0 (kq ≤ kj1) ∧ Aside0 (Kd.R (Kd.int .i64) 2 w' w.heap.size (fun _ => True) v256 y255) ∧ Aside0 (w'.heap[gb249]? = some (.cells #[.int .i64 a0_0, .int .i64 a0_1, (.slice A0_2 l0_2.length c0_2), (.slice A0_3 l0_3.length c0_3), (.slice A0_4 l0_4.length c0_4)] 28 (0, 0))) ∧ Aside0 (Below w.heap.size w w'))
     case atStart => exact ⟨(0), z78_, H', ⟨Nat.le_refl _⟩, ⟨by (with_reducible repeat (first | apply Kd.R_alloc | apply Kd.R_drewN | apply Kd.R_drew)); exact HO257.out⟩, ⟨z57_⟩, ⟨z26_⟩⟩
     case round =>
      clear H'
      try clear c16; try clear hcz23_0 hcz23_1 hcz23_2 hcz23_3 hcz23_4; try clear hfz23_0 hfz23_1 hfz23_2 hfz23_3 hfz23_4
      obtain ⟨x6_2, rfl, HA, HK2, HO_4, BK249, HB⟩ := hrel
      cases gk with
      | zero => exact absurd HA.out (by simp [spec_IsForm.l0])
      | succ k2 =>
       have H := HA.out
       clear HA
       simp only [spec_IsForm.l0] at H
       by_cases c25 : x6_2 < (y255.length : Int)
       ·rw [if_pos c25] at H
        have c25b0 : decide (x6_2 < (y255.length : Int)) = true := decide_eq_true c25
        clear c25
        by_cases c26 : 0 ≤ x6_2
        ·rw [if_pos c26] at H
         have c26b0 : decide (0 ≤ x6_2) = true := decide_eq_true c26
         clear c26
         replace H := Option.bind_eq_some_iff.mp H
         obtain ⟨t260, A270, H⟩ := H
         replace H : (if t260 = true then (if x6_2 ≤ (y255.length : Int) then ((spec_l01Has.f k2 (y255.take (x6_2 : Int).toNat) (rd y255 x6_2)).bind fun t266 => (if t266 = true then (some false) else (spec_IsForm.l0 k2 (wrap64 (a0_0 * a0_1)) y255 t258 (wrap64 (x6_2 + 1))))) else (none)) else (some false)) = some r := H
         have A27 := Aside0.mk A270
         clear A270
         by_cases c28 : t260 = true
         ·subst c28
          have H1 : (if x6_2 ≤ (y255.length : Int) then ((spec_l01Has.f k2 (y255.take (x6_2 : Int).toNat) (rd y255 x6_2)).bind fun t266 => (if t266 = true then (some false) else (spec_IsForm.l0 k2 (wrap64 (a0_0 * a0_1)) y255 t258 (wrap64 (x6_2 + 1))))) else (none)) = some r := by rw [if_pos rfl] at H; exact H
          clear H
          have H := H1
          clear H1
          have c29b0 := eq_true (of_decide_eq_true z77_ : 0 ≤ x6_2)
          by_cases c30 : x6_2 ≤ (y255.length : Int)
          ·rw [if_pos c30] at H
           have c30b0 := eq_true c30
           have c30b1 : decide (x6_2 ≤ (y255.length : Int)) = true := decide_eq_true c30
           clear c30
           obtain ⟨y261, hy261⟩ : ∃ y_ : List Int, y_ = (y255.take (x6_2 : Int).toNat) := ⟨_, rfl⟩
           replace H : ((spec_l01Has.f k2 y261 (rd y255 x6_2)).bind fun t266 => (if t266 = true then (some false) else (spec_IsForm.l0 k2 (wrap64 (a0_0 * a0_1)) y255 t258 (wrap64 (x6_2 + 1))))) = some r := rh_ hy261 H
           have Ny261 := Aside0.mk hy261
           clear hy261
           replace H := Option.bind_eq_some_iff.mp H
           obtain ⟨t266, A310, H⟩ := H
           replace H : (if t266 = true then (some false) else (spec_IsForm.l0 k2 (wrap64 (a0_0 * a0_1)) y255 t258 (wrap64 (x6_2 + 1)))) = some r := H
           have A31 := Aside0.mk A310
           clear A310
           by_cases c32 : t266 = true
           ·subst c32
            have H1 : (some false) = some r := by rw [if_pos rfl] at H; exact H
            clear H
            have H := H1
            clear H1
            obtain rfl := Option.some.inj H
            obtain ⟨Ao33, co33, eo33⟩ := Kd.R_slice HO_4.out
            subst eo33
            try go_wp2
            replace HO_4 := a_ (Kd.R_drew HO_4.out)
            replace BK249 := a_ (blk_drew BK249.out)
            replace HB := a_ (below_drew1 HB.out)
            have p259 : 0 ≤ (x6_2 : Int) := of_decide_eq_true z77_
            have q259 : x6_2 < (y255.length : Int) := of_decide_eq_true z77_
            obtain ⟨ad259, e259, hx259_0⟩ := Kd.at_int (Kd.R_reads' HO_4.out).2.2 x6_2 p259 q259
            cases e259
            replace p259 := eq_true p259
            replace q259 := eq_true q259
            have p265 : 0 ≤ (x6_2 : Int) := of_decide_eq_true z77_
            have q265 : x6_2 < (y255.length : Int) := of_decide_eq_true z77_
            obtain ⟨ad265, e265, hx265_0⟩ := Kd.at_int (Kd.R_reads' HO_4.out).2.2 x6_2 p265 q265
            obtain rfl : ad259 = ad265 := (by injection e265)
            replace p265 := eq_true p265
            replace q265 := eq_true q265
            refine start_ (n := 22) (S := fun w' => w'.cell? (ad259.add (x6_2).toNat) = some (.int .i64 (rd y255 x6_2)) ∧ w'.cell? (ad259.add (x6_2).toNat) = some (.int .i64 (rd y255 x6_2))) (ds := []) #[false, false, false, false, false, false, false, false, false, false, false, false, false, false, false, false, false, false, false, false, false, false] (by kernel_rfl) rfl rfl ⟨hx259_0, hx265_0⟩ (fun hHeld => ?_); refine with_tabW spec_IsForm.tab9 spec_IsForm.bits9 (fun HT_ HW_ => ?_)
            generalize wr.drew = w34 at HO_4 BK249 HB hx259_0 hx265_0 hHeld ⊢
            refine pu_ (i := 0) (N := some 59) #[true, false, false, false, false, false, false, false, false, false, false, false, false, false, false, false, false, false, false, false, false, false] ?_
            refine pu_ (i := 1) (N := some 60) #[true, true, false, false, false, false, false, false, false, false, false, false, false, false, false, false, false, false, false, false, false, false] ?_
            refine pu_ (i := 2) (N := some 61) #[true, true, true, false, false, false, false, false, false, false, false, false, false, false, false, false, false, false, false, false, false, false] ?_
            refine pu_ (i := 4) (N := some 63) #[true, true, true, false, true, false, false, false, false, false, false, false, false, false, false, false, false, false, false, false, false, false] ?_
            refine pu_ (i := 5) (N := some 64) #[true, true, true, false, true, true, false, false, false, false, false, false, false, false, false, false, false, false, false, false, false, false] ?_
            refine pu_ (i := 6) (N := some 65) #[true, true, true, false, true, true, true, false, false, false, false, false, false, false, false, false, false, false, false, false, false, false] ?_
            refine pu_ (i := 7) (N := some 66) #[true, true, true, false, true, true, true, true, false, false, false, false, false, false, false, false, false, false, false, false, false, false] ?_
            refine pu_ (i := 8) (N := some 67) #[true, true, true, false, true, true, true, true, true, false, false, false, false, false, false, false, false, false, false, false, false, false] ?_
            refine pu_ (i := 9) (N := some 68) #[true, true, true, false, true, true, true, true, true, true, false, false, false, false, false, false, false, false, false, false, false, false] ?_
            refine tk2_ (i := 3) (N := some 62) #[true, true, true, true, true, true, true, true, true, true, false, false, false, false, false, false, false, false, false, false, false, false] hHeld ?_
            refine one_ (i := 10) (N := some 69) #[true, true, true, true, true, true, true, true, true, true, true, false, false, false, false, false, false, false, false, false, false, false] rfl rfl (one_of HT_.out (by kernel_rfl)) (by decide) (fun K hK => ?_)
            refine goes_ Tryz.func57 (by kernel_rfl) rfl #[.int .i64 (rd y255 x6_2), .int .i64 t258, .int .i64 (wrap64 ((wrap64 (t258 + (wrap64 (2 * (wrap64 (a0_0 * a0_1)))))) - 1))] (by rfl) rfl rfl z36_ ?_
            with_reducible refine (spec_l01In.calls (rd y255 x6_2) t258 (wrap64 ((wrap64 (t258 + (wrap64 (2 * (wrap64 (a0_0 * a0_1)))))) - 1)) true _ A27.out).mono ?_
            rintro e w' ⟨rfl, ⟨nd, rfl⟩⟩
            refine ⟨_, rfl, ?_⟩
            have q35 : (x6_2 : Int) ≤ ((y255.length : Int) : Int) := of_decide_eq_true z77_
            obtain ⟨i035, hi035, _, hsz35, _⟩ := info_parts info2
            have hroom35 : y255.length ≤ co33 := (Kd.R_reads' HO_4.out).2.1
            have hC35 : Kd.C (Kd.int .i64) _ (some ad259) y255.length y255 := (Kd.R_reads' HO_4.out).2.2
            have hcut35 := cut_to (P := Tryz.prog) 22 2 .i64 Tryz.underlying22 hi035 (some ad259) y255.length co33 x6_2 (of_decide_eq_true z77_) q35 hroom35
            have hr35 := Kd.C_take (m := (x6_2 : Int).toNat) hC35 (by omega)
            have hy35 : y261.length = (x6_2 : Int).toNat := (by rw [Ny261.out, List.length_take]; omega)
            rw [← Ny261.out] at hr35
            rw [← hy35] at hcut35
            have HR264 := Aside0.mk hr35
            have HC264 := a_ (show y261.length ≤ co33 from by omega)
            clear hr35 hC35 hroom35 hi035 hsz35
            have KY35 := Aside0.mk hy35
            clear hy35
            have KL35 := a_ (show (x6_2 : Int).toNat ≤ y255.length from by omega)
            replace q35 := eq_true q35
            refine hK.out _ _ ⟨hHeld.1, hHeld.2⟩ (fun hHeld => ?_)
            clear hK K
            refine nm_ ?_
            refine pu_ (i := 11) (N := some 70) #[true, true, true, true, true, true, true, true, true, true, true, true, false, false, false, false, false, false, false, false, false, false] ?_
            refine pu_ (i := 12) (N := some 71) #[true, true, true, true, true, true, true, true, true, true, true, true, true, false, false, false, false, false, false, false, false, false] ?_
            refine pu_ (i := 13) (N := some 72) #[true, true, true, true, true, true, true, true, true, true, true, true, true, true, false, false, false, false, false, false, false, false] ?_
            refine pu_ (i := 14) (N := some 73) #[true, true, true, true, true, true, true, true, true, true, true, true, true, true, true, false, false, false, false, false, false, false] ?_
            refine pu_ (i := 15) (N := some 74) #[true, true, true, true, true, true, true, true, true, true, true, true, true, true, true, true, false, false, false, false, false, false] ?_
            refine pu_ (i := 16) (N := some 75) #[true, true, true, true, true, true, true, true, true, true, true, true, true, true, true, true, true, false, false, false, false, false] ?_
            refine pu_ (i := 17) (N := some 76) #[true, true, true, true, true, true, true, true, true, true, true, true, true, true, true, true, true, true, false, false, false, false] ?_
            refine pu_ (i := 18) (N := some 77) #[true, true, true, true, true, true, true, true, true, true, true, true, true, true, true, true, true, true, true, false, false, false] ?_
            refine tk2_ (i := 19) (N := some 78) #[true, true, true, true, true, true, true, true, true, true, true, true, true, true, true, true, true, true, true, true, false, false] hHeld ?_
            refine one_ (i := 20) (N := some 79) #[true, true, true, true, true, true, true, true, true, true, true, true, true, true, true, true, true, true, true, true, true, false] rfl rfl (one_of HT_.out (by kernel_rfl)) (by decide) (fun K hK => ?_)
            refine goes_ Tryz.func69 (by kernel_rfl) rfl #[.slice (some ad259) y261.length co33, .int .i64 (rd y255 x6_2)] (by rfl) rfl rfl z36_ ?_
            with_reducible refine (spec_l01Has.calls k2 _ _ y261 (rd y255 x6_2) true _ ?side1 ?side2 A31.out).mono ?_
            (case side1 => exact (by (repeat (first | exact (by repeat (first | (with_reducible exact HR264.out) | (with_reducible refine Kd.C_alloc ?_ _) | (with_reducible refine Kd.C_drewN ?_ _) | (with_reducible refine Kd.C_drew ?_) | exact HR264.out)) | (with_reducible refine Kd.C_alloc ?_ _) | (with_reducible refine Kd.C_drewN ?_ _) | (with_reducible refine Kd.C_drew ?_))); first | done | fail))
            (case side2 => exact HC264.out)
            rintro e w' ⟨rfl, ⟨nd, rfl⟩⟩
            refine ⟨_, rfl, ?_⟩
            refine hK.out _ _ ⟨hHeld.1, hHeld.2⟩ (fun hHeld => ?_)
            clear hK K
            refine nm_ ?_
            refine pu_ (i := 21) (N := some 80) #[true, true, true, true, true, true, true, true, true, true, true, true, true, true, true, true, true, true, true, true, true, true] ?_
            refine done_ (done_of HT_.out (by kernel_rfl)) ?_
            try go_wp2
            go_ret
            exact ⟨z34_, z26_⟩
           ·replace c32 := Bool.eq_false_iff.mpr c32
            subst c32
            have H1 : (spec_IsForm.l0 k2 (wrap64 (a0_0 * a0_1)) y255 t258 (wrap64 (x6_2 + 1))) = some r := by rw [if_neg (show ¬ (false = true) by decide)] at H; exact H
            clear H
            have H := H1
            clear H1
            have H' := Aside0.mk H
            clear H
            obtain ⟨Ao36, co36, eo36⟩ := Kd.R_slice HO_4.out
            subst eo36
            try go_wp2
            replace HO_4 := a_ (Kd.R_drew HO_4.out)
            replace BK249 := a_ (blk_drew BK249.out)
            replace HB := a_ (below_drew1 HB.out)
            have p259 : 0 ≤ (x6_2 : Int) := of_decide_eq_true z77_
            have q259 : x6_2 < (y255.length : Int) := of_decide_eq_true z77_
            obtain ⟨ad259, e259, hx259_0⟩ := Kd.at_int (Kd.R_reads' HO_4.out).2.2 x6_2 p259 q259
            cases e259
            replace p259 := eq_true p259
            replace q259 := eq_true q259
            have p265 : 0 ≤ (x6_2 : Int) := of_decide_eq_true z77_
            have q265 : x6_2 < (y255.length : Int) := of_decide_eq_true z77_
            obtain ⟨ad265, e265, hx265_0⟩ := Kd.at_int (Kd.R_reads' HO_4.out).2.2 x6_2 p265 q265
            obtain rfl : ad259 = ad265 := (by injection e265)
            replace p265 := eq_true p265
            replace q265 := eq_true q265
            refine start_ (n := 22) (S := fun w' => w'.cell? (ad259.add (x6_2).toNat) = some (.int .i64 (rd y255 x6_2)) ∧ w'.cell? (ad259.add (x6_2).toNat) = some (.int .i64 (rd y255 x6_2))) (ds := []) #[false, false, false, false, false, false, false, false, false, false, false, false, false, false, false, false, false, false, false, false, false, false] (by kernel_rfl) rfl rfl ⟨hx259_0, hx265_0⟩ (fun hHeld => ?_); refine with_tabW spec_IsForm.tab9 spec_IsForm.bits9 (fun HT_ HW_ => ?_)
            generalize wr.drew = w37 at HO_4 BK249 HB hx259_0 hx265_0 hHeld ⊢
            refine pu_ (i := 0) (N := some 59) #[true, false, false, false, false, false, false, false, false, false, false, false, false, false, false, false, false, false, false, false, false, false] ?_
            refine pu_ (i := 1) (N := some 60) #[true, true, false, false, false, false, false, false, false, false, false, false, false, false, false, false, false, false, false, false, false, false] ?_
            refine pu_ (i := 2) (N := some 61) #[true, true, true, false, false, false, false, false, false, false, false, false, false, false, false, false, false, false, false, false, false, false] ?_
            refine pu_ (i := 4) (N := some 63) #[true, true, true, false, true, false, false, false, false, false, false, false, false, false, false, false, false, false, false, false, false, false] ?_
            refine pu_ (i := 5) (N := some 64) #[true, true, true, false, true, true, false, false, false, false, false, false, false, false, false, false, false, false, false, false, false, false] ?_
            refine pu_ (i := 6) (N := some 65) #[true, true, true, false, true, true, true, false, false, false, false, false, false, false, false, false, false, false, false, false, false, false] ?_
            refine pu_ (i := 7) (N := some 66) #[true, true, true, false, true, true, true, true, false, false, false, false, false, false, false, false, false, false, false, false, false, false] ?_
            refine pu_ (i := 8) (N := some 67) #[true, true, true, false, true, true, true, true, true, false, false, false, false, false, false, false, false, false, false, false, false, false] ?_
            refine pu_ (i := 9) (N := some 68) #[true, true, true, false, true, true, true, true, true, true, false, false, false, false, false, false, false, false, false, false, false, false] ?_
            refine tk2_ (i := 3) (N := some 62) #[true, true, true, true, true, true, true, true, true, true, false, false, false, false, false, false, false, false, false, false, false, false] hHeld ?_
            refine one_ (i := 10) (N := some 69) #[true, true, true, true, true, true, true, true, true, true, true, false, false, false, false, false, false, false, false, false, false, false] rfl rfl (one_of HT_.out (by kernel_rfl)) (by decide) (fun K hK => ?_)
            refine goes_ Tryz.func57 (by kernel_rfl) rfl #[.int .i64 (rd y255 x6_2), .int .i64 t258, .int .i64 (wrap64 ((wrap64 (t258 + (wrap64 (2 * (wrap64 (a0_0 * a0_1)))))) - 1))] (by rfl) rfl rfl z36_ ?_
            with_reducible refine (spec_l01In.calls (rd y255 x6_2) t258 (wrap64 ((wrap64 (t258 + (wrap64 (2 * (wrap64 (a0_0 * a0_1)))))) - 1)) true _ A27.out).mono ?_
            rintro e w' ⟨rfl, ⟨nd, rfl⟩⟩
            refine ⟨_, rfl, ?_⟩
            have q38 : (x6_2 : Int) ≤ ((y255.length : Int) : Int) := of_decide_eq_true z77_
            obtain ⟨i038, hi038, _, hsz38, _⟩ := info_parts info2
            have hroom38 : y255.length ≤ co36 := (Kd.R_reads' HO_4.out).2.1
            have hC38 : Kd.C (Kd.int .i64) _ (some ad259) y255.length y255 := (Kd.R_reads' HO_4.out).2.2
            have hcut38 := cut_to (P := Tryz.prog) 22 2 .i64 Tryz.underlying22 hi038 (some ad259) y255.length co36 x6_2 (of_decide_eq_true z77_) q38 hroom38
            have hr38 := Kd.C_take (m := (x6_2 : Int).toNat) hC38 (by omega)
            have hy38 : y261.length = (x6_2 : Int).toNat := (by rw [Ny261.out, List.length_take]; omega)
            rw [← Ny261.out] at hr38
            rw [← hy38] at hcut38
            have HR264 := Aside0.mk hr38
            have HC264 := a_ (show y261.length ≤ co36 from by omega)
            clear hr38 hC38 hroom38 hi038 hsz38
            have KY38 := Aside0.mk hy38
            clear hy38
            have KL38 := a_ (show (x6_2 : Int).toNat ≤ y255.length from by omega)
            replace q38 := eq_true q38
            refine hK.out _ _ ⟨hHeld.1, hHeld.2⟩ (fun hHeld => ?_)
            clear hK K
            refine nm_ ?_
            refine pu_ (i := 11) (N := some 70) #[true, true, true, true, true, true, true, true, true, true, true, true, false, false, false, false, false, false, false, false, false, false] ?_
            refine pu_ (i := 12) (N := some 71) #[true, true, true, true, true, true, true, true, true, true, true, true, true, false, false, false, false, false, false, false, false, false] ?_
            refine pu_ (i := 13) (N := some 72) #[true, true, true, true, true, true, true, true, true, true, true, true, true, true, false, false, false, false, false, false, false, false] ?_
            refine pu_ (i := 14) (N := some 73) #[true, true, true, true, true, true, true, true, true, true, true, true, true, true, true, false, false, false, false, false, false, false] ?_
            refine pu_ (i := 15) (N := some 74) #[true, true, true, true, true, true, true, true, true, true, true, true, true, true, true, true, false, false, false, false, false, false] ?_
            refine pu_ (i := 16) (N := some 75) #[true, true, true, true, true, true, true, true, true, true, true, true, true, true, true, true, true, false, false, false, false, false] ?_
            refine pu_ (i := 17) (N := some 76) #[true, true, true, true, true, true, true, true, true, true, true, true, true, true, true, true, true, true, false, false, false, false] ?_
            refine pu_ (i := 18) (N := some 77) #[true, true, true, true, true, true, true, true, true, true, true, true, true, true, true, true, true, true, true, false, false, false] ?_
            refine tk2_ (i := 19) (N := some 78) #[true, true, true, true, true, true, true, true, true, true, true, true, true, true, true, true, true, true, true, true, false, false] hHeld ?_
            refine one_ (i := 20) (N := some 79) #[true, true, true, true, true, true, true, true, true, true, true, true, true, true, true, true, true, true, true, true, true, false] rfl rfl (one_of HT_.out (by kernel_rfl)) (by decide) (fun K hK => ?_)
            refine goes_ Tryz.func69 (by kernel_rfl) rfl #[.slice (some ad259) y261.length co36, .int .i64 (rd y255 x6_2)] (by rfl) rfl rfl z36_ ?_
            with_reducible refine (spec_l01Has.calls k2 _ _ y261 (rd y255 x6_2) false _ ?side1 ?side2 A31.out).mono ?_
            (case side1 => exact (by (repeat (first | exact (by repeat (first | (with_reducible exact HR264.out) | (with_reducible refine Kd.C_alloc ?_ _) | (with_reducible refine Kd.C_drewN ?_ _) | (with_reducible refine Kd.C_drew ?_) | exact HR264.out)) | (with_reducible refine Kd.C_alloc ?_ _) | (with_reducible refine Kd.C_drewN ?_ _) | (with_reducible refine Kd.C_drew ?_))); first | done | fail))
            (case side2 => exact HC264.out)
            rintro e w' ⟨rfl, ⟨nd, rfl⟩⟩
            refine ⟨_, rfl, ?_⟩
            refine hK.out _ _ ⟨hHeld.1, hHeld.2⟩ (fun hHeld => ?_)
            clear hK K
            refine nm_ ?_
            refine pu_ (i := 21) (N := some 80) #[true, true, true, true, true, true, true, true, true, true, true, true, true, true, true, true, true, true, true, true, true, true] ?_
            refine done_ (done_of HT_.out (by kernel_rfl)) ?_
            try go_wp2
            go_roundg k2
            case measure => have := HJ1.out; have := HK2.out; omega
            case rel => exact ⟨(wrap64 (x6_2 + 1)), z78_, H', ⟨by have := HJ1.out; have := HK2.out; omega⟩, ⟨by (with_reducible repeat (first | apply Kd.R_alloc | apply Kd.R_drewN | apply Kd.R_drew)); exact HO_4.out⟩, ⟨z57_⟩, ⟨z26_⟩⟩
          ·rw [if_neg c30] at H
           exact absurd H (by simp)
         ·replace c28 := Bool.eq_false_iff.mpr c28
          subst c28
          have H1 : (some false) = some r := by rw [if_neg (show ¬ (false = true) by decide)] at H; exact H
          clear H
          have H := H1
          clear H1
          obtain rfl := Option.some.inj H
          obtain ⟨Ao39, co39, eo39⟩ := Kd.R_slice HO_4.out
          subst eo39
          try go_wp2
          replace HO_4 := a_ (Kd.R_drew HO_4.out)
          replace BK249 := a_ (blk_drew BK249.out)
          replace HB := a_ (below_drew1 HB.out)
          have p259 : 0 ≤ (x6_2 : Int) := of_decide_eq_true z77_
          have q259 : x6_2 < (y255.length : Int) := of_decide_eq_true z77_
          obtain ⟨ad259, e259, hx259_0⟩ := Kd.at_int (Kd.R_reads' HO_4.out).2.2 x6_2 p259 q259
          cases e259
          replace p259 := eq_true p259
          replace q259 := eq_true q259
          refine start_ (n := 22) (S := fun w' => w'.cell? (ad259.add (x6_2).toNat) = some (.int .i64 (rd y255 x6_2))) (ds := []) #[false, false, false, false, false, false, false, false, false, false, false, false, false, false, false, false, false, false, false, false, false, false] (by kernel_rfl) rfl rfl (hx259_0) (fun hHeld => ?_); refine with_tabW spec_IsForm.tab9 spec_IsForm.bits9 (fun HT_ HW_ => ?_)
          generalize wr.drew = w40 at HO_4 BK249 HB hx259_0 hHeld ⊢
          refine pu_ (i := 0) (N := some 59) #[true, false, false, false, false, false, false, false, false, false, false, false, false, false, false, false, false, false, false, false, false, false] ?_
          refine pu_ (i := 1) (N := some 60) #[true, true, false, false, false, false, false, false, false, false, false, false, false, false, false, false, false, false, false, false, false, false] ?_
          refine pu_ (i := 2) (N := some 61) #[true, true, true, false, false, false, false, false, false, false, false, false, false, false, false, false, false, false, false, false, false, false] ?_
          refine pu_ (i := 4) (N := some 63) #[true, true, true, false, true, false, false, false, false, false, false, false, false, false, false, false, false, false, false, false, false, false] ?_
          refine pu_ (i := 5) (N := some 64) #[true, true, true, false, true, true, false, false, false, false, false, false, false, false, false, false, false, false, false, false, false, false] ?_
          refine pu_ (i := 6) (N := some 65) #[true, true, true, false, true, true, true, false, false, false, false, false, false, false, false, false, false, false, false, false, false, false] ?_
          refine pu_ (i := 7) (N := some 66) #[true, true, true, false, true, true, true, true, false, false, false, false, false, false, false, false, false, false, false, false, false, false] ?_
          refine pu_ (i := 8) (N := some 67) #[true, true, true, false, true, true, true, true, true, false, false, false, false, false, false, false, false, false, false, false, false, false] ?_
          refine pu_ (i := 9) (N := some 68) #[true, true, true, false, true, true, true, true, true, true, false, false, false, false, false, false, false, false, false, false, false, false] ?_
          refine take_ (i := 3) (N := some 62) (v := ?_) (a' := ?_) #[true, true, true, true, true, true, true, true, true, true, false, false, false, false, false, false, false, false, false, false, false, false] rfl rfl (take_ofW HT_.out HW_.out (by kernel_rfl)) (fun _ _ _ h => h) (Or.inl ⟨by rfl, ?_⟩) hHeld ?_ ?_
          rotate_left
          ·intro w' s0
           go_simp
           with_reducible rfl
          rotate_left
          ·simp only [Act.put, List.setIfInBounds_toArray, List.set_cons_zero, List.set_cons_succ, i64_w, i32_w]
           rfl
          refine one_ (i := 10) (N := some 69) #[true, true, true, true, true, true, true, true, true, true, true, false, false, false, false, false, false, false, false, false, false, false] rfl rfl (one_of HT_.out (by kernel_rfl)) (by decide) (fun K hK => ?_)
          refine goes_ Tryz.func57 (by kernel_rfl) rfl #[.int .i64 (rd y255 x6_2), .int .i64 t258, .int .i64 (wrap64 ((wrap64 (t258 + (wrap64 (2 * (wrap64 (a0_0 * a0_1)))))) - 1))] (by rfl) rfl rfl z36_ ?_
          with_reducible refine (spec_l01In.calls (rd y255 x6_2) t258 (wrap64 ((wrap64 (t258 + (wrap64 (2 * (wrap64 (a0_0 * a0_1)))))) - 1)) false _ A27.out).mono ?_
          rintro e w' ⟨rfl, ⟨nd, rfl⟩⟩
          refine ⟨_, rfl, ?_⟩
          refine hK.out _ _ (hHeld) (fun hHeld => ?_)
          clear hK K
          refine nm_ ?_
          refine pu_ (i := 11) (N := some 70) #[true, true, true, true, true, true, true, true, true, true, true, true, false, false, false, false, false, false, false, false, false, false] ?_
          refine pu_ (i := 12) (N := some 71) #[true, true, true, true, true, true, true, true, true, true, true, true, true, false, false, false, false, false, false, false, false, false] ?_
          refine pure_ (i := 13) (N := some 72) (v := undef) (a' := ?_) #[true, true, true, true, true, true, true, true, true, true, true, true, true, true, false, false, false, false, false, false, false, false] rfl rfl (any_of HT_.out (by kernel_rfl)) (fun _ _ _ h => h) (Or.inr ⟨by rfl, rfl⟩) ?_ ?_
          rotate_left
          ·simp only [Act.put, List.setIfInBounds_toArray, List.set_cons_zero, List.set_cons_succ, i64_w, i32_w]
           rfl
          refine pure_ (i := 14) (N := some 73) (v := undef) (a' := ?_) #[true, true, true, true, true, true, true, true, true, true, true, true, true, true, true, false, false, false, false, false, false, false] rfl rfl (any_of HT_.out (by kernel_rfl)) (fun _ _ _ h => h) (Or.inr ⟨by rfl, rfl⟩) ?_ ?_
          rotate_left
          ·simp only [Act.put, List.setIfInBounds_toArray, List.set_cons_zero, List.set_cons_succ, i64_w, i32_w]
           rfl
          refine pure_ (i := 15) (N := some 74) (v := undef) (a' := ?_) #[true, true, true, true, true, true, true, true, true, true, true, true, true, true, true, true, false, false, false, false, false, false] rfl rfl (any_of HT_.out (by kernel_rfl)) (fun _ _ _ h => h) (Or.inr ⟨by rfl, rfl⟩) ?_ ?_
          rotate_left
          ·simp only [Act.put, List.setIfInBounds_toArray, List.set_cons_zero, List.set_cons_succ, i64_w, i32_w]
           rfl
          refine pure_ (i := 16) (N := some 75) (v := undef) (a' := ?_) #[true, true, true, true, true, true, true, true, true, true, true, true, true, true, true, true, true, false, false, false, false, false] rfl rfl (any_of HT_.out (by kernel_rfl)) (fun _ _ _ h => h) (Or.inr ⟨by rfl, rfl⟩) ?_ ?_
          rotate_left
          ·simp only [Act.put, List.setIfInBounds_toArray, List.set_cons_zero, List.set_cons_succ, i64_w, i32_w]
           rfl
          refine pure_ (i := 17) (N := some 76) (v := undef) (a' := ?_) #[true, true, true, true, true, true, true, true, true, true, true, true, true, true, true, true, true, true, false, false, false, false] rfl rfl (any_of HT_.out (by kernel_rfl)) (fun _ _ _ h => h) (Or.inr ⟨by rfl, rfl⟩) ?_ ?_
          rotate_left
          ·simp only [Act.put, List.setIfInBounds_toArray, List.set_cons_zero, List.set_cons_succ, i64_w, i32_w]
           rfl
          refine pure_ (i := 18) (N := some 77) (v := undef) (a' := ?_) #[true, true, true, true, true, true, true, true, true, true, true, true, true, true, true, true, true, true, true, false, false, false] rfl rfl (any_of HT_.out (by kernel_rfl)) (fun _ _ _ h => h) (Or.inr ⟨by rfl, rfl⟩) ?_ ?_
          rotate_left
          ·simp only [Act.put, List.setIfInBounds_toArray, List.set_cons_zero, List.set_cons_succ, i64_w, i32_w]
           rfl
          refine pure_ (i := 19) (N := some 78) (v := undef) (a' := ?_) #[true, true, true, true, true, true, true, true, true, true, true, true, true, true, true, true, true, true, true, true, false, false] rfl rfl (any_of HT_.out (by kernel_rfl)) (fun _ _ _ h => h) (Or.inr ⟨by rfl, rfl⟩) ?_ ?_
          rotate_left
          ·simp only [Act.put, List.setIfInBounds_toArray, List.set_cons_zero, List.set_cons_succ, i64_w, i32_w]
           rfl
          refine pure_ (i := 20) (N := some 79) (v := undef) (a' := ?_) #[true, true, true, true, true, true, true, true, true, true, true, true, true, true, true, true, true, true, true, true, true, false] rfl rfl (any_of HT_.out (by kernel_rfl)) (fun _ _ _ h => h) (Or.inr ⟨by rfl, rfl⟩) ?_ ?_
          rotate_left
          ·simp only [Act.put, List.setIfInBounds_toArray, List.set_cons_zero, List.set_cons_succ, i64_w, i32_w]
           rfl
          refine pu_ (i := 21) (N := some 80) #[true, true, true, true, true, true, true, true, true, true, true, true, true, true, true, true, true, true, true, true, true, true] ?_
          refine done_ (done_of HT_.out (by kernel_rfl)) ?_
          try go_wp2
          go_ret
          exact ⟨z34_, z26_⟩
        ·rw [if_neg c26] at H
         exact absurd H (by simp)
       ·rw [if_neg c25] at H
        have c25b0 : decide (x6_2 < (y255.length : Int)) = false := decide_eq_false c25
        clear c25
        by_cases c41 : t258 ≥ 1
        ·rw [if_pos c41] at H
         have c41b0 : decide (1 ≤ t258) = true := decide_eq_true c41
         clear c41
         obtain rfl := Option.some.inj H
         obtain ⟨Ao42, co42, eo42⟩ := Kd.R_slice HO_4.out
         subst eo42
         go_wp2
         go_ret
         exact ⟨z34_, z26_⟩
        ·rw [if_neg c41] at H
         have c41b0 : decide (1 ≤ t258) = false := decide_eq_false c41
         clear c41
         obtain rfl := Option.some.inj H
         obtain ⟨Ao43, co43, eo43⟩ := Kd.R_slice HO_4.out
         subst eo43
         go_wp2
         go_ret
         exact ⟨z34_, z26_⟩
    ·rw [if_neg c18] at H
     exact absurd H (by simp)

end Go.Proofs.YtkpidjmhdagkfaaGreatDoor.QFnExactReadForm
-- halved
