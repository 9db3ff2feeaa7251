-- Written by own_print.py of this session's repo over the kit's print (its output, turned at some places).
import Derived.Test.YtkpidjmhdagkfaaQFnPagePlacesx0
import Derived.Test.YtkpidjmhdagkfaaQFnPagePlacesx3
import Derived.Test.YtkpidjmhdagkfaaQFnPagePlacesx4
namespace Go.Proofs.Ytkpidjmhdagkfaa.QFnPagePlaces
open Go.RowKit Go.Proofs.YtkpidjmhdagkfaaW.PrintWords Go.Proofs.YtkpidjmhdagkfaaW.PrintLast Go.Proofs.YtkpidjmhdagkfaaW.PrintMore
attribute [local go_sem] max2_int min2_int max_two min_two max_three min_three max_four min_four   -- for this text's walks alone
set_option linter.unusedVariables false
set_option linter.unusedSimpArgs false

/-! ### spec_TurnForm: function 16 -/
def spec_TurnForm.l0 : Nat → List Int → Int → Int → Int → List Int → List Int → List Int → Option (Int × Int × List Int × List Int × List Int × Int)
 | 0, _, _, _, _, _, _, _ => none
 | k + 1, x4, x5, x175000, x175001, x175002, x175003, x175004 => if x5 < (wrap64 (x175000 * x175001)) then (if x175000 = 0 then (none) else (if 0 ≤ (wrap64 ((wrap64 ((wrap64 ((wrap64 ((wrap64 (Int.tdiv x5 x175000)) * x175000)) + x175000)) - 1)) - (Int.tmod x5 x175000))) then (if (wrap64 ((wrap64 ((wrap64 ((wrap64 ((wrap64 (Int.tdiv x5 x175000)) * x175000)) + x175000)) - 1)) - (Int.tmod x5 x175000))) < (x175004.length : Int) then (if x4.length < 17592186044416 then (spec_TurnForm.l0 k (x4 ++ [rd x175004 (wrap64 ((wrap64 ((wrap64 ((wrap64 ((wrap64 (Int.tdiv x5 x175000)) * x175000)) + x175000)) - 1)) - (Int.tmod x5 x175000)))]) (wrap64 (x5 + 1)) x175000 x175001 x175002 x175003 x175004) else (none)) else (none)) else (none))) else ((spec_l01Own.f x175003).bind fun t184 => ((spec_l01Own.f x175002).bind fun t187 => (some (x175000, x175001, t184, t187, x4, 0))))
def spec_TurnForm.f (k : Nat) (a0_0 : Int) (a0_1 : Int) (l0_2 : List Int) (l0_3 : List Int) (l0_4 : List Int) : Option (Int × Int × List Int × List Int × List Int × Int) := (spec_IsForm.f k a0_0 a0_1 l0_2 l0_3 l0_4).bind fun t176 => (if t176 = true then (spec_TurnForm.l0 k (([] : List Int)) 0 a0_0 a0_1 l0_2 l0_3 l0_4) else (some (0, 0, ([] : List Int), ([] : List Int), ([] : List Int), 1)))
theorem spec_TurnForm.mono_l : ∀ k, (∀ y0 y1 y2 y3 y4 y5 y6, LeO (spec_TurnForm.l0 k y0 y1 y2 y3 y4 y5 y6) (spec_TurnForm.l0 (k + 1) y0 y1 y2 y3 y4 y5 y6))
 | 0 => fun _ _ _ _ _ _ _ r h => by simp [spec_TurnForm.l0] at h
 | k + 1 => by
  have ih0 := spec_TurnForm.mono_l k
  ·intro y0 y1 y2 y3 y4 y5 y6
   unfold spec_TurnForm.l0
   repeat' first
   | (with_reducible exact ih0 _ _ _ _ _ _ _)
   | (with_reducible exact spec_IsForm.mono _ _ _ _ _ _)
   | (with_reducible exact LeO.refl _)
   | (with_reducible exact LeO.none _)
   | (with_reducible refine LeO.ite ?_ ?_)
   | (with_reducible refine LeO.bind ?_ (fun _ => ?_))
   | exact ih0 _ _ _ _ _ _ _
   | exact spec_IsForm.mono _ _ _ _ _ _
   | exact LeO.none _
   | refine LeO.ite ?_ ?_
   | refine LeO.bind ?_ (fun _ => ?_)
theorem spec_TurnForm.mono : ∀ a0 a1 a2 a3 a4 k, LeO (spec_TurnForm.f k a0 a1 a2 a3 a4) (spec_TurnForm.f (k + 1) a0 a1 a2 a3 a4) := by
 intro a0 a1 a2 a3 a4 k
 have ih0 := spec_TurnForm.mono_l k
 unfold spec_TurnForm.f
 repeat' first
   | (with_reducible exact ih0 _ _ _ _ _ _ _)
   | (with_reducible exact spec_IsForm.mono _ _ _ _ _ _)
   | (with_reducible exact LeO.refl _)
   | (with_reducible exact LeO.none _)
   | (with_reducible refine LeO.ite ?_ ?_)
   | (with_reducible refine LeO.bind ?_ (fun _ => ?_))
   | exact ih0 _ _ _ _ _ _ _
   | exact spec_IsForm.mono _ _ _ _ _ _
   | exact LeO.none _
   | refine LeO.ite ?_ ?_
   | refine LeO.bind ?_ (fun _ => ?_)
def spec_TurnForm.T7 : Bool × List (List Nat × List Nat) := (true, [([], []), ([], []), ([1], [1]), ([], []), ([], []), ([4], [4]), ([3, 5], [3, 5]), ([], []), ([7], [7]), ([6, 8], [6, 8]), ([], []), ([10], [10]), ([9, 11], [9, 11]), ([12], [12]), ([], []), ([], []), ([15], [15]), ([14, 16], [14, 16]), ([13, 17], [13, 17]), ([2, 18], [2, 18]), ([19], [19]), ([20], [20]), ([0, 21], [0, 21]), ([22, 22, 0, 1, 2, 3, 4, 5, 6, 7, 8, 9, 10, 11, 12, 13, 14, 15, 16, 17, 18, 19, 20, 21, 22], [0, 22])])
def spec_TurnForm.B7 : List Nat := [0, 0, 2, 0, 0, 16, 56, 0, 128, 504, 0, 1024, 4088, 8184, 0, 0, 32768, 114688, 262136, 524286, 1048574, 2097150, 4194303, 8388607]
theorem spec_TurnForm.tab7 : rtab .any (opsOf Try.f16 7) = spec_TurnForm.T7 := by kernel_rfl
theorem spec_TurnForm.bits7 : waitsOk spec_TurnForm.T7.2 spec_TurnForm.B7 = true := by kernel_rfl
def spec_TurnForm.T8 : Bool × List (List Nat × List Nat) := (true, [([], []), ([0], [0]), ([], []), ([2], [2]), ([], []), ([4], [4]), ([5], [5]), ([], []), ([7], [7]), ([8, 6], [8]), ([], []), ([1, 3, 6, 9, 10], [1, 3, 6, 9, 10]), ([11, 9, 0, 1, 2, 3, 4, 5, 6, 7, 8, 9, 10, 11], [11]), ([12, 0, 1, 2, 3, 4, 5, 6, 7, 8, 9, 10, 11, 12], [])])
def spec_TurnForm.B8 : List Nat := [0, 1, 0, 4, 0, 16, 48, 0, 128, 496, 0, 2047, 4095, 8191]
theorem spec_TurnForm.tab8 : rtab .any (opsOf Try.f16 8) = spec_TurnForm.T8 := by kernel_rfl
theorem spec_TurnForm.bits8 : waitsOk spec_TurnForm.T8.2 spec_TurnForm.B8 = true := by kernel_rfl
set_option maxHeartbeats 8000000 in
set_option maxRecDepth 100000 in
theorem spec_TurnForm.calls (k : Nat) (a0_0 : Int) (a0_1 : Int) (A0_2 : Option Addr) (c0_2 : Nat) (l0_2 : List Int) (A0_3 : Option Addr) (c0_3 : Nat) (l0_3 : List Int) (A0_4 : Option Addr) (c0_4 : Nat) (l0_4 : List Int) (r1 : Int) (r2 : Int) (r3 : List Int) (r4 : List Int) (r5 : List Int) (r6 : Int) (w : World) (hr0_2 : Kd.C (Kd.int .i64) w A0_2 l0_2.length l0_2) (hc0_2 : l0_2.length ≤ c0_2) (hr0_3 : Kd.C (Kd.int .i64) w A0_3 l0_3.length l0_3) (hc0_3 : l0_3.length ≤ c0_3) (hr0_4 : Kd.C (Kd.int .i64) w A0_4 l0_4.length l0_4) (hc0_4 : l0_4.length ≤ c0_4) (h : spec_TurnForm.f k a0_0 a0_1 l0_2 l0_3 l0_4 = some (r1, r2, r3, r4, r5, r6)) :
  Calls Try.prog 16 #[.agg #[.int .i64 a0_0, .int .i64 a0_1, .slice A0_2 l0_2.length c0_2, .slice A0_3 l0_3.length c0_3, .slice A0_4 l0_4.length c0_4]] w fun e w' => ∃ v2_ v3_ v4_ : Value, e = .returned (.tuple #[.agg #[.int .i64 r1, .int .i64 r2, v2_, v3_, v4_], .int .i64 r6]) ∧ Kd.R (Kd.int .i64) 2 w' w.heap.size (fun k_ => some k_ ≠ (v3_ : Value).ownBlock ∧ some k_ ≠ (v4_ : Value).ownBlock) v2_ r3 ∧ Kd.R (Kd.int .i64) 2 w' w.heap.size (fun k_ => some k_ ≠ (v2_ : Value).ownBlock ∧ some k_ ≠ (v4_ : Value).ownBlock) v3_ r4 ∧ Kd.R (Kd.int .i64) 2 w' w.heap.size (fun k_ => some k_ ≠ (v2_ : Value).ownBlock ∧ some k_ ≠ (v3_ : Value).ownBlock) v4_ r5 ∧ Below w.heap.size w w' := by
 have hu27 := Try.underlying27
 have HR0_2 := Aside0.mk hr0_2
 have HC0_2 := Aside0.mk hc0_2
 clear hr0_2 hc0_2
 have HR0_3 := Aside0.mk hr0_3
 have HC0_3 := Aside0.mk hc0_3
 clear hr0_3 hc0_3
 have HR0_4 := Aside0.mk hr0_4
 have HC0_4 := Aside0.mk hc0_4
 clear hr0_4 hc0_4
 have HB := a_ (Below.refl w.heap.size w)
 have H : ((spec_IsForm.f k a0_0 a0_1 l0_2 l0_3 l0_4).bind fun t176 => (if t176 = true then (spec_TurnForm.l0 k (([] : List Int)) 0 a0_0 a0_1 l0_2 l0_3 l0_4) else (some (0, 0, ([] : List Int), ([] : List Int), ([] : List Int), 1)))) = some (r1, r2, r3, r4, r5, r6) := h
 clear h
 replace H := Option.bind_eq_some_iff.mp H
 obtain ⟨t176, A20, H⟩ := H
 replace H : (if t176 = true then (spec_TurnForm.l0 k (([] : List Int)) 0 a0_0 a0_1 l0_2 l0_3 l0_4) else (some (0, 0, ([] : List Int), ([] : List Int), ([] : List Int), 1))) = some (r1, r2, r3, r4, r5, r6) := H
 have A2 := Aside0.mk A20
 clear A20
 by_cases c3 : t176 = true
 ·subst c3
  have H1 : (spec_TurnForm.l0 k (([] : List Int)) 0 a0_0 a0_1 l0_2 l0_3 l0_4) = some (r1, r2, r3, r4, r5, r6) := by rw [if_pos rfl] at H; exact H
  clear H
  have H := H1
  clear H1
  obtain ⟨y177, hy177⟩ : ∃ y_ : List Int, y_ = (([] : List Int)) := ⟨_, rfl⟩
  replace H : (spec_TurnForm.l0 k y177 0 a0_0 a0_1 l0_2 l0_3 l0_4) = some (r1, r2, r3, r4, r5, r6) := rh_ hy177 H
  have Ny177 := Aside0.mk hy177
  clear hy177
  have H' := Aside0.mk H
  clear H
  go_enter Try.func16, Try.ntmps16
  go_wp2_with (first | ((with_reducible refine gate_dst (N := 1) rfl ?_); refine box_event ?hg (N := 1) ?hd (cs := #[.int .i64 a0_0, .int .i64 a0_1, .slice A0_2 l0_2.length c0_2, .slice A0_3 l0_3.length c0_3, .slice A0_4 l0_4.length c0_4]) (t := 27) ?hr ?_; (case hd => rfl); (case hg => rfl); (case hr => first | (go_simp; done) | (go_simp; rfl)); intro gb174 hg w4 hbox hb; have BK174 := a_ (hbox); have GW174 := a_ ((z53_ : w.heap.size ≤ gb174)); have GE174 := a_ ((z53_ : w.heap.size ≤ gb174)); replace HB := a_ (below_step z54_ hb); clear hb hbox hg) | ((with_reducible refine gate_dst (N := 2) rfl ?_); refine box_event ?hg (N := 2) ?hd (cs := #[.int .i64 0, .int .i64 0, .slice none 0 0, .slice none 0 0, .slice none 0 0]) (t := 27) ?hr ?_; (case hd => rfl); (case hg => rfl); (case hr => first | (go_simp; done) | (go_simp; rfl)); intro gb175 hg w5 hbox hb; have BK175 := a_ (hbox); have GW175 := a_ ((z29_ : w.heap.size ≤ gb175)); have GE175 := a_ ((z29_ : w.heap.size ≤ gb175)); replace HB := a_ (below_step z43_ hb); have NB174_175 := a_ ((by rw [hg]; exact Nat.ne_of_lt (blk_lt (g := gb174) (rb_ BK174.out)) : gb174 ≠ gb175)); have NB175_174 := a_ ((by rw [hg]; exact Nat.ne_of_gt (blk_lt (g := gb174) (rb_ BK174.out)) : gb175 ≠ gb174)); replace BK174 := a_ (blk_below (g := gb174) (rb_ BK174.out) hb); clear hb hbox hg; have hnb6 := NB174_175.out; have hnc6 := NB175_174.out; obtain ⟨hcz7_0, hcz7_1, hcz7_2, hcz7_3, hcz7_4, hfz7_0, hfz7_1, hfz7_2, hfz7_3, hfz7_4⟩ := cz5_ (w := w5) BK174.out) | ((with_reducible refine gate_callee (f := 10) rfl ?_); refine goesL_ (some 7) rfl rfl Try.func10 (by kernel_rfl) rfl #[.agg #[.int .i64 a0_0, .int .i64 a0_1, .slice A0_2 l0_2.length c0_2, .slice A0_3 l0_3.length c0_3, .slice A0_4 l0_4.length c0_4]] rfl z57_ ?_; (with_reducible refine (spec_IsForm.calls k a0_0 a0_1 _ _ l0_2 _ _ l0_3 _ _ l0_4 true _ ?side1 ?side2 ?side3 ?side4 ?side5 ?side6 A2.out).mono ?_); (case side1 => exact kc_ (Kd.C_below HR0_2.out HB.out)); (case side2 => exact HC0_2.out); (case side3 => exact kc_ (Kd.C_below HR0_3.out HB.out)); (case side4 => exact HC0_3.out); (case side5 => exact kc_ (Kd.C_below HR0_4.out HB.out)); (case side6 => exact HC0_4.out); rintro e w8 ⟨rfl, hb⟩; refine ⟨_, rfl, ?_⟩; replace BK174 := a_ (blk_below (g := gb174) (rb_ BK174.out) hb); replace BK175 := a_ (blk_below (g := gb175) (rb_ BK175.out) hb); replace HB := a_ (below_step z21_ hb); (try clear hb); (try clear hb2); (try clear hk); (try clear hi)) | ((with_reducible refine gate_dst (N := 10) rfl ?_); refine Kd.R_lit (Kd.int .i64) _ 2 ?hg (N := 10) ?hd (xs := ([] : List Int)) (inner := []) (ok := fun _ => True) (okp := fun _ => True) ?hr ?hp (fun _ hk => hk) trivial (Below.refl _ _) (Nat.le_refl _) (by simp) ?_; (case hd => rfl); (case hg => rfl); (case hr => first | (go_simp; done) | (go_simp; rfl)); (case hp => exact (Reps.none _ _)); intro v178 w9 ho10 hb hg_ hnew_; clear hg_ hnew_; (first | rw [← Ny177.out] at ho10 | (simp only [Int.reduceToNat] at ho10; rw [← Ny177.out] at ho10)); have HO179 := a_ (Kd.R_lower ho10 (below_size z21_)); replace BK174 := a_ (blk_below (g := gb174) (rb_ BK174.out) hb); replace BK175 := a_ (blk_below (g := gb175) (rb_ BK175.out) hb); replace HB := a_ (below_step z21_ hb); clear hb ho10))
  go_loopg [4, 5] k (fun kq v4 v5 w' => ∃ (x4_1 : List Int) (x5_1 : Int), v5 = .int .i64 x5_1 ∧ Aside0 (spec_TurnForm.l0 kq x4_1 x5_1 a0_0 a0_1 l0_2 l0_3 l0_4 = some (r1, r2, r3, r4, r5, r6)) ∧ Aside0 (kq ≤ k) ∧ Aside0 (Kd.R (Kd.int .i64) 2 w' w.heap.size (fun _ => True) v4 x4_1) ∧ Aside0 (w'.heap[gb174]? = some (.cells #[.int .i64 a0_0, .int .i64 a0_1, (.slice A0_2 l0_2.length c0_2), (.slice A0_3 l0_3.length c0_3), (.slice A0_4 l0_4.length c0_4)] 27 (0, 0))) ∧ Aside0 (w'.heap[gb175]? = some (.cells #[.int .i64 0, .int .i64 0, (.slice none 0 0), (.slice none 0 0), (.slice none 0 0)] 27 (0, 0))) ∧ Aside0 (Below w.heap.size w w'))
  case atStart => exact ⟨(y177), (0), z91_, H', ⟨Nat.le_refl _⟩, ⟨by (with_reducible repeat (first | apply Kd.R_alloc | apply Kd.R_drewN | apply Kd.R_drew)); exact HO179.out⟩, ⟨by (with_reducible repeat (first | refine blk_drewN ?_ _ | refine blk_drew ?_ | refine blk_alloc ?_ _)); exact BK174.out⟩, ⟨by (with_reducible repeat (first | refine blk_drewN ?_ _ | refine blk_drew ?_ | refine blk_alloc ?_ _)); exact BK175.out⟩, ⟨z21_⟩⟩
  case round =>
   clear H'
   try clear c3; try clear hcz7_0 hcz7_1 hcz7_2 hcz7_3 hcz7_4; try clear hfz7_0 hfz7_1 hfz7_2 hfz7_3 hfz7_4
   obtain ⟨x4_1, x5_1, rfl, HA, HK1, HO_4, BK174, BK175, HB⟩ := hrel
   cases gk with
   | zero => exact absurd HA.out (by simp [spec_TurnForm.l0])
   | succ k1 =>
    have H := HA.out
    clear HA
    simp only [spec_TurnForm.l0] at H
    by_cases c11 : x5_1 < (wrap64 (a0_0 * a0_1))
    ·rw [if_pos c11] at H
     have c11b0 : decide (x5_1 < (wrap64 (a0_0 * a0_1))) = true := decide_eq_true c11
     clear c11
     by_cases c12 : a0_0 = 0
     ·rw [if_pos c12] at H
      exact absurd H (by simp)
     ·rw [if_neg c12] at H
      have c12b0 : (a0_0 == 0) = false := beq_eq_false_iff_ne.mpr c12
      have c12b1 : (a0_0 != 0) = true := bne_iff_ne.mpr c12
      obtain ⟨ji13, hji13⟩ : ∃ j_ : Int, (wrap64 ((wrap64 ((wrap64 ((wrap64 ((wrap64 (Int.tdiv x5_1 a0_0)) * a0_0)) + a0_0)) - 1)) - (Int.tmod x5_1 a0_0))) = j_ := ⟨_, rfl⟩
      replace H : (if 0 ≤ (ji13) then (if (ji13) < (l0_4.length : Int) then (if x4_1.length < 17592186044416 then (spec_TurnForm.l0 k1 (x4_1 ++ [rd l0_4 (ji13)]) (wrap64 (x5_1 + 1)) a0_0 a0_1 l0_2 l0_3 l0_4) else (none)) else (none)) else (none)) = some (r1, r2, r3, r4, r5, r6) := by first | (rw [hji13] at H; exact H) | (simp only [hji13] at H ⊢; exact H)
      have hji13w : (IntKind.i64.wrap ((wrap64 ((wrap64 ((wrap64 ((wrap64 (Int.tdiv x5_1 a0_0)) * a0_0)) + a0_0)) - 1)) - (Int.tmod x5_1 a0_0))) = ji13 := (i64_w _).trans hji13
      by_cases c14 : 0 ≤ (ji13)
      ·rw [if_pos c14] at H
       have c14b0 : decide (0 ≤ (ji13)) = true := decide_eq_true c14
       clear c14
       by_cases c15 : (ji13) < (l0_4.length : Int)
       ·rw [if_pos c15] at H
        have c15b0 : decide ((ji13) < (l0_4.length : Int)) = true := decide_eq_true c15
        clear c15
        by_cases c16 : x4_1.length < 17592186044416
        ·rw [if_pos c16] at H
         have LMc16 := Aside0.mk c16
         clear c16
         obtain ⟨y181, hy181⟩ : ∃ y_ : List Int, y_ = (x4_1 ++ [rd l0_4 (ji13)]) := ⟨_, rfl⟩
         replace H : (spec_TurnForm.l0 k1 y181 (wrap64 (x5_1 + 1)) a0_0 a0_1 l0_2 l0_3 l0_4) = some (r1, r2, r3, r4, r5, r6) := rh_ hy181 H
         have Ny181 := Aside0.mk hy181
         clear hy181
         have H' := Aside0.mk H
         clear H
         have hnb17 := NB174_175.out
         have hnc17 := NB175_174.out
         obtain ⟨hcz18_0, hcz18_1, hcz18_2, hcz18_3, hcz18_4, hfz18_0, hfz18_1, hfz18_2, hfz18_3, hfz18_4⟩ := cz5_ (w := wr) BK174.out
         try go_wp2
         replace HO_4 := a_ (Kd.R_drew HO_4.out)
         replace BK174 := a_ (blk_drew BK174.out)
         replace BK175 := a_ (blk_drew BK175.out)
         replace HB := a_ (below_drew1 HB.out)
         have p180 : 0 ≤ ((ji13) : Int) := of_decide_eq_true z90_
         have q180 : (ji13) < (l0_4.length : Int) := of_decide_eq_true z90_
         obtain ⟨ad180, e180, hx180_0⟩ := Kd.at_int HR0_4.out (ji13) p180 q180
         have hw180_0 := hx180_0
         cases e180
         replace hx180_0 := (HB.out.cell (World.block_lt_of_cell? _ _ hx180_0)).trans hx180_0
         replace p180 := eq_true p180
         replace q180 := eq_true q180
         refine start_ (n := 24) (S := fun w' => w'.cell? ⟨gb174, 0, none⟩ = some (.int .i64 a0_0) ∧ w'.cell? ⟨gb174, 1, none⟩ = some (.int .i64 a0_1) ∧ w'.cell? ⟨gb174, 2, none⟩ = some (.slice A0_2 l0_2.length c0_2) ∧ w'.cell? ⟨gb174, 3, none⟩ = some (.slice A0_3 l0_3.length c0_3) ∧ w'.cell? ⟨gb174, 4, none⟩ = some (.slice (some ad180) l0_4.length c0_4) ∧ w'.cell? (ad180.add ((ji13)).toNat) = some (.int .i64 (rd l0_4 (ji13)))) (ds := []) #[false, false, false, false, false, false, false, false, false, false, false, false, false, false, false, false, false, false, false, false, false, false, false, false] (by kernel_rfl) rfl rfl ⟨(blk_cell BK174.out 0).trans rfl, (blk_cell BK174.out 1).trans rfl, (blk_cell BK174.out 2).trans rfl, (blk_cell BK174.out 3).trans rfl, (blk_cell BK174.out 4).trans rfl, ((HB.out.cell (World.block_lt_of_cell? _ _ hw180_0)).trans hw180_0)⟩ (fun hHeld => ?_); refine with_tabW spec_TurnForm.tab7 spec_TurnForm.bits7 (fun HT_ HW_ => ?_)
         generalize wr.drew = w19 at HO_4 BK174 BK175 HB hx180_0 hHeld ⊢
         refine pu_ (i := 0) (N := some 20) (bs_ 24 1) ?_
         refine pu_ (i := 1) (N := some 21) (bs_ 24 3) ?_
         refine pu_ (i := 3) (N := some 23) (bs_ 24 11) ?_
         refine pu_ (i := 4) (N := some 24) (bs_ 24 27) ?_
         refine pu_ (i := 7) (N := some 27) (bs_ 24 155) ?_
         refine pu_ (i := 10) (N := some 30) (bs_ 24 1179) ?_
         refine pu_ (i := 14) (N := some 34) (bs_ 24 17563) ?_
         refine pu_ (i := 15) (N := some 35) (bs_ 24 50331) ?_
         refine tk6_ (i := 2) (N := some 22) (bs_ 24 50335) hHeld ?_
         refine tk6_ (i := 5) (N := some 25) (bs_ 24 50367) hHeld ?_
         refine pu_ (i := 6) (N := some 26) (bs_ 24 50431) ?_
         refine tk6_ (i := 8) (N := some 28) (bs_ 24 50687) hHeld ?_
         refine pu_ (i := 9) (N := some 29) (bs_ 24 51199) ?_
         refine tk6_ (i := 11) (N := some 31) (bs_ 24 53247) hHeld ?_
         refine pu_ (i := 12) (N := some 32) (bs_ 24 57343) ?_
         refine pu_ (i := 13) (N := some 33) (bs_ 24 65535) ?_
         refine tk6_ (i := 16) (N := some 36) (bs_ 24 131071) hHeld ?_
         refine pu_ (i := 17) (N := some 37) (bs_ 24 262143) ?_
         refine pu_ (i := 18) (N := some 38) (bs_ 24 524287) ?_
         refine pu_ (i := 19) (N := some 39) (bs_ 24 1048575) ?_
         refine tk6_ (i := 20) (N := some 40) (bs_ 24 2097151) hHeld ?_
         refine one_ (i := 21) (N := some 41) (bs_ 24 4194303) rfl rfl (one_of HT_.out (by kernel_rfl)) (by decide) (fun K hK => ?_)
         refine value_ (w1 := ?_) (v := ?_) (by rfl) rfl ?_ ?_
         rotate_left 2
         ·go_simp
          constructor
          ·rfl
          ·rfl
         refine hK.out _ _ ⟨(blk_cell (blk_alloc BK174.out _) 0).trans rfl, (blk_cell (blk_alloc BK174.out _) 1).trans rfl, (blk_cell (blk_alloc BK174.out _) 2).trans rfl, (blk_cell (blk_alloc BK174.out _) 3).trans rfl, (blk_cell (blk_alloc BK174.out _) 4).trans rfl, (World.cell?_alloc_lt _ _ _ (World.block_lt_of_cell? _ _ (((HB.out.cell (World.block_lt_of_cell? _ _ hw180_0)).trans hw180_0)))).trans (((HB.out.cell (World.block_lt_of_cell? _ _ hw180_0)).trans hw180_0))⟩ (fun hHeld => ?_)
         clear hK K
         refine nm_ ?_
         refine one_ (i := 22) (N := some 42) (bs_ 24 8388607) rfl rfl (one_of HT_.out (by kernel_rfl)) (by decide) (fun K hK => ?_)
         refine Kd.R_append_step (Kd.int .i64) (w0 := w) w.heap.size (by rfl) (.tmp 20) (.tmp 41) 22 2 (.int .i64 0) 8 rfl Try.underlying22 info2 rfl (by decide) (by omega) u4 x4_1 (rd l0_4 (ji13)) [.int .i64 (rd l0_4 (ji13))] (fun _ => True) (fun _ => False) rfl rfl ?aP (fun _ hk => hk.elim) ?aF ?aO ?aB ?aS ?aL ?_
         (case aP => exact rfl)
         (case aB => exact z21_)
         (case aF => exact (fun _ _ => trivial))
         (case aO => exact (ra_ HO_4.out))
         (case aS => exact (below_size z21_))
         (case aL => have := LMc16.out; omega)
         intro v182 w20 ho hb hg hat
         rw [← Ny181.out] at ho
         replace BK174 := a_ (blk_grown (g := gb174) (rb_ BK174.out) hg (Kd.R_ne HO_4.out BK174.out (by decide)))
         replace BK175 := a_ (blk_grown (g := gb175) (rb_ BK175.out) hg (Kd.R_ne HO_4.out BK175.out (by decide)))
         replace HB := a_ (hb)
         have HO183 := a_ (ho)
         clear HO_4
         clear ho hb hg hat
         refine hK.out _ _ ⟨(blk_cell BK174.out 0).trans rfl, (blk_cell BK174.out 1).trans rfl, (blk_cell BK174.out 2).trans rfl, (blk_cell BK174.out 3).trans rfl, (blk_cell BK174.out 4).trans rfl, ((HB.out.cell (World.block_lt_of_cell? _ _ hw180_0)).trans hw180_0)⟩ (fun hHeld => ?_)
         clear hK K
         refine nm_ ?_
         refine pu_ (i := 23) (N := some 4) (bs_ 24 16777215) ?_
         refine done_ (done_of HT_.out (by kernel_rfl)) ?_
         try go_wp2
         go_roundg k1
         case measure => have := HK1.out; omega
         case rel => exact ⟨(y181), (wrap64 (x5_1 + 1)), z91_, H', ⟨z94_⟩, ⟨by (with_reducible repeat (first | apply Kd.R_alloc | apply Kd.R_drewN | apply Kd.R_drew)); exact HO183.out⟩, ⟨by (with_reducible repeat (first | refine blk_drewN ?_ _ | refine blk_drew ?_ | refine blk_alloc ?_ _)); exact BK174.out⟩, ⟨by (with_reducible repeat (first | refine blk_drewN ?_ _ | refine blk_drew ?_ | refine blk_alloc ?_ _)); exact BK175.out⟩, ⟨z21_⟩⟩
        ·rw [if_neg c16] at H
         exact absurd H (by simp)
       ·rw [if_neg c15] at H
        exact absurd H (by simp)
      ·rw [if_neg c14] at H
       exact absurd H (by simp)
    ·rw [if_neg c11] at H
     have c11b0 : decide (x5_1 < (wrap64 (a0_0 * a0_1))) = false := decide_eq_false c11
     clear c11
     replace H := Option.bind_eq_some_iff.mp H
     obtain ⟨t184, A210, H⟩ := H
     replace H : ((spec_l01Own.f l0_2).bind fun t187 => (some (a0_0, a0_1, t184, t187, x4_1, 0))) = some (r1, r2, r3, r4, r5, r6) := H
     have A21 := Aside0.mk A210
     clear A210
     replace H := Option.bind_eq_some_iff.mp H
     obtain ⟨t187, A220, H⟩ := H
     replace H : (some (a0_0, a0_1, t184, t187, x4_1, 0)) = some (r1, r2, r3, r4, r5, r6) := H
     have A22 := Aside0.mk A220
     clear A220
     simp only [Option.some.injEq, Prod.mk.injEq] at H
     obtain ⟨rfl, rfl, rfl, rfl, rfl, rfl⟩ := H
     have hnb23 := NB174_175.out
     have hnc23 := NB175_174.out
     obtain ⟨hcz24_0, hcz24_1, hcz24_2, hcz24_3, hcz24_4, hfz24_0, hfz24_1, hfz24_2, hfz24_3, hfz24_4⟩ := cz5_ (w := wr) BK174.out
     try go_wp2
     replace HO_4 := a_ (Kd.R_drew HO_4.out)
     replace BK174 := a_ (blk_drew BK174.out)
     replace BK175 := a_ (blk_drew BK175.out)
     replace HB := a_ (below_drew1 HB.out)
     refine start_ (n := 14) (S := fun w' => w'.cell? ⟨gb174, 0, none⟩ = some (.int .i64 a0_0) ∧ w'.cell? ⟨gb174, 1, none⟩ = some (.int .i64 a0_1) ∧ w'.cell? ⟨gb174, 2, none⟩ = some (.slice A0_2 l0_2.length c0_2) ∧ w'.cell? ⟨gb174, 3, none⟩ = some (.slice A0_3 l0_3.length c0_3) ∧ w'.cell? ⟨gb174, 4, none⟩ = some (.slice A0_4 l0_4.length c0_4)) (ds := []) #[false, false, false, false, false, false, false, false, false, false, false, false, false, false] (by kernel_rfl) rfl rfl ⟨(blk_cell BK174.out 0).trans rfl, (blk_cell BK174.out 1).trans rfl, (blk_cell BK174.out 2).trans rfl, (blk_cell BK174.out 3).trans rfl, (blk_cell BK174.out 4).trans rfl⟩ (fun hHeld => ?_); refine with_tabW spec_TurnForm.tab8 spec_TurnForm.bits8 (fun HT_ HW_ => ?_)
     generalize wr.drew = w25 at HO_4 BK174 BK175 HB hHeld ⊢
     refine pu_ (i := 0) (N := some 43) (bs_ 14 1) ?_
     refine pu_ (i := 2) (N := some 45) (bs_ 14 5) ?_
     refine pu_ (i := 4) (N := some 47) (bs_ 14 21) ?_
     refine pu_ (i := 7) (N := some 50) (bs_ 14 149) ?_
     refine pu_ (i := 10) (N := some 53) (bs_ 14 1173) ?_
     refine tk5_ (i := 1) (N := some 44) (bs_ 14 1175) hHeld ?_
     refine tk5_ (i := 3) (N := some 46) (bs_ 14 1183) hHeld ?_
     refine tk5_ (i := 5) (N := some 48) (bs_ 14 1215) hHeld ?_
     refine tk5_ (i := 8) (N := some 51) (bs_ 14 1471) hHeld ?_
     refine one_ (i := 6) (N := some 49) (bs_ 14 1535) rfl rfl (one_of HT_.out (by kernel_rfl)) (by decide) (fun K hK => ?_)
     refine goes_ Try.func34 (by kernel_rfl) rfl #[.slice A0_3 l0_3.length c0_3] (by rfl) rfl rfl z57_ ?_
     with_reducible refine (spec_l01Own.calls _ _ l0_3 t184 _ ?side1 ?side2 A21.out).mono ?_
     (case side1 => exact kc_ (Kd.C_below HR0_3.out HB.out))
     (case side2 => exact HC0_3.out)
     rintro e w26 ⟨v185, rfl, ho0, hb⟩
     refine ⟨_, rfl, ?_⟩
     have HO186 := a_ (Kd.R_lower (Kd.R_new' ho0 (Kd.R_lt (ra_ HO_4.out))) (below_size z21_))
     replace HO_4 := a_ (Kd.R_elder' (ra_ HO_4.out) (Kd.R_base ho0) hb)
     replace BK174 := a_ (blk_below (g := gb174) (rb_ BK174.out) hb)
     replace BK175 := a_ (blk_below (g := gb175) (rb_ BK175.out) hb)
     replace HB := a_ (below_step z21_ hb)
     (try clear hb)
     (try clear hb2)
     (try clear hk)
     (try clear hi)
     (try clear ho0)
     refine hK.out _ _ ⟨(blk_cell BK174.out 0).trans rfl, (blk_cell BK174.out 1).trans rfl, (blk_cell BK174.out 2).trans rfl, (blk_cell BK174.out 3).trans rfl, (blk_cell BK174.out 4).trans rfl⟩ (fun hHeld => ?_)
     clear hK K
     refine nm_ ?_
     refine one_ (i := 9) (N := some 52) (bs_ 14 2047) rfl rfl (one_of HT_.out (by kernel_rfl)) (by decide) (fun K hK => ?_)
     refine goes_ Try.func34 (by kernel_rfl) rfl #[.slice A0_2 l0_2.length c0_2] (by rfl) rfl rfl z57_ ?_
     with_reducible refine (spec_l01Own.calls _ _ l0_2 t187 _ ?side1 ?side2 A22.out).mono ?_
     (case side1 => exact kc_ (Kd.C_below HR0_2.out HB.out))
     (case side2 => exact HC0_2.out)
     rintro e w27 ⟨v188, rfl, ho0, hb⟩
     refine ⟨_, rfl, ?_⟩
     have HO189 := a_ (Kd.R_lower (Kd.R_new' (Kd.R_new' ho0 (Kd.R_lt (ra_ HO_4.out))) (Kd.R_lt (ra_ HO186.out))) (below_size z21_))
     replace HO_4 := a_ (Kd.R_elder' (ra_ HO_4.out) (Kd.R_base ho0) hb)
     replace HO186 := a_ (Kd.R_elder' (ra_ HO186.out) (Kd.R_base ho0) hb)
     replace BK174 := a_ (blk_below (g := gb174) (rb_ BK174.out) hb)
     replace BK175 := a_ (blk_below (g := gb175) (rb_ BK175.out) hb)
     replace HB := a_ (below_step z21_ hb)
     (try clear hb)
     (try clear hb2)
     (try clear hk)
     (try clear hi)
     (try clear ho0)
     obtain ⟨Ao28, co28, eo28⟩ := Kd.R_slice HO_4.out
     (first | subst eo28 | (injection eo28 with f1_ f2_ f3_; have f4_ := f1_.symm; have f5_ := f3_.symm; clear f1_ f2_ f3_; subst f4_; subst f5_))
     obtain ⟨Ao29, co29, eo29⟩ := Kd.R_slice HO189.out
     (first | subst eo29 | (injection eo29 with f1_ f2_ f3_; have f4_ := f1_.symm; have f5_ := f3_.symm; clear f1_ f2_ f3_; subst f4_; subst f5_))
     obtain ⟨Ao30, co30, eo30⟩ := Kd.R_slice HO186.out
     (first | subst eo30 | (injection eo30 with f1_ f2_ f3_; have f4_ := f1_.symm; have f5_ := f3_.symm; clear f1_ f2_ f3_; subst f4_; subst f5_))
     refine hK.out _ _ ⟨(blk_cell BK174.out 0).trans rfl, (blk_cell BK174.out 1).trans rfl, (blk_cell BK174.out 2).trans rfl, (blk_cell BK174.out 3).trans rfl, (blk_cell BK174.out 4).trans rfl⟩ (fun hHeld => ?_)
     clear hK K
     refine nm_ ?_
     refine pu_ (i := 11) (N := some 54) (bs_ 14 4095) ?_
     refine one_ (i := 12) (N := none) (bs_ 14 8191) rfl rfl (one_of HT_.out (by kernel_rfl)) (by decide) (fun K hK => ?_)
     have hs31 : w27.cell? ⟨gb175, 0, none⟩ = some (.int .i64 0) := (blk_cell BK175.out 0).trans rfl
     have hfs31 := blk_frozen BK175.out 0
     have hns31_0 := NB174_175.out
     have hms31_0 := NB175_174.out
     have hs32 : w27.cell? ⟨gb175, 1, none⟩ = some (.int .i64 0) := (blk_cell BK175.out 1).trans rfl
     have hfs32 := blk_frozen BK175.out 1
     have hns32_0 := NB174_175.out
     have hms32_0 := NB175_174.out
     have hs33 : w27.cell? ⟨gb175, 2, none⟩ = some (.slice none 0 0) := (blk_cell BK175.out 2).trans rfl
     have hfs33 := blk_frozen BK175.out 2
     have hns33_0 := NB174_175.out
     have hms33_0 := NB175_174.out
     have hs34 : w27.cell? ⟨gb175, 3, none⟩ = some (.slice none 0 0) := (blk_cell BK175.out 3).trans rfl
     have hfs34 := blk_frozen BK175.out 3
     have hns34_0 := NB174_175.out
     have hms34_0 := NB175_174.out
     have hs35 : w27.cell? ⟨gb175, 4, none⟩ = some (.slice none 0 0) := (blk_cell BK175.out 4).trans rfl
     have hfs35 := blk_frozen BK175.out 4
     have hns35_0 := NB174_175.out
     have hms35_0 := NB175_174.out
     refine skip_ (w1 := ?_) (by rfl) rfl ?_ ?_
     rotate_left
     ·go_simp
      rfl
     refine hK.out _ _ ⟨((cell_far (p := ⟨gb175, _, none⟩) NB174_175.out _).trans (((cell_far (p := ⟨gb175, _, none⟩) NB174_175.out _).trans (((cell_far (p := ⟨gb175, _, none⟩) NB174_175.out _).trans (((cell_far (p := ⟨gb175, _, none⟩) NB174_175.out _).trans (((cell_far (p := ⟨gb175, _, none⟩) NB174_175.out _).trans (hHeld.1)))))))))), ((cell_far (p := ⟨gb175, _, none⟩) NB174_175.out _).trans (((cell_far (p := ⟨gb175, _, none⟩) NB174_175.out _).trans (((cell_far (p := ⟨gb175, _, none⟩) NB174_175.out _).trans (((cell_far (p := ⟨gb175, _, none⟩) NB174_175.out _).trans (((cell_far (p := ⟨gb175, _, none⟩) NB174_175.out _).trans (hHeld.2.1)))))))))), ((cell_far (p := ⟨gb175, _, none⟩) NB174_175.out _).trans (((cell_far (p := ⟨gb175, _, none⟩) NB174_175.out _).trans (((cell_far (p := ⟨gb175, _, none⟩) NB174_175.out _).trans (((cell_far (p := ⟨gb175, _, none⟩) NB174_175.out _).trans (((cell_far (p := ⟨gb175, _, none⟩) NB174_175.out _).trans (hHeld.2.2.1)))))))))), ((cell_far (p := ⟨gb175, _, none⟩) NB174_175.out _).trans (((cell_far (p := ⟨gb175, _, none⟩) NB174_175.out _).trans (((cell_far (p := ⟨gb175, _, none⟩) NB174_175.out _).trans (((cell_far (p := ⟨gb175, _, none⟩) NB174_175.out _).trans (((cell_far (p := ⟨gb175, _, none⟩) NB174_175.out _).trans (hHeld.2.2.2.1)))))))))), ((cell_far (p := ⟨gb175, _, none⟩) NB174_175.out _).trans (((cell_far (p := ⟨gb175, _, none⟩) NB174_175.out _).trans (((cell_far (p := ⟨gb175, _, none⟩) NB174_175.out _).trans (((cell_far (p := ⟨gb175, _, none⟩) NB174_175.out _).trans (((cell_far (p := ⟨gb175, _, none⟩) NB174_175.out _).trans (hHeld.2.2.2.2))))))))))⟩ (fun hHeld => ?_)
     clear hK K
     refine pu_ (i := 13) (N := some 3) (bs_ 14 16383) ?_
     refine done_ (done_of HT_.out (by kernel_rfl)) ?_
     try go_wp2
     refine bodyPost_ret (results_ct rfl _ _ gb175 27 #[.int .i64 a0_0, .int .i64 a0_1, .slice Ao30 t184.length co30, .slice Ao29 t187.length co29, .slice Ao28 x4_1.length co28] (0, 0) _ rfl (rb2_ (h := by exact bp5_ BK175.out)) Try.underlying27 rfl (by kernel_rfl)) rfl ?_
     exact ⟨_, _, _, z55_, by (with_reducible repeat (first | apply Kd.R_alloc | apply Kd.R_drewN | apply Kd.R_drew)); exact Kd.R_mono (rt5_ HO186.out BK175.out) (fun _ hk => ⟨hk.1.2, hk.1.1.2⟩), by (with_reducible repeat (first | apply Kd.R_alloc | apply Kd.R_drewN | apply Kd.R_drew)); exact Kd.R_mono (rt5_ HO189.out BK175.out) (fun _ hk => ⟨hk.1.2, hk.1.1.2⟩), by (with_reducible repeat (first | apply Kd.R_alloc | apply Kd.R_drewN | apply Kd.R_drew)); exact Kd.R_mono (rt5_ HO_4.out BK175.out) (fun _ hk => ⟨hk.1.1.2, hk.1.2⟩), z21_⟩
 ·replace c3 := Bool.eq_false_iff.mpr c3
  subst c3
  have H1 : (some (0, 0, ([] : List Int), ([] : List Int), ([] : List Int), 1)) = some (r1, r2, r3, r4, r5, r6) := by rw [if_neg (show ¬ (false = true) by decide)] at H; exact H
  clear H
  have H := H1
  clear H1
  simp only [Option.some.injEq, Prod.mk.injEq] at H
  obtain ⟨rfl, rfl, rfl, rfl, rfl, rfl⟩ := H
  go_enter Try.func16, Try.ntmps16
  go_wp2_with (first | ((with_reducible refine gate_dst (N := 1) rfl ?_); refine box_event ?hg (N := 1) ?hd (cs := #[.int .i64 a0_0, .int .i64 a0_1, .slice A0_2 l0_2.length c0_2, .slice A0_3 l0_3.length c0_3, .slice A0_4 l0_4.length c0_4]) (t := 27) ?hr ?_; (case hd => rfl); (case hg => rfl); (case hr => first | (go_simp; done) | (go_simp; rfl)); intro gb174 hg w36 hbox hb; have BK174 := a_ (hbox); have GW174 := a_ ((z53_ : w.heap.size ≤ gb174)); have GE174 := a_ ((z53_ : w.heap.size ≤ gb174)); replace HB := a_ (below_step z54_ hb); clear hb hbox hg) | ((with_reducible refine gate_dst (N := 2) rfl ?_); refine box_event ?hg (N := 2) ?hd (cs := #[.int .i64 0, .int .i64 0, .slice none 0 0, .slice none 0 0, .slice none 0 0]) (t := 27) ?hr ?_; (case hd => rfl); (case hg => rfl); (case hr => first | (go_simp; done) | (go_simp; rfl)); intro gb175 hg w37 hbox hb; have BK175 := a_ (hbox); have GW175 := a_ ((z29_ : w.heap.size ≤ gb175)); have GE175 := a_ ((z29_ : w.heap.size ≤ gb175)); replace HB := a_ (below_step z43_ hb); have NB174_175 := a_ ((by rw [hg]; exact Nat.ne_of_lt (blk_lt (g := gb174) (rb_ BK174.out)) : gb174 ≠ gb175)); have NB175_174 := a_ ((by rw [hg]; exact Nat.ne_of_gt (blk_lt (g := gb174) (rb_ BK174.out)) : gb175 ≠ gb174)); replace BK174 := a_ (blk_below (g := gb174) (rb_ BK174.out) hb); clear hb hbox hg; have hnb38 := NB174_175.out; have hnc38 := NB175_174.out; obtain ⟨hcz39_0, hcz39_1, hcz39_2, hcz39_3, hcz39_4, hfz39_0, hfz39_1, hfz39_2, hfz39_3, hfz39_4⟩ := cz5_ (w := w37) BK174.out) | ((with_reducible refine gate_callee (f := 10) rfl ?_); refine goesL_ (some 7) rfl rfl Try.func10 (by kernel_rfl) rfl #[.agg #[.int .i64 a0_0, .int .i64 a0_1, .slice A0_2 l0_2.length c0_2, .slice A0_3 l0_3.length c0_3, .slice A0_4 l0_4.length c0_4]] rfl z57_ ?_; (with_reducible refine (spec_IsForm.calls k a0_0 a0_1 _ _ l0_2 _ _ l0_3 _ _ l0_4 false _ ?side1 ?side2 ?side3 ?side4 ?side5 ?side6 A2.out).mono ?_); (case side1 => exact kc_ (Kd.C_below HR0_2.out HB.out)); (case side2 => exact HC0_2.out); (case side3 => exact kc_ (Kd.C_below HR0_3.out HB.out)); (case side4 => exact HC0_3.out); (case side5 => exact kc_ (Kd.C_below HR0_4.out HB.out)); (case side6 => exact HC0_4.out); rintro e w40 ⟨rfl, hb⟩; refine ⟨_, rfl, ?_⟩; replace BK174 := a_ (blk_below (g := gb174) (rb_ BK174.out) hb); replace BK175 := a_ (blk_below (g := gb175) (rb_ BK175.out) hb); replace HB := a_ (below_step z21_ hb); (try clear hb); (try clear hb2); (try clear hk); (try clear hi); obtain ⟨hcz41_0, hcz41_1, hcz41_2, hcz41_3, hcz41_4, hfz41_0, hfz41_1, hfz41_2, hfz41_3, hfz41_4⟩ := cz5_ (w := w40) BK175.out))
  refine bodyPost_ret (results_ct rfl _ _ gb175 27 #[.int .i64 0, .int .i64 0, .slice none 0 0, .slice none 0 0, .slice none 0 0] (0, 0) _ rfl (rb2_ (h := by exact bp5_ BK175.out)) Try.underlying27 rfl (by kernel_rfl)) rfl ?_
  exact ⟨_, _, _, z55_, z56_, z56_, z56_, z21_⟩

/-! ### slices_Clone_int64_int64: of a slice that is not empty -/
def slices_Clone_int64_int64.f (l0 : List Int) : Option (List Int) := if 0 < l0.length then (if l0.length ≤ 1000000 then some l0 else none) else none
set_option maxHeartbeats 8000000 in
set_option maxRecDepth 100000 in
theorem slices_Clone_int64_int64.calls (A0 : Option Addr) (c0 : Nat) (l0 : List Int) (r : List Int) (w : World) (hr0 : Kd.C (Kd.int .i64) w A0 l0.length l0) (hc0 : l0.length ≤ c0) (h : slices_Clone_int64_int64.f l0 = some r) :
  Calls Try.prog 48 #[.slice A0 l0.length c0] w fun e w' => ∃ v0_ : Value, e = .returned (v0_) ∧ Kd.R (Kd.int .i64) 2 w' w.heap.size (fun _ => True) v0_ r ∧ Below w.heap.size w w' := by
 unfold slices_Clone_int64_int64.f at h
 by_cases h1 : 0 < l0.length
 ·rw [if_pos h1] at h
  by_cases h2 : l0.length ≤ 1000000
  ·rw [if_pos h2] at h
   obtain rfl := Option.some.inj h
   clear h
   obtain ⟨ad, hA0, _⟩ := Kd.at_int hr0 0 (by omega) (by omega)
   subst hA0
   have hnil : ∀ (w1 : World) (c1 : Nat), (binOp .eql 22 (.slice (some ad) l0.length c1) (.slice none 0 0)).run Try.prog w1 = .ok (.bool false) w1 := fun w1 c1 => Go.Lib.run_eql_slice_nil (P := Try.prog) w1 22 2 (some ad) l0.length c1 0 0 Try.underlying22
   have HR0 := Aside0.mk hr0
   have HC0 := Aside0.mk hc0
   clear hr0 hc0
   have HB := a_ (Below.refl w.heap.size w)
   obtain ⟨y111, hy111⟩ : ∃ y_ : List Int, y_ = (([] : List Int)) := ⟨_, rfl⟩
   have Ny111 := Aside0.mk hy111
   have LMc2 := a_ (show y111.length + l0.length < 17592186044416 by rw [hy111, List.length_nil]; omega)
   have HE := a_ (show y111 ++ l0 = l0 by rw [hy111]; rfl)
   clear hy111 h1 h2
   obtain ⟨y114, hy114⟩ : ∃ y_ : List Int, y_ = (y111 ++ l0) := ⟨_, rfl⟩
   rw [← hy114] at HE
   have Ny114 := Aside0.mk hy114
   clear hy114
   go_enter Try.func48, Try.ntmps48
   go_wp2_with (first | ((with_reducible refine gate_dst (N := 5) rfl ?_); refine Kd.R_lit (Kd.int .i64) _ 2 ?hg (N := 5) ?hd (xs := ([] : List Int)) (inner := []) (ok := fun _ => True) (okp := fun _ => True) ?hr ?hp (fun _ hk => hk) trivial (Below.refl _ _) (Nat.le_refl _) (by simp) ?_; (case hd => rfl); (case hg => rfl); (case hr => first | (go_simp; done) | (go_simp; rfl)); (case hp => exact (Reps.none _ _)); intro v112 w3 ho4 hb hg_ hnew_; clear hg_ hnew_; (first | rw [← Ny111.out] at ho4 | (simp only [Int.reduceToNat] at ho4; rw [← Ny111.out] at ho4)); have HO113 := a_ (Kd.R_lower ho4 (below_size z54_)); replace HB := a_ (below_step z54_ hb); clear hb ho4) | ((with_reducible refine gate_builtin (b := .append) (xs := #[.tmp 5, .tmp 6]) rfl ?_); at_builtin; refine Kd.R_append_rows (Kd.int .i64) (w0 := w) w.heap.size rfl (.tmp 5) (.tmp 6) 22 2 (.int .i64 0) 8 rfl Try.underlying22 info2 rfl (by decide) (by omega) v112 y111 l0 _ _ _ (fun _ => True) (fun _ => False) rfl rfl ?aO ?aR (fun _ _ h => h) (fun _ h => h.elim) ?aF ?aB ?aS ?aL ?_; (case aR => exact kc_ (Kd.C_below HR0.out HB.out)); (case aB => exact z54_); (case aF => exact (fun _ _ => trivial)); (case aO => exact (ra_ HO113.out)); (case aS => exact (below_size z54_)); (case aL => have := LMc2.out; omega); intro v115 w5 ho hb hg hat; rw [← Ny114.out] at ho; replace HB := a_ (hb); have HO116 := a_ (ho); clear HO113; clear ho hb hg hat))
   go_ret
   exact ⟨_, z55_, by (with_reducible repeat (first | apply Kd.R_alloc | apply Kd.R_drewN | apply Kd.R_drew)); rw [← HE.out]; exact HO116.out, z54_⟩
  ·rw [if_neg h2] at h; cases h
 ·rw [if_neg h1] at h; cases h

/-! ### impl_backPlace: function 49 -/
def impl_backPlace.f (a0 : Int) (a1 : Int) (a2 : Int) : Option (Int) := some (wrap64 ((wrap64 ((wrap64 ((wrap64 (a2 * a0)) + a0)) - 1)) - a1))
set_option maxHeartbeats 8000000 in
set_option maxRecDepth 100000 in
theorem impl_backPlace.calls (a0 : Int) (a1 : Int) (a2 : Int) (r : Int) (w : World) (h : impl_backPlace.f a0 a1 a2 = some r) :
  Calls Try.prog 49 #[.int .i64 a0, .int .i64 a1, .int .i64 a2] w fun e w' => e = .returned (.int .i64 r) ∧ Drawn0 w w' := by
 have H : (some (wrap64 ((wrap64 ((wrap64 ((wrap64 (a2 * a0)) + a0)) - 1)) - a1))) = some r := h
 clear h
 obtain rfl := Option.some.inj H
 go_enter Try.func49, Try.ntmps49
 go_wp2
 go_ret
 exact ⟨z81_, z82_⟩

end Go.Proofs.Ytkpidjmhdagkfaa.QFnPagePlaces
-- halved
