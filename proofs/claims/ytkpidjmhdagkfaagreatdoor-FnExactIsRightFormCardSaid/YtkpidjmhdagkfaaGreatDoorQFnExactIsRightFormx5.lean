-- Written by own_print.py of this session's repo over the kit's print (its output, turned at some places).
import Derived.Test.YtkpidjmhdagkfaaGreatDoorQFnExactIsRightFormx0
import Derived.Test.YtkpidjmhdagkfaaGreatDoorQFnExactIsRightFormx3
namespace Go.Proofs.YtkpidjmhdagkfaaGreatDoor.QFnExactIsRightForm
open Go.RowKit Go.Proofs.YtkpidjmhdagkfaaGreatDoorW.PrintWords Go.Proofs.YtkpidjmhdagkfaaGreatDoorW.PrintLast Go.Proofs.YtkpidjmhdagkfaaGreatDoorW.PrintMore
attribute [local go_sem] max2_int min2_int max_two min_two max_three min_three max_four min_four   -- for this text's walks alone
set_option linter.unusedVariables false
set_option linter.unusedSimpArgs false

/-! ### spec_l04Across: function 99 -/
mutual
def spec_l04Across.l0 : Nat → List (List (List (S64))) → Int → Int → List (List (List (S64))) → Int → Option ((List (List (List (S64)))))
 | 0, _, _, _, _, _ => none
 | k + 1, x0, x1, x5, x6, x7 => if x7 < (wrap64 (Int.tdiv x5 2)) then (if 0 ≤ (wrap64 ((wrap64 (x5 - 1)) - x7)) then (if (wrap64 ((wrap64 (x5 - 1)) - x7)) < (x0.length : Int) then (if 0 ≤ x7 then (if x7 < (x0.length : Int) then (if x1 = 84 then (if 0 ≤ (wrap64 ((wrap64 ((wrap64 (Int.tdiv x5 2)) - 1)) - x7)) then (if (wrap64 ((wrap64 ((wrap64 (Int.tdiv x5 2)) - 1)) - x7)) < (x0.length : Int) then (if 0 ≤ (wrap64 ((wrap64 (Int.tdiv x5 2)) + x7)) then (if (wrap64 ((wrap64 (Int.tdiv x5 2)) + x7)) < (x0.length : Int) then (spec_l04Across.l1 k x0 x1 x5 x6 x7 (rd_L4 x0 (wrap64 ((wrap64 ((wrap64 (Int.tdiv x5 2)) - 1)) - x7))) (rd_L4 x0 (wrap64 ((wrap64 (Int.tdiv x5 2)) + x7))) (([] : List (List (S64)))) 0) else (none)) else (none)) else (none)) else (none)) else (spec_l04Across.l101 k x0 x1 x5 x6 x7 (rd_L4 x0 (wrap64 ((wrap64 (x5 - 1)) - x7))) (rd_L4 x0 x7) (([] : List (List (S64)))) 0)) else (none)) else (none)) else (none)) else (none)) else (some x6)
def spec_l04Across.l1 : Nat → List (List (List (S64))) → Int → Int → List (List (List (S64))) → Int → List (List (S64)) → List (List (S64)) → List (List (S64)) → Int → Option ((List (List (List (S64)))))
 | 0, _, _, _, _, _, _, _, _, _ => none
 | k + 1, x0, x1, x5, x6, x7, x8, x9, x10, x11 => if x11 < (x8.length : Int) then (if 0 ≤ x11 then ((spec_l04Turn.f (rd_L3 x8 x11) false).bind fun t209 => (if x11 < (x9.length : Int) then (if t209.length + (rd_L3 x9 x11).length < 5864062014805 then (if x10.length < 5864062014805 then (spec_l04Across.l1 k x0 x1 x5 x6 x7 x8 x9 (x10 ++ [(t209 ++ (rd_L3 x9 x11))]) (wrap64 (x11 + 1))) else (none)) else (none)) else (none))) else (none)) else (if x6.length < 5864062014805 then (spec_l04Across.l0 k x0 x1 x5 (x6 ++ [x10]) (wrap64 (x7 + 1))) else (none))
def spec_l04Across.l101 : Nat → List (List (List (S64))) → Int → Int → List (List (List (S64))) → Int → List (List (S64)) → List (List (S64)) → List (List (S64)) → Int → Option ((List (List (List (S64)))))
 | 0, _, _, _, _, _, _, _, _, _ => none
 | k + 1, x0, x1, x5, x6, x7, x8, x9, x10, x11 => if x11 < (x8.length : Int) then (if 0 ≤ x11 then ((spec_l04Turn.f (rd_L3 x8 x11) false).bind fun t226 => (if x11 < (x9.length : Int) then (if t226.length + (rd_L3 x9 x11).length < 5864062014805 then (if x10.length < 5864062014805 then (spec_l04Across.l101 k x0 x1 x5 x6 x7 x8 x9 (x10 ++ [(t226 ++ (rd_L3 x9 x11))]) (wrap64 (x11 + 1))) else (none)) else (none)) else (none))) else (none)) else (if x6.length < 5864062014805 then (spec_l04Across.l0 k x0 x1 x5 (x6 ++ [x10]) (wrap64 (x7 + 1))) else (none))
end
def spec_l04Across.f (k : Nat) (l0 : List (List (List (S64)))) (a1 : Int) : Option ((List (List (List (S64))))) := spec_l04Across.l0 k l0 a1 (l0.length : Int) (([] : List (List (List (S64))))) 0
theorem spec_l04Across.mono_l : ∀ k, (∀ y0 y1 y2 y3 y4, LeO (spec_l04Across.l0 k y0 y1 y2 y3 y4) (spec_l04Across.l0 (k + 1) y0 y1 y2 y3 y4)) ∧ (∀ y0 y1 y2 y3 y4 y5 y6 y7 y8, LeO (spec_l04Across.l1 k y0 y1 y2 y3 y4 y5 y6 y7 y8) (spec_l04Across.l1 (k + 1) y0 y1 y2 y3 y4 y5 y6 y7 y8)) ∧ (∀ y0 y1 y2 y3 y4 y5 y6 y7 y8, LeO (spec_l04Across.l101 k y0 y1 y2 y3 y4 y5 y6 y7 y8) (spec_l04Across.l101 (k + 1) y0 y1 y2 y3 y4 y5 y6 y7 y8))
 | 0 => ⟨fun _ _ _ _ _ r h => by simp [spec_l04Across.l0] at h, fun _ _ _ _ _ _ _ _ _ r h => by simp [spec_l04Across.l1] at h, fun _ _ _ _ _ _ _ _ _ r h => by simp [spec_l04Across.l101] at h⟩
 | k + 1 => by
  obtain ⟨ih0, ih1, ih2⟩ := spec_l04Across.mono_l k
  refine ⟨?_, ?_, ?_⟩
  ·intro y0 y1 y2 y3 y4
   unfold spec_l04Across.l0
   repeat' first
   | (with_reducible exact ih0 _ _ _ _ _)
   | (with_reducible exact ih1 _ _ _ _ _ _ _ _ _)
   | (with_reducible exact ih2 _ _ _ _ _ _ _ _ _)
   | (with_reducible exact LeO.refl _)
   | (with_reducible exact LeO.none _)
   | (with_reducible refine LeO.ite ?_ ?_)
   | (with_reducible refine LeO.bind ?_ (fun _ => ?_))
   | exact ih0 _ _ _ _ _
   | exact ih1 _ _ _ _ _ _ _ _ _
   | exact ih2 _ _ _ _ _ _ _ _ _
   | exact LeO.none _
   | refine LeO.ite ?_ ?_
   | refine LeO.bind ?_ (fun _ => ?_)
  ·intro y0 y1 y2 y3 y4 y5 y6 y7 y8
   unfold spec_l04Across.l1
   repeat' first
   | (with_reducible exact ih0 _ _ _ _ _)
   | (with_reducible exact ih1 _ _ _ _ _ _ _ _ _)
   | (with_reducible exact ih2 _ _ _ _ _ _ _ _ _)
   | (with_reducible exact LeO.refl _)
   | (with_reducible exact LeO.none _)
   | (with_reducible refine LeO.ite ?_ ?_)
   | (with_reducible refine LeO.bind ?_ (fun _ => ?_))
   | exact ih0 _ _ _ _ _
   | exact ih1 _ _ _ _ _ _ _ _ _
   | exact ih2 _ _ _ _ _ _ _ _ _
   | exact LeO.none _
   | refine LeO.ite ?_ ?_
   | refine LeO.bind ?_ (fun _ => ?_)
  ·intro y0 y1 y2 y3 y4 y5 y6 y7 y8
   unfold spec_l04Across.l101
   repeat' first
   | (with_reducible exact ih0 _ _ _ _ _)
   | (with_reducible exact ih1 _ _ _ _ _ _ _ _ _)
   | (with_reducible exact ih2 _ _ _ _ _ _ _ _ _)
   | (with_reducible exact LeO.refl _)
   | (with_reducible exact LeO.none _)
   | (with_reducible refine LeO.ite ?_ ?_)
   | (with_reducible refine LeO.bind ?_ (fun _ => ?_))
   | exact ih0 _ _ _ _ _
   | exact ih1 _ _ _ _ _ _ _ _ _
   | exact ih2 _ _ _ _ _ _ _ _ _
   | exact LeO.none _
   | refine LeO.ite ?_ ?_
   | refine LeO.bind ?_ (fun _ => ?_)
theorem spec_l04Across.mono : ∀ a0 a1 k, LeO (spec_l04Across.f k a0 a1) (spec_l04Across.f (k + 1) a0 a1) := by
 intro a0 a1 k
 obtain ⟨ih0, ih1, ih2⟩ := spec_l04Across.mono_l k
 unfold spec_l04Across.f
 repeat' first
   | (with_reducible exact ih0 _ _ _ _ _)
   | (with_reducible exact ih1 _ _ _ _ _ _ _ _ _)
   | (with_reducible exact ih2 _ _ _ _ _ _ _ _ _)
   | (with_reducible exact LeO.refl _)
   | (with_reducible exact LeO.none _)
   | (with_reducible refine LeO.ite ?_ ?_)
   | (with_reducible refine LeO.bind ?_ (fun _ => ?_))
   | exact ih0 _ _ _ _ _
   | exact ih1 _ _ _ _ _ _ _ _ _
   | exact ih2 _ _ _ _ _ _ _ _ _
   | exact LeO.none _
   | refine LeO.ite ?_ ?_
   | refine LeO.bind ?_ (fun _ => ?_)
def spec_l04Across.T6 : Bool × List (List Nat × List Nat) := (true, [([], []), ([], []), ([1], [1]), ([], []), ([2, 3], [2, 3]), ([0, 4], [0, 4]), ([5], [5]), ([], []), ([], []), ([7, 8], [7, 8]), ([9], [9]), ([6, 0, 1, 2, 3, 4, 5, 6], [6]), ([10, 11, 0, 1, 2, 3, 4, 5, 6, 7, 8, 9, 10, 11], [10])])
def spec_l04Across.B6 : List Nat := [0, 0, 2, 0, 14, 31, 63, 0, 0, 384, 896, 127, 4095]
theorem spec_l04Across.tab6 : rtab .any (opsOf Tryz.f99 6) = spec_l04Across.T6 := by kernel_rfl
theorem spec_l04Across.bits6 : waitsOk spec_l04Across.T6.2 spec_l04Across.B6 = true := by kernel_rfl
def spec_l04Across.T8 : Bool × List (List Nat × List Nat) := (true, [([], []), ([], []), ([1], [1]), ([2], [2]), ([], []), ([3, 4], [3, 4]), ([0, 5], [0, 5]), ([6], [6]), ([], []), ([], []), ([9], [9]), ([], []), ([10, 11], [10, 11]), ([8, 12], [8, 12]), ([13], [13]), ([7, 0, 1, 2, 3, 4, 5, 6, 7], [7]), ([14, 15, 0, 1, 2, 3, 4, 5, 6, 7, 8, 9, 10, 11, 12, 13, 14, 15], [14])])
def spec_l04Across.B8 : List Nat := [0, 0, 2, 6, 0, 30, 63, 127, 0, 0, 512, 0, 3584, 7936, 16128, 255, 65535]
theorem spec_l04Across.tab8 : rtab .any (opsOf Tryz.f99 8) = spec_l04Across.T8 := by kernel_rfl
theorem spec_l04Across.bits8 : waitsOk spec_l04Across.T8.2 spec_l04Across.B8 = true := by kernel_rfl
def spec_l04Across.T13 : Bool × List (List Nat × List Nat) := (true, [([], []), ([], []), ([], []), ([1, 2], [1, 2]), ([3], [3]), ([4], [4]), ([], []), ([], []), ([6, 7], [6, 7]), ([8], [8]), ([5, 9, 5], [5, 9]), ([10], [10]), ([0, 11, 10], [0, 11]), ([12, 12, 0, 1, 2, 3, 4, 5, 6, 7, 8, 9, 10, 11, 12], [0, 12])])
def spec_l04Across.B13 : List Nat := [0, 0, 0, 6, 14, 30, 0, 0, 192, 448, 1022, 2046, 4095, 8191]
theorem spec_l04Across.tab13 : rtab .any (opsOf Tryz.f99 13) = spec_l04Across.T13 := by kernel_rfl
theorem spec_l04Across.bits13 : waitsOk spec_l04Across.T13.2 spec_l04Across.B13 = true := by kernel_rfl
set_option maxHeartbeats 8000000 in
set_option maxRecDepth 100000 in
theorem spec_l04Across.calls (k : Nat) (A0 : Option Addr) (c0 : Nat) (l0 : List (List (List (S64)))) (a1 : Int) (r : List (List (List (S64)))) (w : World) (hr0 : Kd.C (Kd.slice 61 (Kd.slice 64 k64)) w A0 l0.length l0) (hc0 : l0.length ≤ c0) (h : spec_l04Across.f k l0 a1 = some r) :
  Calls Tryz.prog 99 #[.slice A0 l0.length c0, .int .u8 a1] w fun e w' => ∃ v0_ : Value, e = .returned (v0_) ∧ Kd.R (Kd.slice 61 (Kd.slice 64 k64)) 96 w' w.heap.size (fun _ => True) v0_ r ∧ Below w.heap.size w w' := by
 have HR0 := Aside0.mk hr0
 have HC0 := Aside0.mk hc0
 clear hr0 hc0
 have HB := a_ (Below.refl w.heap.size w)
 have H : (spec_l04Across.l0 k l0 a1 (l0.length : Int) (([] : List (List (List (S64))))) 0) = some r := h
 clear h
 obtain ⟨y198, hy198⟩ : ∃ y_ : List (List (List (S64))), y_ = (([] : List (List (List (S64))))) := ⟨_, rfl⟩
 replace H : (spec_l04Across.l0 k l0 a1 (l0.length : Int) y198 0) = some r := rh_ hy198 H
 have Ny198 := Aside0.mk hy198
 clear hy198
 have H' := Aside0.mk H
 clear H
 go_enter Tryz.func99, Tryz.ntmps99
 go_wp2_with (first | ((with_reducible refine gate_dst (N := 14) rfl ?_); refine Kd.R_lit (Kd.slice 61 (Kd.slice 64 k64)) _ 96 ?hg (N := 14) ?hd (xs := ([] : List (List (List (S64))))) (inner := []) (ok := fun _ => True) (okp := fun _ => True) ?hr ?hp (fun _ hk => hk) trivial (Below.refl _ _) (Nat.le_refl _) (by simp) ?_; (case hd => rfl); (case hg => rfl); (case hr => first | (go_simp; done) | (go_simp; rfl)); (case hp => exact (Reps.none _ _)); intro v199 w3 ho4 hb hg_ hnew_; clear hg_ hnew_; (first | rw [← Ny198.out] at ho4 | (simp only [Int.reduceToNat] at ho4; rw [← Ny198.out] at ho4)); have HO200 := a_ (Kd.R_lower ho4 (below_size z32_)); replace HB := a_ (below_step z32_ hb); clear hb ho4))
 go_loopg [6, 7] k (fun kq v6 v7 w' => ∃ (x6_1 : List (List (List (S64)))) (x7_1 : Int), v7 = .int .i64 x7_1 ∧ Aside0 (spec_l04Across.l0 kq l0 a1 (l0.length : Int) x6_1 x7_1 = some r) ∧ Aside0 (kq ≤ k) ∧ Aside0 (Kd.R (Kd.slice 61 (Kd.slice 64 k64)) 96 w' w.heap.size (fun _ => True) v6 x6_1) ∧ Aside0 (Below w.heap.size w w'))
 case atStart => exact ⟨(y198), (0), z76_, H', ⟨Nat.le_refl _⟩, ⟨by (with_reducible repeat (first | apply Kd.R_alloc | apply Kd.R_drewN | apply Kd.R_drew)); exact HO200.out⟩, ⟨z32_⟩⟩
 case round =>
  clear H'
  obtain ⟨x6_1, x7_1, rfl, HA, HK1, HO_6, HB⟩ := hrel
  cases gk with
  | zero => exact absurd HA.out (by simp [spec_l04Across.l0])
  | succ k1 =>
   have H := HA.out
   clear HA
   simp only [spec_l04Across.l0] at H
   (try simp only [show ∀ (n_ : Nat) (k_ : Int), Int.tdiv (n_ : Int) k_ = (n_ : Int) / k_ from fun n_ k_ => Int.tdiv_eq_ediv_of_nonneg (Int.natCast_nonneg n_), show ∀ (n_ : Nat) (k_ : Int), Int.tmod (n_ : Int) k_ = (n_ : Int) % k_ from fun n_ k_ => Int.tmod_eq_emod_of_nonneg (Int.natCast_nonneg n_)] at H)
   by_cases c5 : x7_1 < (wrap64 (((l0.length : Int) / 2)))
   ·rw [if_pos c5] at H
    have c5b0 : decide (x7_1 < (wrap64 (((l0.length : Int) / 2)))) = true := decide_eq_true c5
    clear c5
    obtain ⟨ji6, hji6⟩ : ∃ j_ : Int, (wrap64 ((wrap64 ((l0.length : Int) - 1)) - x7_1)) = j_ := ⟨_, rfl⟩
    replace H : (if 0 ≤ (ji6) then (if (ji6) < (l0.length : Int) then (if 0 ≤ x7_1 then (if x7_1 < (l0.length : Int) then (if a1 = 84 then (if 0 ≤ (wrap64 ((wrap64 ((wrap64 (((l0.length : Int) / 2))) - 1)) - x7_1)) then (if (wrap64 ((wrap64 ((wrap64 (((l0.length : Int) / 2))) - 1)) - x7_1)) < (l0.length : Int) then (if 0 ≤ (wrap64 ((wrap64 (((l0.length : Int) / 2))) + x7_1)) then (if (wrap64 ((wrap64 (((l0.length : Int) / 2))) + x7_1)) < (l0.length : Int) then (spec_l04Across.l1 k1 l0 a1 (l0.length : Int) x6_1 x7_1 (rd_L4 l0 (wrap64 ((wrap64 ((wrap64 (((l0.length : Int) / 2))) - 1)) - x7_1))) (rd_L4 l0 (wrap64 ((wrap64 (((l0.length : Int) / 2))) + x7_1))) (([] : List (List (S64)))) 0) else (none)) else (none)) else (none)) else (none)) else (spec_l04Across.l101 k1 l0 a1 (l0.length : Int) x6_1 x7_1 (rd_L4 l0 (ji6)) (rd_L4 l0 x7_1) (([] : List (List (S64)))) 0)) else (none)) else (none)) else (none)) else (none)) = some r := by first | (rw [hji6] at H; exact H) | (simp only [hji6] at H ⊢; exact H)
    have hji6w : (IntKind.i64.wrap ((wrap64 ((l0.length : Int) - 1)) - x7_1)) = ji6 := (i64_w _).trans hji6
    by_cases c7 : 0 ≤ (ji6)
    ·rw [if_pos c7] at H
     have c7b0 : decide (0 ≤ (ji6)) = true := decide_eq_true c7
     clear c7
     by_cases c8 : (ji6) < (l0.length : Int)
     ·rw [if_pos c8] at H
      have c8b0 : decide ((ji6) < (l0.length : Int)) = true := decide_eq_true c8
      clear c8
      by_cases c9 : 0 ≤ x7_1
      ·rw [if_pos c9] at H
       have c9b0 : decide (0 ≤ x7_1) = true := decide_eq_true c9
       clear c9
       by_cases c10 : x7_1 < (l0.length : Int)
       ·rw [if_pos c10] at H
        have c10b0 : decide (x7_1 < (l0.length : Int)) = true := decide_eq_true c10
        clear c10
        by_cases c11 : a1 = 84
        ·rw [if_pos c11] at H
         have c11b0 : (a1 == 84) = true := beq_iff_eq.mpr c11
         have c11b1 : (a1 != 84) = false := bne_eq_false_iff_eq.mpr c11
         clear c11
         obtain ⟨ji12, hji12⟩ : ∃ j_ : Int, (wrap64 ((wrap64 ((wrap64 (((l0.length : Int) / 2))) - 1)) - x7_1)) = j_ := ⟨_, rfl⟩
         replace H : (if 0 ≤ (ji12) then (if (ji12) < (l0.length : Int) then (if 0 ≤ (wrap64 ((wrap64 (((l0.length : Int) / 2))) + x7_1)) then (if (wrap64 ((wrap64 (((l0.length : Int) / 2))) + x7_1)) < (l0.length : Int) then (spec_l04Across.l1 k1 l0 a1 (l0.length : Int) x6_1 x7_1 (rd_L4 l0 (ji12)) (rd_L4 l0 (wrap64 ((wrap64 (((l0.length : Int) / 2))) + x7_1))) (([] : List (List (S64)))) 0) else (none)) else (none)) else (none)) else (none)) = some r := by first | (rw [hji12] at H; exact H) | (simp only [hji12] at H ⊢; exact H)
         have hji12w : (IntKind.i64.wrap ((wrap64 ((wrap64 (((l0.length : Int) / 2))) - 1)) - x7_1)) = ji12 := (i64_w _).trans hji12
         by_cases c13 : 0 ≤ (ji12)
         ·rw [if_pos c13] at H
          have c13b0 : decide (0 ≤ (ji12)) = true := decide_eq_true c13
          clear c13
          by_cases c14 : (ji12) < (l0.length : Int)
          ·rw [if_pos c14] at H
           have c14b0 : decide ((ji12) < (l0.length : Int)) = true := decide_eq_true c14
           clear c14
           obtain ⟨ji15, hji15⟩ : ∃ j_ : Int, (wrap64 ((wrap64 (((l0.length : Int) / 2))) + x7_1)) = j_ := ⟨_, rfl⟩
           replace H : (if 0 ≤ (ji15) then (if (ji15) < (l0.length : Int) then (spec_l04Across.l1 k1 l0 a1 (l0.length : Int) x6_1 x7_1 (rd_L4 l0 (ji12)) (rd_L4 l0 (ji15)) (([] : List (List (S64)))) 0) else (none)) else (none)) = some r := by first | (rw [hji15] at H; exact H) | (simp only [hji15] at H ⊢; exact H)
           have hji15w : (IntKind.i64.wrap ((wrap64 (((l0.length : Int) / 2))) + x7_1)) = ji15 := (i64_w _).trans hji15
           by_cases c16 : 0 ≤ (ji15)
           ·rw [if_pos c16] at H
            have c16b0 : decide (0 ≤ (ji15)) = true := decide_eq_true c16
            clear c16
            by_cases c17 : (ji15) < (l0.length : Int)
            ·rw [if_pos c17] at H
             have c17b0 : decide ((ji15) < (l0.length : Int)) = true := decide_eq_true c17
             clear c17
             obtain ⟨y205, hy205⟩ : ∃ y_ : List (List (S64)), y_ = (([] : List (List (S64)))) := ⟨_, rfl⟩
             replace H : (spec_l04Across.l1 k1 l0 a1 (l0.length : Int) x6_1 x7_1 (rd_L4 l0 (ji12)) (rd_L4 l0 (ji15)) y205 0) = some r := rh_ hy205 H
             have Ny205 := Aside0.mk hy205
             clear hy205
             have H' := Aside0.mk H
             clear H
             try go_wp2
             replace HO_6 := a_ (Kd.R_drew HO_6.out)
             replace HB := a_ (below_drew1 HB.out)
             have p201 : 0 ≤ ((ji6) : Int) := of_decide_eq_true z75_
             have q201 : (ji6) < (l0.length : Int) := of_decide_eq_true z75_
             obtain ⟨ad201, A201_0, c201_0, e201, hx201_0, hl201_0, hi201_0⟩ := at_L4 HR0.out (ji6) p201 q201
             have hw201_0 := hx201_0
             cases e201
             replace hx201_0 := (HB.out.cell (World.block_lt_of_cell? _ _ hx201_0)).trans hx201_0
             have HR201_0 := Aside0.mk hi201_0
             have HC201_0 := Aside0.mk hl201_0
             clear hi201_0 hl201_0
             replace p201 := eq_true p201
             replace q201 := eq_true q201
             have p202 : 0 ≤ (x7_1 : Int) := of_decide_eq_true z75_
             have q202 : x7_1 < (l0.length : Int) := of_decide_eq_true z75_
             obtain ⟨ad202, A202_0, c202_0, e202, hx202_0, hl202_0, hi202_0⟩ := at_L4 HR0.out x7_1 p202 q202
             have hw202_0 := hx202_0
             obtain rfl : ad201 = ad202 := (by injection e202)
             replace hx202_0 := (HB.out.cell (World.block_lt_of_cell? _ _ hx202_0)).trans hx202_0
             have HR202_0 := Aside0.mk hi202_0
             have HC202_0 := Aside0.mk hl202_0
             clear hi202_0 hl202_0
             replace p202 := eq_true p202
             replace q202 := eq_true q202
             refine start_ (n := 13) (S := fun w' => w'.cell? (ad201.add ((ji6)).toNat) = some (.slice A201_0 (rd_L4 l0 (ji6)).length c201_0) ∧ w'.cell? (ad201.add (x7_1).toNat) = some (.slice A202_0 (rd_L4 l0 x7_1).length c202_0)) (ds := []) #[false, false, false, false, false, false, false, false, false, false, false, false, false] (by kernel_rfl) rfl rfl ⟨((HB.out.cell (World.block_lt_of_cell? _ _ hw201_0)).trans hw201_0), ((HB.out.cell (World.block_lt_of_cell? _ _ hw202_0)).trans hw202_0)⟩ (fun hHeld => ?_); refine with_tabW spec_l04Across.tab6 spec_l04Across.bits6 (fun HT_ HW_ => ?_)
             generalize wr.drew = w18 at HO_6 HB HR201_0 HR202_0 hx201_0 hx202_0 hHeld ⊢
             refine pu_ (i := 0) (N := some 21) #[true, false, false, false, false, false, false, false, false, false, false, false, false] ?_
             refine pu_ (i := 1) (N := some 22) #[true, true, false, false, false, false, false, false, false, false, false, false, false] ?_
             refine pu_ (i := 2) (N := some 23) #[true, true, true, false, false, false, false, false, false, false, false, false, false] ?_
             refine pu_ (i := 3) (N := some 24) #[true, true, true, true, false, false, false, false, false, false, false, false, false] ?_
             refine pu_ (i := 4) (N := some 25) #[true, true, true, true, true, false, false, false, false, false, false, false, false] ?_
             refine pu_ (i := 5) (N := some 26) #[true, true, true, true, true, true, false, false, false, false, false, false, false] ?_
             refine pu_ (i := 7) (N := some 28) #[true, true, true, true, true, true, false, true, false, false, false, false, false] ?_
             refine pu_ (i := 8) (N := some 29) #[true, true, true, true, true, true, false, true, true, false, false, false, false] ?_
             refine pu_ (i := 9) (N := some 30) #[true, true, true, true, true, true, false, true, true, true, false, false, false] ?_
             refine tk2_ (i := 6) (N := some 27) #[true, true, true, true, true, true, true, true, true, true, false, false, false] hHeld ?_
             refine pu_ (i := 11) (N := some 8) #[true, true, true, true, true, true, true, true, true, true, false, true, false] ?_
             refine tk2_ (i := 10) (N := some 31) #[true, true, true, true, true, true, true, true, true, true, true, true, false] hHeld ?_
             refine pu_ (i := 12) (N := some 9) #[true, true, true, true, true, true, true, true, true, true, true, true, true] ?_
             refine done_ (done_of HT_.out (by kernel_rfl)) ?_
             try go_wp2
             replace HO_6 := a_ (Kd.R_drew HO_6.out)
             replace HB := a_ (below_drew1 HB.out)
             have p203 : 0 ≤ ((ji12) : Int) := of_decide_eq_true z75_
             have q203 : (ji12) < (l0.length : Int) := of_decide_eq_true z75_
             obtain ⟨ad203, A203_0, c203_0, e203, hx203_0, hl203_0, hi203_0⟩ := at_L4 HR0.out (ji12) p203 q203
             have hw203_0 := hx203_0
             obtain rfl : ad201 = ad203 := (by injection e203)
             replace hx203_0 := (HB.out.cell (World.block_lt_of_cell? _ _ hx203_0)).trans hx203_0
             have HR203_0 := Aside0.mk hi203_0
             have HC203_0 := Aside0.mk hl203_0
             clear hi203_0 hl203_0
             replace p203 := eq_true p203
             replace q203 := eq_true q203
             have p204 : 0 ≤ ((ji15) : Int) := of_decide_eq_true z75_
             have q204 : (ji15) < (l0.length : Int) := of_decide_eq_true z75_
             obtain ⟨ad204, A204_0, c204_0, e204, hx204_0, hl204_0, hi204_0⟩ := at_L4 HR0.out (ji15) p204 q204
             have hw204_0 := hx204_0
             obtain rfl : ad201 = ad204 := (by injection e204)
             replace hx204_0 := (HB.out.cell (World.block_lt_of_cell? _ _ hx204_0)).trans hx204_0
             have HR204_0 := Aside0.mk hi204_0
             have HC204_0 := Aside0.mk hl204_0
             clear hi204_0 hl204_0
             replace p204 := eq_true p204
             replace q204 := eq_true q204
             refine start_ (n := 17) (S := fun w' => w'.cell? (ad201.add ((ji12)).toNat) = some (.slice A203_0 (rd_L4 l0 (ji12)).length c203_0) ∧ w'.cell? (ad201.add ((ji15)).toNat) = some (.slice A204_0 (rd_L4 l0 (ji15)).length c204_0)) (ds := []) #[false, false, false, false, false, false, false, false, false, false, false, false, false, false, false, false, false] (by kernel_rfl) rfl rfl ⟨((HB.out.cell (World.block_lt_of_cell? _ _ hw203_0)).trans hw203_0), ((HB.out.cell (World.block_lt_of_cell? _ _ hw204_0)).trans hw204_0)⟩ (fun hHeld => ?_); refine with_tabW spec_l04Across.tab8 spec_l04Across.bits8 (fun HT_ HW_ => ?_)
             generalize w18.drew = w19 at HO_6 HB HR203_0 HR204_0 hx203_0 hx204_0 hHeld ⊢
             refine pu_ (i := 0) (N := some 34) #[true, false, false, false, false, false, false, false, false, false, false, false, false, false, false, false, false] ?_
             refine pu_ (i := 1) (N := some 35) #[true, true, false, false, false, false, false, false, false, false, false, false, false, false, false, false, false] ?_
             refine pu_ (i := 2) (N := some 36) #[true, true, true, false, false, false, false, false, false, false, false, false, false, false, false, false, false] ?_
             refine pu_ (i := 3) (N := some 37) #[true, true, true, true, false, false, false, false, false, false, false, false, false, false, false, false, false] ?_
             refine pu_ (i := 4) (N := some 38) #[true, true, true, true, true, false, false, false, false, false, false, false, false, false, false, false, false] ?_
             refine pu_ (i := 5) (N := some 39) #[true, true, true, true, true, true, false, false, false, false, false, false, false, false, false, false, false] ?_
             refine pu_ (i := 6) (N := some 40) #[true, true, true, true, true, true, true, false, false, false, false, false, false, false, false, false, false] ?_
             refine pu_ (i := 8) (N := some 42) #[true, true, true, true, true, true, true, false, true, false, false, false, false, false, false, false, false] ?_
             refine pu_ (i := 9) (N := some 43) #[true, true, true, true, true, true, true, false, true, true, false, false, false, false, false, false, false] ?_
             refine pu_ (i := 10) (N := some 44) #[true, true, true, true, true, true, true, false, true, true, true, false, false, false, false, false, false] ?_
             refine pu_ (i := 11) (N := some 45) #[true, true, true, true, true, true, true, false, true, true, true, true, false, false, false, false, false] ?_
             refine pu_ (i := 12) (N := some 46) #[true, true, true, true, true, true, true, false, true, true, true, true, true, false, false, false, false] ?_
             refine pu_ (i := 13) (N := some 47) #[true, true, true, true, true, true, true, false, true, true, true, true, true, true, false, false, false] ?_
             refine tk2_ (i := 7) (N := some 41) #[true, true, true, true, true, true, true, true, true, true, true, true, true, true, false, false, false] hHeld ?_
             refine pu_ (i := 15) (N := some 8) #[true, true, true, true, true, true, true, true, true, true, true, true, true, true, false, true, false] ?_
             refine tk2_ (i := 14) (N := some 48) #[true, true, true, true, true, true, true, true, true, true, true, true, true, true, true, true, false] hHeld ?_
             refine pu_ (i := 16) (N := some 9) #[true, true, true, true, true, true, true, true, true, true, true, true, true, true, true, true, true] ?_
             refine done_ (done_of HT_.out (by kernel_rfl)) ?_
             try go_wp2_with (first | ((with_reducible refine gate_dst (N := 49) rfl ?_); refine Kd.S_lit (Kd.slice 64 k64) _ 61 ?hg (N := 49) ?hd (xs := ([] : List (List (S64)))) (inner := []) (ok := fun _ => True) (okp := fun _ => True) ?hr ?hp (fun _ hk => hk) trivial (Below.refl _ _) (Nat.le_refl _) (by simp) ?_; (case hd => rfl); (case hg => rfl); (case hr => first | (go_simp; done) | (go_simp; rfl)); (case hp => exact (Reps.none _ _)); intro v206 w20 ho21 hb hg_ hnew_; clear hg_ hnew_; (first | rw [← Ny205.out] at ho21 | (simp only [Int.reduceToNat] at ho21; rw [← Ny205.out] at ho21)); replace HO_6 := a_ (Kd.R_elder' (ra_ HO_6.out) (Kd.S_base ho21) hb); have HO207 := a_ (Kd.S_lower ho21 (below_size z32_)); replace HB := a_ (below_step z32_ hb); clear hb ho21))
             go_loopg [10, 11] k1 (fun kq v10 v11 w' => ∃ (x10_2 : List (List (S64))) (x11_2 : Int), v11 = .int .i64 x11_2 ∧ Aside0 (spec_l04Across.l1 kq l0 a1 (l0.length : Int) x6_1 x7_1 (rd_L4 l0 (ji12)) (rd_L4 l0 (ji15)) x10_2 x11_2 = some r) ∧ Aside0 (kq ≤ k1) ∧ Aside0 (Kd.R (Kd.slice 61 (Kd.slice 64 k64)) 96 w' w.heap.size (fun k_ => some k_ ≠ (v10 : Value).ownBlock) u6 x6_1) ∧ Aside0 (Kd.S (Kd.slice 64 k64) 61 w' w.heap.size (fun _ => True) v10 x10_2) ∧ Aside0 (Below w.heap.size w w'))
             case atStart => exact ⟨(y205), (0), z76_, H', ⟨Nat.le_refl _⟩, ⟨z36_⟩, ⟨by (with_reducible repeat (first | apply Kd.S_alloc | apply Kd.S_drewN | apply Kd.S_drew)); exact HO207.out⟩, ⟨z32_⟩⟩
             case round =>
              clear H'
              try clear c5b0; try clear c7b0; try clear c8b0; try clear c9b0; try clear c10b0; try clear c11b0; try clear c11b1; try clear c13b0; try clear c14b0; try clear c16b0; try clear c17b0; try clear hx201_0; try clear hx202_0; try clear hx203_0; try clear hx204_0; try clear p201; try clear p202; try clear p203; try clear p204; try clear q201; try clear q202; try clear q203; try clear q204
              obtain ⟨x10_2, x11_2, rfl, HA, HK2, HO_6, HO_10, HB⟩ := hrel
              cases gk with
              | zero => exact absurd HA.out (by simp [spec_l04Across.l1])
              | succ k2 =>
               have H := HA.out
               clear HA
               simp only [spec_l04Across.l1] at H
               by_cases c22 : x11_2 < ((rd_L4 l0 (ji12)).length : Int)
               ·rw [if_pos c22] at H
                have c22b0 : decide (x11_2 < ((rd_L4 l0 (ji12)).length : Int)) = true := decide_eq_true c22
                clear c22
                by_cases c23 : 0 ≤ x11_2
                ·rw [if_pos c23] at H
                 have c23b0 : decide (0 ≤ x11_2) = true := decide_eq_true c23
                 clear c23
                 replace H := Option.bind_eq_some_iff.mp H
                 obtain ⟨t209, A240, H⟩ := H
                 replace H : (if x11_2 < ((rd_L4 l0 (ji15)).length : Int) then (if t209.length + (rd_L3 (rd_L4 l0 (ji15)) x11_2).length < 5864062014805 then (if x10_2.length < 5864062014805 then (spec_l04Across.l1 k2 l0 a1 (l0.length : Int) x6_1 x7_1 (rd_L4 l0 (ji12)) (rd_L4 l0 (ji15)) (x10_2 ++ [(t209 ++ (rd_L3 (rd_L4 l0 (ji15)) x11_2))]) (wrap64 (x11_2 + 1))) else (none)) else (none)) else (none)) = some r := H
                 have A24 := Aside0.mk A240
                 clear A240
                 by_cases c25 : x11_2 < ((rd_L4 l0 (ji15)).length : Int)
                 ·rw [if_pos c25] at H
                  have c25b0 : decide (x11_2 < ((rd_L4 l0 (ji15)).length : Int)) = true := decide_eq_true c25
                  clear c25
                  by_cases c26 : t209.length + (rd_L3 (rd_L4 l0 (ji15)) x11_2).length < 5864062014805
                  ·rw [if_pos c26] at H
                   have LMc26 := Aside0.mk c26
                   clear c26
                   obtain ⟨y213, hy213⟩ : ∃ y_ : List (S64), y_ = (t209 ++ (rd_L3 (rd_L4 l0 (ji15)) x11_2)) := ⟨_, rfl⟩
                   replace H : (if x10_2.length < 5864062014805 then (spec_l04Across.l1 k2 l0 a1 (l0.length : Int) x6_1 x7_1 (rd_L4 l0 (ji12)) (rd_L4 l0 (ji15)) (x10_2 ++ [y213]) (wrap64 (x11_2 + 1))) else (none)) = some r := rh_ hy213 H
                   have Ny213 := Aside0.mk hy213
                   clear hy213
                   by_cases c27 : x10_2.length < 5864062014805
                   ·rw [if_pos c27] at H
                    have LMc27 := Aside0.mk c27
                    clear c27
                    obtain ⟨y216, hy216⟩ : ∃ y_ : List (List (S64)), y_ = (x10_2 ++ [y213]) := ⟨_, rfl⟩
                    replace H : (spec_l04Across.l1 k2 l0 a1 (l0.length : Int) x6_1 x7_1 (rd_L4 l0 (ji12)) (rd_L4 l0 (ji15)) y216 (wrap64 (x11_2 + 1))) = some r := rh_ hy216 H
                    have Ny216 := Aside0.mk hy216
                    clear hy216
                    have H' := Aside0.mk H
                    clear H
                    try go_wp2
                    replace HO_6 := a_ (Kd.R_drew HO_6.out)
                    replace HO_10 := a_ (Kd.S_drew HO_10.out)
                    replace HB := a_ (below_drew1 HB.out)
                    have p208 : 0 ≤ (x11_2 : Int) := of_decide_eq_true z75_
                    have q208 : x11_2 < ((rd_L4 l0 (ji12)).length : Int) := of_decide_eq_true z75_
                    obtain ⟨ad208, A208_0, c208_0, e208, hx208_0, hl208_0, hi208_0⟩ := at_L3 HR203_0.out x11_2 p208 q208
                    have hw208_0 := hx208_0
                    cases e208
                    replace hx208_0 := (HB.out.cell (World.block_lt_of_cell? _ _ hx208_0)).trans hx208_0
                    have HR208_0 := Aside0.mk hi208_0
                    have HC208_0 := Aside0.mk hl208_0
                    clear hi208_0 hl208_0
                    replace p208 := eq_true p208
                    replace q208 := eq_true q208
                    have p212 : 0 ≤ (x11_2 : Int) := of_decide_eq_true z75_
                    have q212 : x11_2 < ((rd_L4 l0 (ji15)).length : Int) := of_decide_eq_true z75_
                    obtain ⟨ad212, A212_0, c212_0, e212, hx212_0, hl212_0, hi212_0⟩ := at_L3 HR204_0.out x11_2 p212 q212
                    have hw212_0 := hx212_0
                    cases e212
                    replace hx212_0 := (HB.out.cell (World.block_lt_of_cell? _ _ hx212_0)).trans hx212_0
                    have HR212_0 := Aside0.mk hi212_0
                    have HC212_0 := Aside0.mk hl212_0
                    clear hi212_0 hl212_0
                    replace p212 := eq_true p212
                    replace q212 := eq_true q212
                    refine start_ (n := 14) (S := fun w' => w'.cell? (ad208.add (x11_2).toNat) = some (.slice A208_0 (rd_L3 (rd_L4 l0 (ji12)) x11_2).length c208_0) ∧ w'.cell? (ad212.add (x11_2).toNat) = some (.slice A212_0 (rd_L3 (rd_L4 l0 (ji15)) x11_2).length c212_0)) (ds := []) #[false, false, false, false, false, false, false, false, false, false, false, false, false, false] (by kernel_rfl) rfl rfl ⟨((HB.out.cell (World.block_lt_of_cell? _ _ hw208_0)).trans hw208_0), ((HB.out.cell (World.block_lt_of_cell? _ _ hw212_0)).trans hw212_0)⟩ (fun hHeld => ?_); refine with_tabW spec_l04Across.tab13 spec_l04Across.bits13 (fun HT_ HW_ => ?_)
                    generalize wr.drew = w28 at HO_6 HO_10 HB HR208_0 HR212_0 hx208_0 hx212_0 hHeld ⊢
                    refine pu_ (i := 0) (N := some 56) #[true, false, false, false, false, false, false, false, false, false, false, false, false, false] ?_
                    refine pu_ (i := 1) (N := some 57) #[true, true, false, false, false, false, false, false, false, false, false, false, false, false] ?_
                    refine pu_ (i := 2) (N := some 58) #[true, true, true, false, false, false, false, false, false, false, false, false, false, false] ?_
                    refine pu_ (i := 3) (N := some 59) #[true, true, true, true, false, false, false, false, false, false, false, false, false, false] ?_
                    refine pu_ (i := 6) (N := some 62) #[true, true, true, true, false, false, true, false, false, false, false, false, false, false] ?_
                    refine pu_ (i := 7) (N := some 63) #[true, true, true, true, false, false, true, true, false, false, false, false, false, false] ?_
                    refine pu_ (i := 8) (N := some 64) #[true, true, true, true, false, false, true, true, true, false, false, false, false, false] ?_
                    refine tk2_ (i := 4) (N := some 60) #[true, true, true, true, true, false, true, true, true, false, false, false, false, false] hHeld ?_
                    refine tk2_ (i := 9) (N := some 65) #[true, true, true, true, true, false, true, true, true, true, false, false, false, false] hHeld ?_
                    refine one_ (i := 5) (N := some 61) #[true, true, true, true, true, true, true, true, true, true, false, false, false, false] rfl rfl (one_of HT_.out (by kernel_rfl)) (by decide) (fun K hK => ?_)
                    refine goes_ Tryz.func115 (by kernel_rfl) rfl #[.slice A208_0 (rd_L3 (rd_L4 l0 (ji12)) x11_2).length c208_0, .bool false] (by rfl) rfl rfl (by (try simp only [List.map_toArray, List.map_cons, List.map_nil]); first | done | (simp only [hji12]; rfl) | rfl | (simp only [List.length_drop, List.length_take]; rfl)) ?_
                    with_reducible refine (spec_l04Turn.calls _ _ (rd_L3 (rd_L4 l0 (ji12)) x11_2) false t209 _ ?side1 ?side2 A24.out).mono ?_
                    (case side1 => exact kc_ (Kd.C_below HR208_0.out HB.out))
                    (case side2 => exact HC208_0.out)
                    rintro e w29 ⟨v210, rfl, ho0, hb⟩
                    refine ⟨_, rfl, ?_⟩
                    replace HO_6 := a_ (Kd.R_elder' (ra_ HO_6.out) (Kd.R_base ho0) hb)
                    replace HO_10 := a_ (Kd.S_elder' z59_ (Kd.R_base ho0) hb)
                    have HO211 := a_ (Kd.R_lower ho0 (below_size z32_))
                    replace HB := a_ (below_step z32_ hb)
                    (try clear hb)
                    (try clear hb2)
                    (try clear hk)
                    (try clear hi)
                    (try clear ho0)
                    refine hK.out _ _ ⟨((HB.out.cell (World.block_lt_of_cell? _ _ hw208_0)).trans hw208_0), ((HB.out.cell (World.block_lt_of_cell? _ _ hw212_0)).trans hw212_0)⟩ (fun hHeld => ?_)
                    clear hK K
                    refine nm_ ?_
                    refine one_ (i := 10) (N := some 66) #[true, true, true, true, true, true, true, true, true, true, true, false, false, false] rfl rfl (one_of HT_.out (by kernel_rfl)) (by decide) (fun K hK => ?_)
                    refine Kd.R_append_rows_step k64 (w0 := w) w.heap.size (by rfl) (.tmp 61) (.tmp 65) 61 64 (.agg #[(.int .i64 0), (.int .i64 0), (.bool false), (.bool false)]) 24 rfl Tryz.underlying61 info64 rfl (by decide) (by omega) v210 t209 (rd_L3 (rd_L4 l0 (ji15)) x11_2) _ _ _ (fun _ => True) (fun _ => False) rfl rfl ?aO ?aR (fun _ _ h => h) (fun _ h => h.elim) ?aF ?aB ?aS ?aL ?_
                    (case aR => exact kc_ (Kd.C_below HR212_0.out HB.out))
                    (case aB => exact z32_)
                    (case aF => exact (fun _ _ => trivial))
                    (case aO => exact (ra_ HO211.out))
                    (case aS => exact (below_size z32_))
                    (case aL => have := LMc26.out; omega)
                    intro v214 w30 ho hb hg hat
                    rw [← Ny213.out] at ho
                    replace HO_6 := a_ (Kd.R_after (ok := (fun k_ => some k_ ≠ (u10 : Value).ownBlock)) (ra_ HO_6.out) hg hat)
                    replace HO_10 := a_ (Kd.S_after (ok := (fun _ => True)) z59_ hg hat)
                    replace HB := a_ (hb)
                    have HO215 := a_ (ho)
                    clear HO211
                    clear ho hb hg hat
                    obtain ⟨Ao32, co32, eo32⟩ := Kd.R_slice HO215.out
                    (first | subst eo32 | (injection eo32 with f1_ f2_ f3_; have f4_ := f1_.symm; have f5_ := f3_.symm; clear f1_ f2_ f3_; subst f4_; subst f5_))
                    refine hK.out _ _ ⟨((HB.out.cell (World.block_lt_of_cell? _ _ hw208_0)).trans hw208_0), ((HB.out.cell (World.block_lt_of_cell? _ _ hw212_0)).trans hw212_0)⟩ (fun hHeld => ?_)
                    clear hK K
                    refine nm_ ?_
                    refine one_ (i := 11) (N := some 67) #[true, true, true, true, true, true, true, true, true, true, true, true, false, false] rfl rfl (one_of HT_.out (by kernel_rfl)) (by decide) (fun K hK => ?_)
                    refine value_ (w1 := ?_) (v := ?_) (by rfl) rfl ?_ ?_
                    rotate_left 2
                    ·go_simp
                     constructor
                     ·rfl
                     ·rfl
                    refine hK.out _ _ ⟨(World.cell?_alloc_lt _ _ _ (World.block_lt_of_cell? _ _ (((HB.out.cell (World.block_lt_of_cell? _ _ hw208_0)).trans hw208_0)))).trans (((HB.out.cell (World.block_lt_of_cell? _ _ hw208_0)).trans hw208_0)), (World.cell?_alloc_lt _ _ _ (World.block_lt_of_cell? _ _ (((HB.out.cell (World.block_lt_of_cell? _ _ hw212_0)).trans hw212_0)))).trans (((HB.out.cell (World.block_lt_of_cell? _ _ hw212_0)).trans hw212_0))⟩ (fun hHeld => ?_)
                    clear hK K
                    refine nm_ ?_
                    refine one_ (i := 12) (N := some 68) #[true, true, true, true, true, true, true, true, true, true, true, true, true, false] rfl rfl (one_of HT_.out (by kernel_rfl)) (by decide) (fun K hK => ?_)
                    refine Kd.S_append_step (Kd.slice 64 k64) (w0 := w) w.heap.size (by rfl) (.tmp 56) (.tmp 67) 96 61 (.slice none 0 0) 24 rfl Tryz.underlying96 info61 rfl (by decide) (by omega) u10 x10_2 y213 [.slice Ao32 y213.length co32] (fun _ => True) (fun k_ => some k_ = (.slice Ao32 y213.length co32 : Value).ownBlock) rfl rfl ?aP (fun k_ hk_ => ((Kd.R_mono (ok' := fun k_ => ((fun _ => True)) k_ ∧ some k_ ≠ (u10 : Value).ownBlock) (Kd.R_apart' (HO215.out) (Kd.S_typed HO_10.out) (by decide)) (fun k_ hk => ⟨trivial, hk.2⟩))).1 k_ hk_.symm) ?aF ?aO ?aB ?aS ?aL ?_
                    (case aP => exact Kd.M_row (Kd.R_mono (Kd.R_tight rfl (Kd.R_mono (ok' := fun k_ => ((fun _ => True)) k_ ∧ some k_ ≠ (u10 : Value).ownBlock) (Kd.R_apart' (HO215.out) (Kd.S_typed HO_10.out) (by decide)) (fun k_ hk => ⟨trivial, hk.2⟩))) (fun _ h_ => h_)))
                    (case aB => exact z32_)
                    (case aF => exact (fun _ _ => trivial))
                    (case aO => exact (by (with_reducible repeat (first | apply Kd.S_alloc | apply Kd.S_drewN | apply Kd.S_drew)); exact Kd.S_mono HO_10.out (fun k_ hk => ⟨trivial, fun e_ => hk.2 e_⟩)))
                    (case aS => exact (below_size z32_))
                    (case aL => have := LMc27.out; omega)
                    intro v217 w31 ho hb hg hat
                    rw [← Ny216.out] at ho
                    replace HO_6 := a_ (Kd.R_after (ok := (fun k_ => nb_ k_ Ao32 y213.length co32)) (rc_ (h := by exact Kd.R_mono HO_6.out (fun _ hk => ⟨hk.2, hk.1⟩))) hg hat)
                    replace HB := a_ (hb)
                    have HO218 := a_ (ho)
                    clear HO215; clear HO_10
                    clear ho hb hg hat
                    refine hK.out _ _ ⟨((HB.out.cell (World.block_lt_of_cell? _ _ hw208_0)).trans hw208_0), ((HB.out.cell (World.block_lt_of_cell? _ _ hw212_0)).trans hw212_0)⟩ (fun hHeld => ?_)
                    clear hK K
                    refine nm_ ?_
                    refine pu_ (i := 13) (N := some 10) #[true, true, true, true, true, true, true, true, true, true, true, true, true, true] ?_
                    refine done_ (done_of HT_.out (by kernel_rfl)) ?_
                    try go_wp2
                    go_roundg k2
                    case measure => have := HK1.out; have := HK2.out; omega
                    case rel => exact ⟨(y216), (wrap64 (x11_2 + 1)), z76_, H', ⟨z77_⟩, ⟨z36_⟩, ⟨by (with_reducible repeat (first | apply Kd.S_alloc | apply Kd.S_drewN | apply Kd.S_drew)); exact HO218.out⟩, ⟨z32_⟩⟩
                   ·rw [if_neg c27] at H
                    exact absurd H (by simp)
                  ·rw [if_neg c26] at H
                   exact absurd H (by simp)
                 ·rw [if_neg c25] at H
                  exact absurd H (by simp)
                ·rw [if_neg c23] at H
                 exact absurd H (by simp)
               ·rw [if_neg c22] at H
                have c22b0 : decide (x11_2 < ((rd_L4 l0 (ji12)).length : Int)) = false := decide_eq_false c22
                clear c22
                by_cases c33 : x6_1.length < 5864062014805
                ·rw [if_pos c33] at H
                 have LMc33 := Aside0.mk c33
                 clear c33
                 obtain ⟨y219, hy219⟩ : ∃ y_ : List (List (List (S64))), y_ = (x6_1 ++ [x10_2]) := ⟨_, rfl⟩
                 replace H : (spec_l04Across.l0 k2 l0 a1 (l0.length : Int) y219 (wrap64 (x7_1 + 1))) = some r := rh_ hy219 H
                 have Ny219 := Aside0.mk hy219
                 clear hy219
                 have H' := Aside0.mk H
                 clear H
                 obtain ⟨Ao35, co35, eo35⟩ := Kd.S_slice HO_10.out
                 subst eo35
                 go_wp2_with (first | ((with_reducible refine gate_builtin (b := .append) (xs := #[.tmp 69, .tmp 71]) rfl ?_); at_builtin; refine Kd.R_append (Kd.slice 61 (Kd.slice 64 k64)) (w0 := w) w.heap.size rfl (.tmp 69) (.tmp 71) 95 96 (.slice none 0 0) 24 rfl Tryz.underlying95 info96 rfl (by decide) (by omega) u6 x6_1 x10_2 [.slice Ao35 x10_2.length co35] (fun _ => True) (fun k_ => ((fun _ => True)) k_ ∧ some k_ ≠ (u6 : Value).ownBlock) rfl rfl ?aP (fun _ hk => hk) ?aF ?aO ?aB ?aS ?aL ?_; (case aP => exact Kd.M_row (Kd.R_mono (Kd.R_apart' ((Kd.S_R HO_10.out)) (Kd.R_typed HO_6.out) (by decide)) (fun k_ hk => ⟨trivial, hk.2⟩))); (case aB => exact z32_); (case aF => exact (fun _ _ => trivial)); (case aO => exact (rc_ (h := by exact Kd.R_mono HO_6.out (fun _ hk => trivial)))); (case aS => exact (below_size z32_)); (case aL => have := LMc33.out; omega); intro v220 w34 ho hb hg hat; rw [← Ny219.out] at ho; replace HB := a_ (hb); have HO221 := a_ (ho); clear HO_10; clear HO_6; clear ho hb hg hat))
                 go_roundg k2
                 case measure => have := HK1.out; have := HK2.out; omega
                 case rel => exact ⟨(y219), (wrap64 (x7_1 + 1)), z76_, H', ⟨z77_⟩, ⟨by (with_reducible repeat (first | apply Kd.R_alloc | apply Kd.R_drewN | apply Kd.R_drew)); exact HO221.out⟩, ⟨z32_⟩⟩
                ·rw [if_neg c33] at H
                 exact absurd H (by simp)
            ·rw [if_neg c17] at H
             exact absurd H (by simp)
           ·rw [if_neg c16] at H
            exact absurd H (by simp)
          ·rw [if_neg c14] at H
           exact absurd H (by simp)
         ·rw [if_neg c13] at H
          exact absurd H (by simp)
        ·rw [if_neg c11] at H
         have c11b0 : (a1 == 84) = false := beq_eq_false_iff_ne.mpr c11
         have c11b1 : (a1 != 84) = true := bne_iff_ne.mpr c11
         obtain ⟨y222, hy222⟩ : ∃ y_ : List (List (S64)), y_ = (([] : List (List (S64)))) := ⟨_, rfl⟩
         replace H : (spec_l04Across.l101 k1 l0 a1 (l0.length : Int) x6_1 x7_1 (rd_L4 l0 (ji6)) (rd_L4 l0 x7_1) y222 0) = some r := rh_ hy222 H
         have Ny222 := Aside0.mk hy222
         clear hy222
         have H' := Aside0.mk H
         clear H
         try go_wp2
         replace HO_6 := a_ (Kd.R_drew HO_6.out)
         replace HB := a_ (below_drew1 HB.out)
         have p201 : 0 ≤ ((ji6) : Int) := of_decide_eq_true z75_
         have q201 : (ji6) < (l0.length : Int) := of_decide_eq_true z75_
         obtain ⟨ad201, A201_0, c201_0, e201, hx201_0, hl201_0, hi201_0⟩ := at_L4 HR0.out (ji6) p201 q201
         have hw201_0 := hx201_0
         cases e201
         replace hx201_0 := (HB.out.cell (World.block_lt_of_cell? _ _ hx201_0)).trans hx201_0
         have HR201_0 := Aside0.mk hi201_0
         have HC201_0 := Aside0.mk hl201_0
         clear hi201_0 hl201_0
         replace p201 := eq_true p201
         replace q201 := eq_true q201
         have p202 : 0 ≤ (x7_1 : Int) := of_decide_eq_true z75_
         have q202 : x7_1 < (l0.length : Int) := of_decide_eq_true z75_
         obtain ⟨ad202, A202_0, c202_0, e202, hx202_0, hl202_0, hi202_0⟩ := at_L4 HR0.out x7_1 p202 q202
         have hw202_0 := hx202_0
         obtain rfl : ad201 = ad202 := (by injection e202)
         replace hx202_0 := (HB.out.cell (World.block_lt_of_cell? _ _ hx202_0)).trans hx202_0
         have HR202_0 := Aside0.mk hi202_0
         have HC202_0 := Aside0.mk hl202_0
         clear hi202_0 hl202_0
         replace p202 := eq_true p202
         replace q202 := eq_true q202
         refine start_ (n := 13) (S := fun w' => w'.cell? (ad201.add ((ji6)).toNat) = some (.slice A201_0 (rd_L4 l0 (ji6)).length c201_0) ∧ w'.cell? (ad201.add (x7_1).toNat) = some (.slice A202_0 (rd_L4 l0 x7_1).length c202_0)) (ds := []) #[false, false, false, false, false, false, false, false, false, false, false, false, false] (by kernel_rfl) rfl rfl ⟨((HB.out.cell (World.block_lt_of_cell? _ _ hw201_0)).trans hw201_0), ((HB.out.cell (World.block_lt_of_cell? _ _ hw202_0)).trans hw202_0)⟩ (fun hHeld => ?_); refine with_tabW spec_l04Across.tab6 spec_l04Across.bits6 (fun HT_ HW_ => ?_)
         generalize wr.drew = w36 at HO_6 HB HR201_0 HR202_0 hx201_0 hx202_0 hHeld ⊢
         refine pu_ (i := 0) (N := some 21) #[true, false, false, false, false, false, false, false, false, false, false, false, false] ?_
         refine pu_ (i := 1) (N := some 22) #[true, true, false, false, false, false, false, false, false, false, false, false, false] ?_
         refine pu_ (i := 2) (N := some 23) #[true, true, true, false, false, false, false, false, false, false, false, false, false] ?_
         refine pu_ (i := 3) (N := some 24) #[true, true, true, true, false, false, false, false, false, false, false, false, false] ?_
         refine pu_ (i := 4) (N := some 25) #[true, true, true, true, true, false, false, false, false, false, false, false, false] ?_
         refine pu_ (i := 5) (N := some 26) #[true, true, true, true, true, true, false, false, false, false, false, false, false] ?_
         refine pu_ (i := 7) (N := some 28) #[true, true, true, true, true, true, false, true, false, false, false, false, false] ?_
         refine pu_ (i := 8) (N := some 29) #[true, true, true, true, true, true, false, true, true, false, false, false, false] ?_
         refine pu_ (i := 9) (N := some 30) #[true, true, true, true, true, true, false, true, true, true, false, false, false] ?_
         refine tk2_ (i := 6) (N := some 27) #[true, true, true, true, true, true, true, true, true, true, false, false, false] hHeld ?_
         refine pu_ (i := 11) (N := some 8) #[true, true, true, true, true, true, true, true, true, true, false, true, false] ?_
         refine tk2_ (i := 10) (N := some 31) #[true, true, true, true, true, true, true, true, true, true, true, true, false] hHeld ?_
         refine pu_ (i := 12) (N := some 9) #[true, true, true, true, true, true, true, true, true, true, true, true, true] ?_
         refine done_ (done_of HT_.out (by kernel_rfl)) ?_
         try go_wp2_with (first | ((with_reducible refine gate_dst (N := 49) rfl ?_); refine Kd.S_lit (Kd.slice 64 k64) _ 61 ?hg (N := 49) ?hd (xs := ([] : List (List (S64)))) (inner := []) (ok := fun _ => True) (okp := fun _ => True) ?hr ?hp (fun _ hk => hk) trivial (Below.refl _ _) (Nat.le_refl _) (by simp) ?_; (case hd => rfl); (case hg => rfl); (case hr => first | (go_simp; done) | (go_simp; rfl)); (case hp => exact (Reps.none _ _)); intro v223 w37 ho38 hb hg_ hnew_; clear hg_ hnew_; (first | rw [← Ny222.out] at ho38 | (simp only [Int.reduceToNat] at ho38; rw [← Ny222.out] at ho38)); replace HO_6 := a_ (Kd.R_elder' (ra_ HO_6.out) (Kd.S_base ho38) hb); have HO224 := a_ (Kd.S_lower ho38 (below_size z32_)); replace HB := a_ (below_step z32_ hb); clear hb ho38))
         go_loopg [10, 11] k1 (fun kq v10 v11 w' => ∃ (x10_2 : List (List (S64))) (x11_2 : Int), v11 = .int .i64 x11_2 ∧ Aside0 (spec_l04Across.l101 kq l0 a1 (l0.length : Int) x6_1 x7_1 (rd_L4 l0 (ji6)) (rd_L4 l0 x7_1) x10_2 x11_2 = some r) ∧ Aside0 (kq ≤ k1) ∧ Aside0 (Kd.R (Kd.slice 61 (Kd.slice 64 k64)) 96 w' w.heap.size (fun k_ => some k_ ≠ (v10 : Value).ownBlock) u6 x6_1) ∧ Aside0 (Kd.S (Kd.slice 64 k64) 61 w' w.heap.size (fun _ => True) v10 x10_2) ∧ Aside0 (Below w.heap.size w w'))
         case atStart => exact ⟨(y222), (0), z76_, H', ⟨Nat.le_refl _⟩, ⟨z36_⟩, ⟨by (with_reducible repeat (first | apply Kd.S_alloc | apply Kd.S_drewN | apply Kd.S_drew)); exact HO224.out⟩, ⟨z32_⟩⟩
         case round =>
          clear H'
          try clear c5b0; try clear c7b0; try clear c8b0; try clear c9b0; try clear c10b0; try clear c11; try clear c11b0; try clear c11b1; try clear hx201_0; try clear hx202_0; try clear p201; try clear p202; try clear q201; try clear q202
          obtain ⟨x10_2, x11_2, rfl, HA, HK2, HO_6, HO_10, HB⟩ := hrel
          cases gk with
          | zero => exact absurd HA.out (by simp [spec_l04Across.l101])
          | succ k2 =>
           have H := HA.out
           clear HA
           simp only [spec_l04Across.l101] at H
           by_cases c39 : x11_2 < ((rd_L4 l0 (ji6)).length : Int)
           ·rw [if_pos c39] at H
            have c39b0 : decide (x11_2 < ((rd_L4 l0 (ji6)).length : Int)) = true := decide_eq_true c39
            clear c39
            by_cases c40 : 0 ≤ x11_2
            ·rw [if_pos c40] at H
             have c40b0 : decide (0 ≤ x11_2) = true := decide_eq_true c40
             clear c40
             replace H := Option.bind_eq_some_iff.mp H
             obtain ⟨t226, A410, H⟩ := H
             replace H : (if x11_2 < ((rd_L4 l0 x7_1).length : Int) then (if t226.length + (rd_L3 (rd_L4 l0 x7_1) x11_2).length < 5864062014805 then (if x10_2.length < 5864062014805 then (spec_l04Across.l101 k2 l0 a1 (l0.length : Int) x6_1 x7_1 (rd_L4 l0 (ji6)) (rd_L4 l0 x7_1) (x10_2 ++ [(t226 ++ (rd_L3 (rd_L4 l0 x7_1) x11_2))]) (wrap64 (x11_2 + 1))) else (none)) else (none)) else (none)) = some r := H
             have A41 := Aside0.mk A410
             clear A410
             by_cases c42 : x11_2 < ((rd_L4 l0 x7_1).length : Int)
             ·rw [if_pos c42] at H
              have c42b0 : decide (x11_2 < ((rd_L4 l0 x7_1).length : Int)) = true := decide_eq_true c42
              clear c42
              by_cases c43 : t226.length + (rd_L3 (rd_L4 l0 x7_1) x11_2).length < 5864062014805
              ·rw [if_pos c43] at H
               have LMc43 := Aside0.mk c43
               clear c43
               obtain ⟨y230, hy230⟩ : ∃ y_ : List (S64), y_ = (t226 ++ (rd_L3 (rd_L4 l0 x7_1) x11_2)) := ⟨_, rfl⟩
               replace H : (if x10_2.length < 5864062014805 then (spec_l04Across.l101 k2 l0 a1 (l0.length : Int) x6_1 x7_1 (rd_L4 l0 (ji6)) (rd_L4 l0 x7_1) (x10_2 ++ [y230]) (wrap64 (x11_2 + 1))) else (none)) = some r := rh_ hy230 H
               have Ny230 := Aside0.mk hy230
               clear hy230
               by_cases c44 : x10_2.length < 5864062014805
               ·rw [if_pos c44] at H
                have LMc44 := Aside0.mk c44
                clear c44
                obtain ⟨y233, hy233⟩ : ∃ y_ : List (List (S64)), y_ = (x10_2 ++ [y230]) := ⟨_, rfl⟩
                replace H : (spec_l04Across.l101 k2 l0 a1 (l0.length : Int) x6_1 x7_1 (rd_L4 l0 (ji6)) (rd_L4 l0 x7_1) y233 (wrap64 (x11_2 + 1))) = some r := rh_ hy233 H
                have Ny233 := Aside0.mk hy233
                clear hy233
                have H' := Aside0.mk H
                clear H
                try go_wp2
                replace HO_6 := a_ (Kd.R_drew HO_6.out)
                replace HO_10 := a_ (Kd.S_drew HO_10.out)
                replace HB := a_ (below_drew1 HB.out)
                have p225 : 0 ≤ (x11_2 : Int) := of_decide_eq_true z75_
                have q225 : x11_2 < ((rd_L4 l0 (ji6)).length : Int) := of_decide_eq_true z75_
                obtain ⟨ad225, A225_0, c225_0, e225, hx225_0, hl225_0, hi225_0⟩ := at_L3 HR201_0.out x11_2 p225 q225
                have hw225_0 := hx225_0
                cases e225
                replace hx225_0 := (HB.out.cell (World.block_lt_of_cell? _ _ hx225_0)).trans hx225_0
                have HR225_0 := Aside0.mk hi225_0
                have HC225_0 := Aside0.mk hl225_0
                clear hi225_0 hl225_0
                replace p225 := eq_true p225
                replace q225 := eq_true q225
                have p229 : 0 ≤ (x11_2 : Int) := of_decide_eq_true z75_
                have q229 : x11_2 < ((rd_L4 l0 x7_1).length : Int) := of_decide_eq_true z75_
                obtain ⟨ad229, A229_0, c229_0, e229, hx229_0, hl229_0, hi229_0⟩ := at_L3 HR202_0.out x11_2 p229 q229
                have hw229_0 := hx229_0
                cases e229
                replace hx229_0 := (HB.out.cell (World.block_lt_of_cell? _ _ hx229_0)).trans hx229_0
                have HR229_0 := Aside0.mk hi229_0
                have HC229_0 := Aside0.mk hl229_0
                clear hi229_0 hl229_0
                replace p229 := eq_true p229
                replace q229 := eq_true q229
                refine start_ (n := 14) (S := fun w' => w'.cell? (ad225.add (x11_2).toNat) = some (.slice A225_0 (rd_L3 (rd_L4 l0 (ji6)) x11_2).length c225_0) ∧ w'.cell? (ad229.add (x11_2).toNat) = some (.slice A229_0 (rd_L3 (rd_L4 l0 x7_1) x11_2).length c229_0)) (ds := []) #[false, false, false, false, false, false, false, false, false, false, false, false, false, false] (by kernel_rfl) rfl rfl ⟨((HB.out.cell (World.block_lt_of_cell? _ _ hw225_0)).trans hw225_0), ((HB.out.cell (World.block_lt_of_cell? _ _ hw229_0)).trans hw229_0)⟩ (fun hHeld => ?_); refine with_tabW spec_l04Across.tab13 spec_l04Across.bits13 (fun HT_ HW_ => ?_)
                generalize wr.drew = w45 at HO_6 HO_10 HB HR225_0 HR229_0 hx225_0 hx229_0 hHeld ⊢
                refine pu_ (i := 0) (N := some 56) #[true, false, false, false, false, false, false, false, false, false, false, false, false, false] ?_
                refine pu_ (i := 1) (N := some 57) #[true, true, false, false, false, false, false, false, false, false, false, false, false, false] ?_
                refine pu_ (i := 2) (N := some 58) #[true, true, true, false, false, false, false, false, false, false, false, false, false, false] ?_
                refine pu_ (i := 3) (N := some 59) #[true, true, true, true, false, false, false, false, false, false, false, false, false, false] ?_
                refine pu_ (i := 6) (N := some 62) #[true, true, true, true, false, false, true, false, false, false, false, false, false, false] ?_
                refine pu_ (i := 7) (N := some 63) #[true, true, true, true, false, false, true, true, false, false, false, false, false, false] ?_
                refine pu_ (i := 8) (N := some 64) #[true, true, true, true, false, false, true, true, true, false, false, false, false, false] ?_
                refine tk2_ (i := 4) (N := some 60) #[true, true, true, true, true, false, true, true, true, false, false, false, false, false] hHeld ?_
                refine tk2_ (i := 9) (N := some 65) #[true, true, true, true, true, false, true, true, true, true, false, false, false, false] hHeld ?_
                refine one_ (i := 5) (N := some 61) #[true, true, true, true, true, true, true, true, true, true, false, false, false, false] rfl rfl (one_of HT_.out (by kernel_rfl)) (by decide) (fun K hK => ?_)
                refine goes_ Tryz.func115 (by kernel_rfl) rfl #[.slice A225_0 (rd_L3 (rd_L4 l0 (ji6)) x11_2).length c225_0, .bool false] (by rfl) rfl rfl (by (try simp only [List.map_toArray, List.map_cons, List.map_nil]); first | done | (simp only [hji6]; rfl) | rfl | (simp only [List.length_drop, List.length_take]; rfl)) ?_
                with_reducible refine (spec_l04Turn.calls _ _ (rd_L3 (rd_L4 l0 (ji6)) x11_2) false t226 _ ?side1 ?side2 A41.out).mono ?_
                (case side1 => exact kc_ (Kd.C_below HR225_0.out HB.out))
                (case side2 => exact HC225_0.out)
                rintro e w46 ⟨v227, rfl, ho0, hb⟩
                refine ⟨_, rfl, ?_⟩
                replace HO_6 := a_ (Kd.R_elder' (ra_ HO_6.out) (Kd.R_base ho0) hb)
                replace HO_10 := a_ (Kd.S_elder' z59_ (Kd.R_base ho0) hb)
                have HO228 := a_ (Kd.R_lower ho0 (below_size z32_))
                replace HB := a_ (below_step z32_ hb)
                (try clear hb)
                (try clear hb2)
                (try clear hk)
                (try clear hi)
                (try clear ho0)
                refine hK.out _ _ ⟨((HB.out.cell (World.block_lt_of_cell? _ _ hw225_0)).trans hw225_0), ((HB.out.cell (World.block_lt_of_cell? _ _ hw229_0)).trans hw229_0)⟩ (fun hHeld => ?_)
                clear hK K
                refine nm_ ?_
                refine one_ (i := 10) (N := some 66) #[true, true, true, true, true, true, true, true, true, true, true, false, false, false] rfl rfl (one_of HT_.out (by kernel_rfl)) (by decide) (fun K hK => ?_)
                refine Kd.R_append_rows_step k64 (w0 := w) w.heap.size (by rfl) (.tmp 61) (.tmp 65) 61 64 (.agg #[(.int .i64 0), (.int .i64 0), (.bool false), (.bool false)]) 24 rfl Tryz.underlying61 info64 rfl (by decide) (by omega) v227 t226 (rd_L3 (rd_L4 l0 x7_1) x11_2) _ _ _ (fun _ => True) (fun _ => False) rfl rfl ?aO ?aR (fun _ _ h => h) (fun _ h => h.elim) ?aF ?aB ?aS ?aL ?_
                (case aR => exact kc_ (Kd.C_below HR229_0.out HB.out))
                (case aB => exact z32_)
                (case aF => exact (fun _ _ => trivial))
                (case aO => exact (ra_ HO228.out))
                (case aS => exact (below_size z32_))
                (case aL => have := LMc43.out; omega)
                intro v231 w47 ho hb hg hat
                rw [← Ny230.out] at ho
                replace HO_6 := a_ (Kd.R_after (ok := (fun k_ => some k_ ≠ (u10 : Value).ownBlock)) (ra_ HO_6.out) hg hat)
                replace HO_10 := a_ (Kd.S_after (ok := (fun _ => True)) z59_ hg hat)
                replace HB := a_ (hb)
                have HO232 := a_ (ho)
                clear HO228
                clear ho hb hg hat
                obtain ⟨Ao49, co49, eo49⟩ := Kd.R_slice HO232.out
                (first | subst eo49 | (injection eo49 with f1_ f2_ f3_; have f4_ := f1_.symm; have f5_ := f3_.symm; clear f1_ f2_ f3_; subst f4_; subst f5_))
                refine hK.out _ _ ⟨((HB.out.cell (World.block_lt_of_cell? _ _ hw225_0)).trans hw225_0), ((HB.out.cell (World.block_lt_of_cell? _ _ hw229_0)).trans hw229_0)⟩ (fun hHeld => ?_)
                clear hK K
                refine nm_ ?_
                refine one_ (i := 11) (N := some 67) #[true, true, true, true, true, true, true, true, true, true, true, true, false, false] rfl rfl (one_of HT_.out (by kernel_rfl)) (by decide) (fun K hK => ?_)
                refine value_ (w1 := ?_) (v := ?_) (by rfl) rfl ?_ ?_
                rotate_left 2
                ·go_simp
                 constructor
                 ·rfl
                 ·rfl
                refine hK.out _ _ ⟨(World.cell?_alloc_lt _ _ _ (World.block_lt_of_cell? _ _ (((HB.out.cell (World.block_lt_of_cell? _ _ hw225_0)).trans hw225_0)))).trans (((HB.out.cell (World.block_lt_of_cell? _ _ hw225_0)).trans hw225_0)), (World.cell?_alloc_lt _ _ _ (World.block_lt_of_cell? _ _ (((HB.out.cell (World.block_lt_of_cell? _ _ hw229_0)).trans hw229_0)))).trans (((HB.out.cell (World.block_lt_of_cell? _ _ hw229_0)).trans hw229_0))⟩ (fun hHeld => ?_)
                clear hK K
                refine nm_ ?_
                refine one_ (i := 12) (N := some 68) #[true, true, true, true, true, true, true, true, true, true, true, true, true, false] rfl rfl (one_of HT_.out (by kernel_rfl)) (by decide) (fun K hK => ?_)
                refine Kd.S_append_step (Kd.slice 64 k64) (w0 := w) w.heap.size (by rfl) (.tmp 56) (.tmp 67) 96 61 (.slice none 0 0) 24 rfl Tryz.underlying96 info61 rfl (by decide) (by omega) u10 x10_2 y230 [.slice Ao49 y230.length co49] (fun _ => True) (fun k_ => some k_ = (.slice Ao49 y230.length co49 : Value).ownBlock) rfl rfl ?aP (fun k_ hk_ => ((Kd.R_mono (ok' := fun k_ => ((fun _ => True)) k_ ∧ some k_ ≠ (u10 : Value).ownBlock) (Kd.R_apart' (HO232.out) (Kd.S_typed HO_10.out) (by decide)) (fun k_ hk => ⟨trivial, hk.2⟩))).1 k_ hk_.symm) ?aF ?aO ?aB ?aS ?aL ?_
                (case aP => exact Kd.M_row (Kd.R_mono (Kd.R_tight rfl (Kd.R_mono (ok' := fun k_ => ((fun _ => True)) k_ ∧ some k_ ≠ (u10 : Value).ownBlock) (Kd.R_apart' (HO232.out) (Kd.S_typed HO_10.out) (by decide)) (fun k_ hk => ⟨trivial, hk.2⟩))) (fun _ h_ => h_)))
                (case aB => exact z32_)
                (case aF => exact (fun _ _ => trivial))
                (case aO => exact (by (with_reducible repeat (first | apply Kd.S_alloc | apply Kd.S_drewN | apply Kd.S_drew)); exact Kd.S_mono HO_10.out (fun k_ hk => ⟨trivial, fun e_ => hk.2 e_⟩)))
                (case aS => exact (below_size z32_))
                (case aL => have := LMc44.out; omega)
                intro v234 w48 ho hb hg hat
                rw [← Ny233.out] at ho
                replace HO_6 := a_ (Kd.R_after (ok := (fun k_ => nb_ k_ Ao49 y230.length co49)) (rc_ (h := by exact Kd.R_mono HO_6.out (fun _ hk => ⟨hk.2, hk.1⟩))) hg hat)
                replace HB := a_ (hb)
                have HO235 := a_ (ho)
                clear HO232; clear HO_10
                clear ho hb hg hat
                refine hK.out _ _ ⟨((HB.out.cell (World.block_lt_of_cell? _ _ hw225_0)).trans hw225_0), ((HB.out.cell (World.block_lt_of_cell? _ _ hw229_0)).trans hw229_0)⟩ (fun hHeld => ?_)
                clear hK K
                refine nm_ ?_
                refine pu_ (i := 13) (N := some 10) #[true, true, true, true, true, true, true, true, true, true, true, true, true, true] ?_
                refine done_ (done_of HT_.out (by kernel_rfl)) ?_
                try go_wp2
                go_roundg k2
                case measure => have := HK1.out; have := HK2.out; omega
                case rel => exact ⟨(y233), (wrap64 (x11_2 + 1)), z76_, H', ⟨z77_⟩, ⟨z36_⟩, ⟨by (with_reducible repeat (first | apply Kd.S_alloc | apply Kd.S_drewN | apply Kd.S_drew)); exact HO235.out⟩, ⟨z32_⟩⟩
               ·rw [if_neg c44] at H
                exact absurd H (by simp)
              ·rw [if_neg c43] at H
               exact absurd H (by simp)
             ·rw [if_neg c42] at H
              exact absurd H (by simp)
            ·rw [if_neg c40] at H
             exact absurd H (by simp)
           ·rw [if_neg c39] at H
            have c39b0 : decide (x11_2 < ((rd_L4 l0 (ji6)).length : Int)) = false := decide_eq_false c39
            clear c39
            by_cases c50 : x6_1.length < 5864062014805
            ·rw [if_pos c50] at H
             have LMc50 := Aside0.mk c50
             clear c50
             obtain ⟨y236, hy236⟩ : ∃ y_ : List (List (List (S64))), y_ = (x6_1 ++ [x10_2]) := ⟨_, rfl⟩
             replace H : (spec_l04Across.l0 k2 l0 a1 (l0.length : Int) y236 (wrap64 (x7_1 + 1))) = some r := rh_ hy236 H
             have Ny236 := Aside0.mk hy236
             clear hy236
             have H' := Aside0.mk H
             clear H
             obtain ⟨Ao52, co52, eo52⟩ := Kd.S_slice HO_10.out
             subst eo52
             go_wp2_with (first | ((with_reducible refine gate_builtin (b := .append) (xs := #[.tmp 69, .tmp 71]) rfl ?_); at_builtin; refine Kd.R_append (Kd.slice 61 (Kd.slice 64 k64)) (w0 := w) w.heap.size rfl (.tmp 69) (.tmp 71) 95 96 (.slice none 0 0) 24 rfl Tryz.underlying95 info96 rfl (by decide) (by omega) u6 x6_1 x10_2 [.slice Ao52 x10_2.length co52] (fun _ => True) (fun k_ => ((fun _ => True)) k_ ∧ some k_ ≠ (u6 : Value).ownBlock) rfl rfl ?aP (fun _ hk => hk) ?aF ?aO ?aB ?aS ?aL ?_; (case aP => exact Kd.M_row (Kd.R_mono (Kd.R_apart' ((Kd.S_R HO_10.out)) (Kd.R_typed HO_6.out) (by decide)) (fun k_ hk => ⟨trivial, hk.2⟩))); (case aB => exact z32_); (case aF => exact (fun _ _ => trivial)); (case aO => exact (rc_ (h := by exact Kd.R_mono HO_6.out (fun _ hk => trivial)))); (case aS => exact (below_size z32_)); (case aL => have := LMc50.out; omega); intro v237 w51 ho hb hg hat; rw [← Ny236.out] at ho; replace HB := a_ (hb); have HO238 := a_ (ho); clear HO_10; clear HO_6; clear ho hb hg hat))
             go_roundg k2
             case measure => have := HK1.out; have := HK2.out; omega
             case rel => exact ⟨(y236), (wrap64 (x7_1 + 1)), z76_, H', ⟨z77_⟩, ⟨by (with_reducible repeat (first | apply Kd.R_alloc | apply Kd.R_drewN | apply Kd.R_drew)); exact HO238.out⟩, ⟨z32_⟩⟩
            ·rw [if_neg c50] at H
             exact absurd H (by simp)
       ·rw [if_neg c10] at H
        exact absurd H (by simp)
      ·rw [if_neg c9] at H
       exact absurd H (by simp)
     ·rw [if_neg c8] at H
      exact absurd H (by simp)
    ·rw [if_neg c7] at H
     exact absurd H (by simp)
   ·rw [if_neg c5] at H
    have c5b0 : decide (x7_1 < (wrap64 (((l0.length : Int) / 2)))) = false := decide_eq_false c5
    clear c5
    obtain rfl := Option.some.inj H
    go_wp2
    go_ret
    exact ⟨_, z33_, z64_, z32_⟩

end Go.Proofs.YtkpidjmhdagkfaaGreatDoor.QFnExactIsRightForm
-- halved
