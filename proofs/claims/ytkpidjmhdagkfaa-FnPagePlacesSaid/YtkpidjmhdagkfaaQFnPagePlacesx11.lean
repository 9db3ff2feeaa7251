-- Written by own_print.py of this session's repo over the kit's print (its output, turned at some places).
import Derived.Test.YtkpidjmhdagkfaaQFnPagePlacesx0
import Derived.Test.YtkpidjmhdagkfaaQFnPagePlacesx9
namespace Go.Proofs.Ytkpidjmhdagkfaa.QFnPagePlaces
open Go.RowKit Go.Proofs.YtkpidjmhdagkfaaW.PrintWords Go.Proofs.YtkpidjmhdagkfaaW.PrintLast Go.Proofs.YtkpidjmhdagkfaaW.PrintMore
attribute [local go_sem] max2_int min2_int max_two min_two max_three min_three max_four min_four   -- for this text's walks alone
set_option linter.unusedVariables false
set_option linter.unusedSimpArgs false

/-! ### spec_l04Across: function 108 -/
mutual
def spec_l04Across.l0 : Nat → List (List (List (S102))) → Int → Int → List (List (List (S102))) → Int → Option ((List (List (List (S102)))))
 | 0, _, _, _, _, _ => none
 | k + 1, x0, x1, x5, x6, x7 => if x7 < (wrap64 (Int.tdiv x5 2)) then (if 0 ≤ (wrap64 ((wrap64 (x5 - 1)) - x7)) then (if (wrap64 ((wrap64 (x5 - 1)) - x7)) < (x0.length : Int) then (if 0 ≤ x7 then (if x7 < (x0.length : Int) then (if x1 = 84 then (if 0 ≤ (wrap64 ((wrap64 ((wrap64 (Int.tdiv x5 2)) - 1)) - x7)) then (if (wrap64 ((wrap64 ((wrap64 (Int.tdiv x5 2)) - 1)) - x7)) < (x0.length : Int) then (if 0 ≤ (wrap64 ((wrap64 (Int.tdiv x5 2)) + x7)) then (if (wrap64 ((wrap64 (Int.tdiv x5 2)) + x7)) < (x0.length : Int) then (spec_l04Across.l1 k x0 x1 x5 x6 x7 (rd_L6 x0 (wrap64 ((wrap64 ((wrap64 (Int.tdiv x5 2)) - 1)) - x7))) (rd_L6 x0 (wrap64 ((wrap64 (Int.tdiv x5 2)) + x7))) (([] : List (List (S102)))) 0) else (none)) else (none)) else (none)) else (none)) else (spec_l04Across.l101 k x0 x1 x5 x6 x7 (rd_L6 x0 (wrap64 ((wrap64 (x5 - 1)) - x7))) (rd_L6 x0 x7) (([] : List (List (S102)))) 0)) else (none)) else (none)) else (none)) else (none)) else (some x6)
def spec_l04Across.l1 : Nat → List (List (List (S102))) → Int → Int → List (List (List (S102))) → Int → List (List (S102)) → List (List (S102)) → List (List (S102)) → Int → Option ((List (List (List (S102)))))
 | 0, _, _, _, _, _, _, _, _, _ => none
 | k + 1, x0, x1, x5, x6, x7, x8, x9, x10, x11 => if x11 < (x8.length : Int) then (if 0 ≤ x11 then ((spec_l04Turn.f (rd_L5 x8 x11) false).bind fun t334 => (if x11 < (x9.length : Int) then (if t334.length + (rd_L5 x9 x11).length < 5864062014805 then (if x10.length < 5864062014805 then (spec_l04Across.l1 k x0 x1 x5 x6 x7 x8 x9 (x10 ++ [(t334 ++ (rd_L5 x9 x11))]) (wrap64 (x11 + 1))) else (none)) else (none)) else (none))) else (none)) else (if x6.length < 5864062014805 then (spec_l04Across.l0 k x0 x1 x5 (x6 ++ [x10]) (wrap64 (x7 + 1))) else (none))
def spec_l04Across.l101 : Nat → List (List (List (S102))) → Int → Int → List (List (List (S102))) → Int → List (List (S102)) → List (List (S102)) → List (List (S102)) → Int → Option ((List (List (List (S102)))))
 | 0, _, _, _, _, _, _, _, _, _ => none
 | k + 1, x0, x1, x5, x6, x7, x8, x9, x10, x11 => if x11 < (x8.length : Int) then (if 0 ≤ x11 then ((spec_l04Turn.f (rd_L5 x8 x11) false).bind fun t351 => (if x11 < (x9.length : Int) then (if t351.length + (rd_L5 x9 x11).length < 5864062014805 then (if x10.length < 5864062014805 then (spec_l04Across.l101 k x0 x1 x5 x6 x7 x8 x9 (x10 ++ [(t351 ++ (rd_L5 x9 x11))]) (wrap64 (x11 + 1))) else (none)) else (none)) else (none))) else (none)) else (if x6.length < 5864062014805 then (spec_l04Across.l0 k x0 x1 x5 (x6 ++ [x10]) (wrap64 (x7 + 1))) else (none))
end
def spec_l04Across.f (k : Nat) (l0 : List (List (List (S102)))) (a1 : Int) : Option ((List (List (List (S102))))) := spec_l04Across.l0 k l0 a1 (l0.length : Int) (([] : List (List (List (S102))))) 0
theorem spec_l04Across.mono_l : ∀ k, (∀ y0 y1 y2 y3 y4, LeO (spec_l04Across.l0 k y0 y1 y2 y3 y4) (spec_l04Across.l0 (k + 1) y0 y1 y2 y3 y4)) ∧ (∀ y0 y1 y2 y3 y4 y5 y6 y7 y8, LeO (spec_l04Across.l1 k y0 y1 y2 y3 y4 y5 y6 y7 y8) (spec_l04Across.l1 (k + 1) y0 y1 y2 y3 y4 y5 y6 y7 y8)) ∧ (∀ y0 y1 y2 y3 y4 y5 y6 y7 y8, LeO (spec_l04Across.l101 k y0 y1 y2 y3 y4 y5 y6 y7 y8) (spec_l04Across.l101 (k + 1) y0 y1 y2 y3 y4 y5 y6 y7 y8))
 | 0 => ⟨fun _ _ _ _ _ r h => by simp [spec_l04Across.l0] at h, fun _ _ _ _ _ _ _ _ _ r h => by simp [spec_l04Across.l1] at h, fun _ _ _ _ _ _ _ _ _ r h => by simp [spec_l04Across.l101] at h⟩
 | k + 1 => by
  obtain ⟨ih0, ih1, ih2⟩ := spec_l04Across.mono_l k
  refine ⟨?_, ?_, ?_⟩
  ·intro y0 y1 y2 y3 y4
   unfold spec_l04Across.l0
   repeat' first
   | (with_reducible exact ih0 _ _ _ _ _)
   | (with_reducible exact ih1 _ _ _ _ _ _ _ _ _)
   | (with_reducible exact ih2 _ _ _ _ _ _ _ _ _)
   | (with_reducible exact LeO.refl _)
   | (with_reducible exact LeO.none _)
   | (with_reducible refine LeO.ite ?_ ?_)
   | (with_reducible refine LeO.bind ?_ (fun _ => ?_))
   | exact ih0 _ _ _ _ _
   | exact ih1 _ _ _ _ _ _ _ _ _
   | exact ih2 _ _ _ _ _ _ _ _ _
   | exact LeO.none _
   | refine LeO.ite ?_ ?_
   | refine LeO.bind ?_ (fun _ => ?_)
  ·intro y0 y1 y2 y3 y4 y5 y6 y7 y8
   unfold spec_l04Across.l1
   repeat' first
   | (with_reducible exact ih0 _ _ _ _ _)
   | (with_reducible exact ih1 _ _ _ _ _ _ _ _ _)
   | (with_reducible exact ih2 _ _ _ _ _ _ _ _ _)
   | (with_reducible exact LeO.refl _)
   | (with_reducible exact LeO.none _)
   | (with_reducible refine LeO.ite ?_ ?_)
   | (with_reducible refine LeO.bind ?_ (fun _ => ?_))
   | exact ih0 _ _ _ _ _
   | exact ih1 _ _ _ _ _ _ _ _ _
   | exact ih2 _ _ _ _ _ _ _ _ _
   | exact LeO.none _
   | refine LeO.ite ?_ ?_
   | refine LeO.bind ?_ (fun _ => ?_)
  ·intro y0 y1 y2 y3 y4 y5 y6 y7 y8
   unfold spec_l04Across.l101
   repeat' first
   | (with_reducible exact ih0 _ _ _ _ _)
   | (with_reducible exact ih1 _ _ _ _ _ _ _ _ _)
   | (with_reducible exact ih2 _ _ _ _ _ _ _ _ _)
   | (with_reducible exact LeO.refl _)
   | (with_reducible exact LeO.none _)
   | (with_reducible refine LeO.ite ?_ ?_)
   | (with_reducible refine LeO.bind ?_ (fun _ => ?_))
   | exact ih0 _ _ _ _ _
   | exact ih1 _ _ _ _ _ _ _ _ _
   | exact ih2 _ _ _ _ _ _ _ _ _
   | exact LeO.none _
   | refine LeO.ite ?_ ?_
   | refine LeO.bind ?_ (fun _ => ?_)
theorem spec_l04Across.mono : ∀ a0 a1 k, LeO (spec_l04Across.f k a0 a1) (spec_l04Across.f (k + 1) a0 a1) := by
 intro a0 a1 k
 obtain ⟨ih0, ih1, ih2⟩ := spec_l04Across.mono_l k
 unfold spec_l04Across.f
 repeat' first
   | (with_reducible exact ih0 _ _ _ _ _)
   | (with_reducible exact ih1 _ _ _ _ _ _ _ _ _)
   | (with_reducible exact ih2 _ _ _ _ _ _ _ _ _)
   | (with_reducible exact LeO.refl _)
   | (with_reducible exact LeO.none _)
   | (with_reducible refine LeO.ite ?_ ?_)
   | (with_reducible refine LeO.bind ?_ (fun _ => ?_))
   | exact ih0 _ _ _ _ _
   | exact ih1 _ _ _ _ _ _ _ _ _
   | exact ih2 _ _ _ _ _ _ _ _ _
   | exact LeO.none _
   | refine LeO.ite ?_ ?_
   | refine LeO.bind ?_ (fun _ => ?_)
def spec_l04Across.T6 : Bool × List (List Nat × List Nat) := (true, [([], []), ([], []), ([1], [1]), ([], []), ([2, 3], [2, 3]), ([0, 4], [0, 4]), ([5], [5]), ([], []), ([], []), ([7, 8], [7, 8]), ([9], [9]), ([6, 0, 1, 2, 3, 4, 5, 6], [6]), ([10, 11, 0, 1, 2, 3, 4, 5, 6, 7, 8, 9, 10, 11], [10])])
def spec_l04Across.B6 : List Nat := [0, 0, 2, 0, 14, 31, 63, 0, 0, 384, 896, 127, 4095]
theorem spec_l04Across.tab6 : rtab .any (opsOf Try.f108 6) = spec_l04Across.T6 := by kernel_rfl
theorem spec_l04Across.bits6 : waitsOk spec_l04Across.T6.2 spec_l04Across.B6 = true := by kernel_rfl
def spec_l04Across.T8 : Bool × List (List Nat × List Nat) := (true, [([], []), ([], []), ([1], [1]), ([2], [2]), ([], []), ([3, 4], [3, 4]), ([0, 5], [0, 5]), ([6], [6]), ([], []), ([], []), ([9], [9]), ([], []), ([10, 11], [10, 11]), ([8, 12], [8, 12]), ([13], [13]), ([7, 0, 1, 2, 3, 4, 5, 6, 7], [7]), ([14, 15, 0, 1, 2, 3, 4, 5, 6, 7, 8, 9, 10, 11, 12, 13, 14, 15], [14])])
def spec_l04Across.B8 : List Nat := [0, 0, 2, 6, 0, 30, 63, 127, 0, 0, 512, 0, 3584, 7936, 16128, 255, 65535]
theorem spec_l04Across.tab8 : rtab .any (opsOf Try.f108 8) = spec_l04Across.T8 := by kernel_rfl
theorem spec_l04Across.bits8 : waitsOk spec_l04Across.T8.2 spec_l04Across.B8 = true := by kernel_rfl
def spec_l04Across.T13 : Bool × List (List Nat × List Nat) := (true, [([], []), ([], []), ([], []), ([1, 2], [1, 2]), ([3], [3]), ([4], [4]), ([], []), ([], []), ([6, 7], [6, 7]), ([8], [8]), ([5, 9, 5], [5, 9]), ([10], [10]), ([0, 11, 10], [0, 11]), ([12, 12, 0, 1, 2, 3, 4, 5, 6, 7, 8, 9, 10, 11, 12], [0, 12])])
def spec_l04Across.B13 : List Nat := [0, 0, 0, 6, 14, 30, 0, 0, 192, 448, 1022, 2046, 4095, 8191]
theorem spec_l04Across.tab13 : rtab .any (opsOf Try.f108 13) = spec_l04Across.T13 := by kernel_rfl
theorem spec_l04Across.bits13 : waitsOk spec_l04Across.T13.2 spec_l04Across.B13 = true := by kernel_rfl
set_option maxHeartbeats 8000000 in
set_option maxRecDepth 100000 in
theorem spec_l04Across.calls (k : Nat) (A0 : Option Addr) (c0 : Nat) (l0 : List (List (List (S102)))) (a1 : Int) (r : List (List (List (S102)))) (w : World) (hr0 : Kd.C (Kd.slice 99 (Kd.slice 102 k102)) w A0 l0.length l0) (hc0 : l0.length ≤ c0) (h : spec_l04Across.f k l0 a1 = some r) :
  Calls Try.prog 108 #[.slice A0 l0.length c0, .int .u8 a1] w fun e w' => ∃ v0_ : Value, e = .returned (v0_) ∧ Kd.R (Kd.slice 99 (Kd.slice 102 k102)) 121 w' w.heap.size (fun _ => True) v0_ r ∧ Below w.heap.size w w' := by
 have HR0 := Aside0.mk hr0
 have HC0 := Aside0.mk hc0
 clear hr0 hc0
 have HB := a_ (Below.refl w.heap.size w)
 have H : (spec_l04Across.l0 k l0 a1 (l0.length : Int) (([] : List (List (List (S102))))) 0) = some r := h
 clear h
 obtain ⟨y323, hy323⟩ : ∃ y_ : List (List (List (S102))), y_ = (([] : List (List (List (S102))))) := ⟨_, rfl⟩
 replace H : (spec_l04Across.l0 k l0 a1 (l0.length : Int) y323 0) = some r := rh_ hy323 H
 have Ny323 := Aside0.mk hy323
 clear hy323
 have H' := Aside0.mk H
 clear H
 go_enter Try.func108, Try.ntmps108
 go_wp2_with (first | ((with_reducible refine gate_dst (N := 14) rfl ?_); refine Kd.R_lit (Kd.slice 99 (Kd.slice 102 k102)) _ 121 ?hg (N := 14) ?hd (xs := ([] : List (List (List (S102))))) (inner := []) (ok := fun _ => True) (okp := fun _ => True) ?hr ?hp (fun _ hk => hk) trivial (Below.refl _ _) (Nat.le_refl _) (by simp) ?_; (case hd => rfl); (case hg => rfl); (case hr => first | (go_simp; done) | (go_simp; rfl)); (case hp => exact (Reps.none _ _)); intro v324 w3 ho4 hb hg_ hnew_; clear hg_ hnew_; (first | rw [← Ny323.out] at ho4 | (simp only [Int.reduceToNat] at ho4; rw [← Ny323.out] at ho4)); have HO325 := a_ (Kd.R_lower ho4 (below_size z54_)); replace HB := a_ (below_step z54_ hb); clear hb ho4))
 go_loopg [6, 7] k (fun kq v6 v7 w' => ∃ (x6_1 : List (List (List (S102)))) (x7_1 : Int), v7 = .int .i64 x7_1 ∧ Aside0 (spec_l04Across.l0 kq l0 a1 (l0.length : Int) x6_1 x7_1 = some r) ∧ Aside0 (kq ≤ k) ∧ Aside0 (Kd.R (Kd.slice 99 (Kd.slice 102 k102)) 121 w' w.heap.size (fun _ => True) v6 x6_1) ∧ Aside0 (Below w.heap.size w w'))
 case atStart => exact ⟨(y323), (0), z91_, H', ⟨Nat.le_refl _⟩, ⟨by (with_reducible repeat (first | apply Kd.R_alloc | apply Kd.R_drewN | apply Kd.R_drew)); exact HO325.out⟩, ⟨z54_⟩⟩
 case round =>
  clear H'
  obtain ⟨x6_1, x7_1, rfl, HA, HK1, HO_6, HB⟩ := hrel
  cases gk with
  | zero => exact absurd HA.out (by simp [spec_l04Across.l0])
  | succ k1 =>
   have H := HA.out
   clear HA
   simp only [spec_l04Across.l0] at H
   (try simp only [show ∀ (n_ : Nat) (k_ : Int), Int.tdiv (n_ : Int) k_ = (n_ : Int) / k_ from fun n_ k_ => Int.tdiv_eq_ediv_of_nonneg (Int.natCast_nonneg n_), show ∀ (n_ : Nat) (k_ : Int), Int.tmod (n_ : Int) k_ = (n_ : Int) % k_ from fun n_ k_ => Int.tmod_eq_emod_of_nonneg (Int.natCast_nonneg n_)] at H)
   by_cases c5 : x7_1 < (wrap64 (((l0.length : Int) / 2)))
   ·rw [if_pos c5] at H
    have c5b0 : decide (x7_1 < (wrap64 (((l0.length : Int) / 2)))) = true := decide_eq_true c5
    clear c5
    obtain ⟨ji6, hji6⟩ : ∃ j_ : Int, (wrap64 ((wrap64 ((l0.length : Int) - 1)) - x7_1)) = j_ := ⟨_, rfl⟩
    replace H : (if 0 ≤ (ji6) then (if (ji6) < (l0.length : Int) then (if 0 ≤ x7_1 then (if x7_1 < (l0.length : Int) then (if a1 = 84 then (if 0 ≤ (wrap64 ((wrap64 ((wrap64 (((l0.length : Int) / 2))) - 1)) - x7_1)) then (if (wrap64 ((wrap64 ((wrap64 (((l0.length : Int) / 2))) - 1)) - x7_1)) < (l0.length : Int) then (if 0 ≤ (wrap64 ((wrap64 (((l0.length : Int) / 2))) + x7_1)) then (if (wrap64 ((wrap64 (((l0.length : Int) / 2))) + x7_1)) < (l0.length : Int) then (spec_l04Across.l1 k1 l0 a1 (l0.length : Int) x6_1 x7_1 (rd_L6 l0 (wrap64 ((wrap64 ((wrap64 (((l0.length : Int) / 2))) - 1)) - x7_1))) (rd_L6 l0 (wrap64 ((wrap64 (((l0.length : Int) / 2))) + x7_1))) (([] : List (List (S102)))) 0) else (none)) else (none)) else (none)) else (none)) else (spec_l04Across.l101 k1 l0 a1 (l0.length : Int) x6_1 x7_1 (rd_L6 l0 (ji6)) (rd_L6 l0 x7_1) (([] : List (List (S102)))) 0)) else (none)) else (none)) else (none)) else (none)) = some r := by first | (rw [hji6] at H; exact H) | (simp only [hji6] at H ⊢; exact H)
    have hji6w : (IntKind.i64.wrap ((wrap64 ((l0.length : Int) - 1)) - x7_1)) = ji6 := (i64_w _).trans hji6
    by_cases c7 : 0 ≤ (ji6)
    ·rw [if_pos c7] at H
     have c7b0 : decide (0 ≤ (ji6)) = true := decide_eq_true c7
     clear c7
     by_cases c8 : (ji6) < (l0.length : Int)
     ·rw [if_pos c8] at H
      have c8b0 : decide ((ji6) < (l0.length : Int)) = true := decide_eq_true c8
      clear c8
      by_cases c9 : 0 ≤ x7_1
      ·rw [if_pos c9] at H
       have c9b0 : decide (0 ≤ x7_1) = true := decide_eq_true c9
       clear c9
       by_cases c10 : x7_1 < (l0.length : Int)
       ·rw [if_pos c10] at H
        have c10b0 : decide (x7_1 < (l0.length : Int)) = true := decide_eq_true c10
        clear c10
        by_cases c11 : a1 = 84
        ·rw [if_pos c11] at H
         have c11b0 : (a1 == 84) = true := beq_iff_eq.mpr c11
         have c11b1 : (a1 != 84) = false := bne_eq_false_iff_eq.mpr c11
         clear c11
         obtain ⟨ji12, hji12⟩ : ∃ j_ : Int, (wrap64 ((wrap64 ((wrap64 (((l0.length : Int) / 2))) - 1)) - x7_1)) = j_ := ⟨_, rfl⟩
         replace H : (if 0 ≤ (ji12) then (if (ji12) < (l0.length : Int) then (if 0 ≤ (wrap64 ((wrap64 (((l0.length : Int) / 2))) + x7_1)) then (if (wrap64 ((wrap64 (((l0.length : Int) / 2))) + x7_1)) < (l0.length : Int) then (spec_l04Across.l1 k1 l0 a1 (l0.length : Int) x6_1 x7_1 (rd_L6 l0 (ji12)) (rd_L6 l0 (wrap64 ((wrap64 (((l0.length : Int) / 2))) + x7_1))) (([] : List (List (S102)))) 0) else (none)) else (none)) else (none)) else (none)) = some r := by first | (rw [hji12] at H; exact H) | (simp only [hji12] at H ⊢; exact H)
         have hji12w : (IntKind.i64.wrap ((wrap64 ((wrap64 (((l0.length : Int) / 2))) - 1)) - x7_1)) = ji12 := (i64_w _).trans hji12
         by_cases c13 : 0 ≤ (ji12)
         ·rw [if_pos c13] at H
          have c13b0 : decide (0 ≤ (ji12)) = true := decide_eq_true c13
          clear c13
          by_cases c14 : (ji12) < (l0.length : Int)
          ·rw [if_pos c14] at H
           have c14b0 : decide ((ji12) < (l0.length : Int)) = true := decide_eq_true c14
           clear c14
           obtain ⟨ji15, hji15⟩ : ∃ j_ : Int, (wrap64 ((wrap64 (((l0.length : Int) / 2))) + x7_1)) = j_ := ⟨_, rfl⟩
           replace H : (if 0 ≤ (ji15) then (if (ji15) < (l0.length : Int) then (spec_l04Across.l1 k1 l0 a1 (l0.length : Int) x6_1 x7_1 (rd_L6 l0 (ji12)) (rd_L6 l0 (ji15)) (([] : List (List (S102)))) 0) else (none)) else (none)) = some r := by first | (rw [hji15] at H; exact H) | (simp only [hji15] at H ⊢; exact H)
           have hji15w : (IntKind.i64.wrap ((wrap64 (((l0.length : Int) / 2))) + x7_1)) = ji15 := (i64_w _).trans hji15
           by_cases c16 : 0 ≤ (ji15)
           ·rw [if_pos c16] at H
            have c16b0 : decide (0 ≤ (ji15)) = true := decide_eq_true c16
            clear c16
            by_cases c17 : (ji15) < (l0.length : Int)
            ·rw [if_pos c17] at H
             have c17b0 : decide ((ji15) < (l0.length : Int)) = true := decide_eq_true c17
             clear c17
             obtain ⟨y330, hy330⟩ : ∃ y_ : List (List (S102)), y_ = (([] : List (List (S102)))) := ⟨_, rfl⟩
             replace H : (spec_l04Across.l1 k1 l0 a1 (l0.length : Int) x6_1 x7_1 (rd_L6 l0 (ji12)) (rd_L6 l0 (ji15)) y330 0) = some r := rh_ hy330 H
             have Ny330 := Aside0.mk hy330
             clear hy330
             have H' := Aside0.mk H
             clear H
             try go_wp2
             replace HO_6 := a_ (Kd.R_drew HO_6.out)
             replace HB := a_ (below_drew1 HB.out)
             have p326 : 0 ≤ ((ji6) : Int) := of_decide_eq_true z90_
             have q326 : (ji6) < (l0.length : Int) := of_decide_eq_true z90_
             obtain ⟨ad326, A326_0, c326_0, e326, hx326_0, hl326_0, hi326_0⟩ := at_L6 HR0.out (ji6) p326 q326
             have hw326_0 := hx326_0
             cases e326
             replace hx326_0 := (HB.out.cell (World.block_lt_of_cell? _ _ hx326_0)).trans hx326_0
             have HR326_0 := Aside0.mk hi326_0
             have HC326_0 := Aside0.mk hl326_0
             clear hi326_0 hl326_0
             replace p326 := eq_true p326
             replace q326 := eq_true q326
             have p327 : 0 ≤ (x7_1 : Int) := of_decide_eq_true z90_
             have q327 : x7_1 < (l0.length : Int) := of_decide_eq_true z90_
             obtain ⟨ad327, A327_0, c327_0, e327, hx327_0, hl327_0, hi327_0⟩ := at_L6 HR0.out x7_1 p327 q327
             have hw327_0 := hx327_0
             obtain rfl : ad326 = ad327 := (by injection e327)
             replace hx327_0 := (HB.out.cell (World.block_lt_of_cell? _ _ hx327_0)).trans hx327_0
             have HR327_0 := Aside0.mk hi327_0
             have HC327_0 := Aside0.mk hl327_0
             clear hi327_0 hl327_0
             replace p327 := eq_true p327
             replace q327 := eq_true q327
             refine start_ (n := 13) (S := fun w' => w'.cell? (ad326.add ((ji6)).toNat) = some (.slice A326_0 (rd_L6 l0 (ji6)).length c326_0) ∧ w'.cell? (ad326.add (x7_1).toNat) = some (.slice A327_0 (rd_L6 l0 x7_1).length c327_0)) (ds := []) #[false, false, false, false, false, false, false, false, false, false, false, false, false] (by kernel_rfl) rfl rfl ⟨((HB.out.cell (World.block_lt_of_cell? _ _ hw326_0)).trans hw326_0), ((HB.out.cell (World.block_lt_of_cell? _ _ hw327_0)).trans hw327_0)⟩ (fun hHeld => ?_); refine with_tabW spec_l04Across.tab6 spec_l04Across.bits6 (fun HT_ HW_ => ?_)
             generalize wr.drew = w18 at HO_6 HB HR326_0 HR327_0 hx326_0 hx327_0 hHeld ⊢
             refine pu_ (i := 0) (N := some 21) (bs_ 13 1) ?_
             refine pu_ (i := 1) (N := some 22) (bs_ 13 3) ?_
             refine pu_ (i := 2) (N := some 23) (bs_ 13 7) ?_
             refine pu_ (i := 3) (N := some 24) (bs_ 13 15) ?_
             refine pu_ (i := 4) (N := some 25) (bs_ 13 31) ?_
             refine pu_ (i := 5) (N := some 26) (bs_ 13 63) ?_
             refine pu_ (i := 7) (N := some 28) (bs_ 13 191) ?_
             refine pu_ (i := 8) (N := some 29) (bs_ 13 447) ?_
             refine pu_ (i := 9) (N := some 30) (bs_ 13 959) ?_
             refine tk2_ (i := 6) (N := some 27) (bs_ 13 1023) hHeld ?_
             refine pu_ (i := 11) (N := some 8) (bs_ 13 3071) ?_
             refine tk2_ (i := 10) (N := some 31) (bs_ 13 4095) hHeld ?_
             refine pu_ (i := 12) (N := some 9) (bs_ 13 8191) ?_
             refine done_ (done_of HT_.out (by kernel_rfl)) ?_
             try go_wp2
             replace HO_6 := a_ (Kd.R_drew HO_6.out)
             replace HB := a_ (below_drew1 HB.out)
             have p328 : 0 ≤ ((ji12) : Int) := of_decide_eq_true z90_
             have q328 : (ji12) < (l0.length : Int) := of_decide_eq_true z90_
             obtain ⟨ad328, A328_0, c328_0, e328, hx328_0, hl328_0, hi328_0⟩ := at_L6 HR0.out (ji12) p328 q328
             have hw328_0 := hx328_0
             obtain rfl : ad326 = ad328 := (by injection e328)
             replace hx328_0 := (HB.out.cell (World.block_lt_of_cell? _ _ hx328_0)).trans hx328_0
             have HR328_0 := Aside0.mk hi328_0
             have HC328_0 := Aside0.mk hl328_0
             clear hi328_0 hl328_0
             replace p328 := eq_true p328
             replace q328 := eq_true q328
             have p329 : 0 ≤ ((ji15) : Int) := of_decide_eq_true z90_
             have q329 : (ji15) < (l0.length : Int) := of_decide_eq_true z90_
             obtain ⟨ad329, A329_0, c329_0, e329, hx329_0, hl329_0, hi329_0⟩ := at_L6 HR0.out (ji15) p329 q329
             have hw329_0 := hx329_0
             obtain rfl : ad326 = ad329 := (by injection e329)
             replace hx329_0 := (HB.out.cell (World.block_lt_of_cell? _ _ hx329_0)).trans hx329_0
             have HR329_0 := Aside0.mk hi329_0
             have HC329_0 := Aside0.mk hl329_0
             clear hi329_0 hl329_0
             replace p329 := eq_true p329
             replace q329 := eq_true q329
             refine start_ (n := 17) (S := fun w' => w'.cell? (ad326.add ((ji12)).toNat) = some (.slice A328_0 (rd_L6 l0 (ji12)).length c328_0) ∧ w'.cell? (ad326.add ((ji15)).toNat) = some (.slice A329_0 (rd_L6 l0 (ji15)).length c329_0)) (ds := []) #[false, false, false, false, false, false, false, false, false, false, false, false, false, false, false, false, false] (by kernel_rfl) rfl rfl ⟨((HB.out.cell (World.block_lt_of_cell? _ _ hw328_0)).trans hw328_0), ((HB.out.cell (World.block_lt_of_cell? _ _ hw329_0)).trans hw329_0)⟩ (fun hHeld => ?_); refine with_tabW spec_l04Across.tab8 spec_l04Across.bits8 (fun HT_ HW_ => ?_)
             generalize w18.drew = w19 at HO_6 HB HR328_0 HR329_0 hx328_0 hx329_0 hHeld ⊢
             refine pu_ (i := 0) (N := some 34) (bs_ 17 1) ?_
             refine pu_ (i := 1) (N := some 35) (bs_ 17 3) ?_
             refine pu_ (i := 2) (N := some 36) (bs_ 17 7) ?_
             refine pu_ (i := 3) (N := some 37) (bs_ 17 15) ?_
             refine pu_ (i := 4) (N := some 38) (bs_ 17 31) ?_
             refine pu_ (i := 5) (N := some 39) (bs_ 17 63) ?_
             refine pu_ (i := 6) (N := some 40) (bs_ 17 127) ?_
             refine pu_ (i := 8) (N := some 42) (bs_ 17 383) ?_
             refine pu_ (i := 9) (N := some 43) (bs_ 17 895) ?_
             refine pu_ (i := 10) (N := some 44) (bs_ 17 1919) ?_
             refine pu_ (i := 11) (N := some 45) (bs_ 17 3967) ?_
             refine pu_ (i := 12) (N := some 46) (bs_ 17 8063) ?_
             refine pu_ (i := 13) (N := some 47) (bs_ 17 16255) ?_
             refine tk2_ (i := 7) (N := some 41) (bs_ 17 16383) hHeld ?_
             refine pu_ (i := 15) (N := some 8) (bs_ 17 49151) ?_
             refine tk2_ (i := 14) (N := some 48) (bs_ 17 65535) hHeld ?_
             refine pu_ (i := 16) (N := some 9) (bs_ 17 131071) ?_
             refine done_ (done_of HT_.out (by kernel_rfl)) ?_
             try go_wp2_with (first | ((with_reducible refine gate_dst (N := 49) rfl ?_); refine Kd.S_lit (Kd.slice 102 k102) _ 99 ?hg (N := 49) ?hd (xs := ([] : List (List (S102)))) (inner := []) (ok := fun _ => True) (okp := fun _ => True) ?hr ?hp (fun _ hk => hk) trivial (Below.refl _ _) (Nat.le_refl _) (by simp) ?_; (case hd => rfl); (case hg => rfl); (case hr => first | (go_simp; done) | (go_simp; rfl)); (case hp => exact (Reps.none _ _)); intro v331 w20 ho21 hb hg_ hnew_; clear hg_ hnew_; (first | rw [← Ny330.out] at ho21 | (simp only [Int.reduceToNat] at ho21; rw [← Ny330.out] at ho21)); replace HO_6 := a_ (Kd.R_elder' (ra_ HO_6.out) (Kd.S_base ho21) hb); have HO332 := a_ (Kd.S_lower ho21 (below_size z54_)); replace HB := a_ (below_step z54_ hb); clear hb ho21))
             go_loopg [10, 11] k1 (fun kq v10 v11 w' => ∃ (x10_2 : List (List (S102))) (x11_2 : Int), v11 = .int .i64 x11_2 ∧ Aside0 (spec_l04Across.l1 kq l0 a1 (l0.length : Int) x6_1 x7_1 (rd_L6 l0 (ji12)) (rd_L6 l0 (ji15)) x10_2 x11_2 = some r) ∧ Aside0 (kq ≤ k1) ∧ Aside0 (Kd.R (Kd.slice 99 (Kd.slice 102 k102)) 121 w' w.heap.size (fun k_ => some k_ ≠ (v10 : Value).ownBlock) u6 x6_1) ∧ Aside0 (Kd.S (Kd.slice 102 k102) 99 w' w.heap.size (fun _ => True) v10 x10_2) ∧ Aside0 (Below w.heap.size w w'))
             case atStart => exact ⟨(y330), (0), z91_, H', ⟨Nat.le_refl _⟩, ⟨z59_⟩, ⟨by (with_reducible repeat (first | apply Kd.S_alloc | apply Kd.S_drewN | apply Kd.S_drew)); exact HO332.out⟩, ⟨z54_⟩⟩
             case round =>
              clear H'
              try clear c5b0; try clear c7b0; try clear c8b0; try clear c9b0; try clear c10b0; try clear c11b0; try clear c11b1; try clear c13b0; try clear c14b0; try clear c16b0; try clear c17b0; try clear hx326_0; try clear hx327_0; try clear hx328_0; try clear hx329_0; try clear p326; try clear p327; try clear p328; try clear p329; try clear q326; try clear q327; try clear q328; try clear q329
              obtain ⟨x10_2, x11_2, rfl, HA, HK2, HO_6, HO_10, HB⟩ := hrel
              cases gk with
              | zero => exact absurd HA.out (by simp [spec_l04Across.l1])
              | succ k2 =>
               have H := HA.out
               clear HA
               simp only [spec_l04Across.l1] at H
               by_cases c22 : x11_2 < ((rd_L6 l0 (ji12)).length : Int)
               ·rw [if_pos c22] at H
                have c22b0 : decide (x11_2 < ((rd_L6 l0 (ji12)).length : Int)) = true := decide_eq_true c22
                clear c22
                by_cases c23 : 0 ≤ x11_2
                ·rw [if_pos c23] at H
                 have c23b0 : decide (0 ≤ x11_2) = true := decide_eq_true c23
                 clear c23
                 replace H := Option.bind_eq_some_iff.mp H
                 obtain ⟨t334, A240, H⟩ := H
                 replace H : (if x11_2 < ((rd_L6 l0 (ji15)).length : Int) then (if t334.length + (rd_L5 (rd_L6 l0 (ji15)) x11_2).length < 5864062014805 then (if x10_2.length < 5864062014805 then (spec_l04Across.l1 k2 l0 a1 (l0.length : Int) x6_1 x7_1 (rd_L6 l0 (ji12)) (rd_L6 l0 (ji15)) (x10_2 ++ [(t334 ++ (rd_L5 (rd_L6 l0 (ji15)) x11_2))]) (wrap64 (x11_2 + 1))) else (none)) else (none)) else (none)) = some r := H
                 have A24 := Aside0.mk A240
                 clear A240
                 by_cases c25 : x11_2 < ((rd_L6 l0 (ji15)).length : Int)
                 ·rw [if_pos c25] at H
                  have c25b0 : decide (x11_2 < ((rd_L6 l0 (ji15)).length : Int)) = true := decide_eq_true c25
                  clear c25
                  by_cases c26 : t334.length + (rd_L5 (rd_L6 l0 (ji15)) x11_2).length < 5864062014805
                  ·rw [if_pos c26] at H
                   have LMc26 := Aside0.mk c26
                   clear c26
                   obtain ⟨y338, hy338⟩ : ∃ y_ : List (S102), y_ = (t334 ++ (rd_L5 (rd_L6 l0 (ji15)) x11_2)) := ⟨_, rfl⟩
                   replace H : (if x10_2.length < 5864062014805 then (spec_l04Across.l1 k2 l0 a1 (l0.length : Int) x6_1 x7_1 (rd_L6 l0 (ji12)) (rd_L6 l0 (ji15)) (x10_2 ++ [y338]) (wrap64 (x11_2 + 1))) else (none)) = some r := rh_ hy338 H
                   have Ny338 := Aside0.mk hy338
                   clear hy338
                   by_cases c27 : x10_2.length < 5864062014805
                   ·rw [if_pos c27] at H
                    have LMc27 := Aside0.mk c27
                    clear c27
                    obtain ⟨y341, hy341⟩ : ∃ y_ : List (List (S102)), y_ = (x10_2 ++ [y338]) := ⟨_, rfl⟩
                    replace H : (spec_l04Across.l1 k2 l0 a1 (l0.length : Int) x6_1 x7_1 (rd_L6 l0 (ji12)) (rd_L6 l0 (ji15)) y341 (wrap64 (x11_2 + 1))) = some r := rh_ hy341 H
                    have Ny341 := Aside0.mk hy341
                    clear hy341
                    have H' := Aside0.mk H
                    clear H
                    try go_wp2
                    replace HO_6 := a_ (Kd.R_drew HO_6.out)
                    replace HO_10 := a_ (Kd.S_drew HO_10.out)
                    replace HB := a_ (below_drew1 HB.out)
                    have p333 : 0 ≤ (x11_2 : Int) := of_decide_eq_true z90_
                    have q333 : x11_2 < ((rd_L6 l0 (ji12)).length : Int) := of_decide_eq_true z90_
                    obtain ⟨ad333, A333_0, c333_0, e333, hx333_0, hl333_0, hi333_0⟩ := at_L5 HR328_0.out x11_2 p333 q333
                    have hw333_0 := hx333_0
                    cases e333
                    replace hx333_0 := (HB.out.cell (World.block_lt_of_cell? _ _ hx333_0)).trans hx333_0
                    have HR333_0 := Aside0.mk hi333_0
                    have HC333_0 := Aside0.mk hl333_0
                    clear hi333_0 hl333_0
                    replace p333 := eq_true p333
                    replace q333 := eq_true q333
                    have p337 : 0 ≤ (x11_2 : Int) := of_decide_eq_true z90_
                    have q337 : x11_2 < ((rd_L6 l0 (ji15)).length : Int) := of_decide_eq_true z90_
                    obtain ⟨ad337, A337_0, c337_0, e337, hx337_0, hl337_0, hi337_0⟩ := at_L5 HR329_0.out x11_2 p337 q337
                    have hw337_0 := hx337_0
                    cases e337
                    replace hx337_0 := (HB.out.cell (World.block_lt_of_cell? _ _ hx337_0)).trans hx337_0
                    have HR337_0 := Aside0.mk hi337_0
                    have HC337_0 := Aside0.mk hl337_0
                    clear hi337_0 hl337_0
                    replace p337 := eq_true p337
                    replace q337 := eq_true q337
                    refine start_ (n := 14) (S := fun w' => w'.cell? (ad333.add (x11_2).toNat) = some (.slice A333_0 (rd_L5 (rd_L6 l0 (ji12)) x11_2).length c333_0) ∧ w'.cell? (ad337.add (x11_2).toNat) = some (.slice A337_0 (rd_L5 (rd_L6 l0 (ji15)) x11_2).length c337_0)) (ds := []) #[false, false, false, false, false, false, false, false, false, false, false, false, false, false] (by kernel_rfl) rfl rfl ⟨((HB.out.cell (World.block_lt_of_cell? _ _ hw333_0)).trans hw333_0), ((HB.out.cell (World.block_lt_of_cell? _ _ hw337_0)).trans hw337_0)⟩ (fun hHeld => ?_); refine with_tabW spec_l04Across.tab13 spec_l04Across.bits13 (fun HT_ HW_ => ?_)
                    generalize wr.drew = w28 at HO_6 HO_10 HB HR333_0 HR337_0 hx333_0 hx337_0 hHeld ⊢
                    refine pu_ (i := 0) (N := some 56) (bs_ 14 1) ?_
                    refine pu_ (i := 1) (N := some 57) (bs_ 14 3) ?_
                    refine pu_ (i := 2) (N := some 58) (bs_ 14 7) ?_
                    refine pu_ (i := 3) (N := some 59) (bs_ 14 15) ?_
                    refine pu_ (i := 6) (N := some 62) (bs_ 14 79) ?_
                    refine pu_ (i := 7) (N := some 63) (bs_ 14 207) ?_
                    refine pu_ (i := 8) (N := some 64) (bs_ 14 463) ?_
                    refine tk2_ (i := 4) (N := some 60) (bs_ 14 479) hHeld ?_
                    refine tk2_ (i := 9) (N := some 65) (bs_ 14 991) hHeld ?_
                    refine one_ (i := 5) (N := some 61) (bs_ 14 1023) rfl rfl (one_of HT_.out (by kernel_rfl)) (by decide) (fun K hK => ?_)
                    refine goes_ Try.func116 (by kernel_rfl) rfl #[.slice A333_0 (rd_L5 (rd_L6 l0 (ji12)) x11_2).length c333_0, .bool false] (by rfl) rfl rfl (by (try simp only [List.map_toArray, List.map_cons, List.map_nil]); first | done | (simp only [hji12]; rfl) | rfl | (simp only [List.length_drop, List.length_take]; rfl)) ?_
                    with_reducible refine (spec_l04Turn.calls _ _ (rd_L5 (rd_L6 l0 (ji12)) x11_2) false t334 _ ?side1 ?side2 A24.out).mono ?_
                    (case side1 => exact kc_ (Kd.C_below HR333_0.out HB.out))
                    (case side2 => exact HC333_0.out)
                    rintro e w29 ⟨v335, rfl, ho0, hb⟩
                    refine ⟨_, rfl, ?_⟩
                    replace HO_6 := a_ (Kd.R_elder' (ra_ HO_6.out) (Kd.R_base ho0) hb)
                    replace HO_10 := a_ (Kd.S_elder' z79_ (Kd.R_base ho0) hb)
                    have HO336 := a_ (Kd.R_lower ho0 (below_size z54_))
                    replace HB := a_ (below_step z54_ hb)
                    (try clear hb)
                    (try clear hb2)
                    (try clear hk)
                    (try clear hi)
                    (try clear ho0)
                    refine hK.out _ _ ⟨((HB.out.cell (World.block_lt_of_cell? _ _ hw333_0)).trans hw333_0), ((HB.out.cell (World.block_lt_of_cell? _ _ hw337_0)).trans hw337_0)⟩ (fun hHeld => ?_)
                    clear hK K
                    refine nm_ ?_
                    refine one_ (i := 10) (N := some 66) (bs_ 14 2047) rfl rfl (one_of HT_.out (by kernel_rfl)) (by decide) (fun K hK => ?_)
                    refine Kd.R_append_rows_step k102 (w0 := w) w.heap.size (by rfl) (.tmp 61) (.tmp 65) 99 102 (.agg #[(.int .i64 0), (.int .i64 0), (.bool false), (.bool false)]) 24 rfl Try.underlying99 info102 rfl (by decide) (by omega) v335 t334 (rd_L5 (rd_L6 l0 (ji15)) x11_2) _ _ _ (fun _ => True) (fun _ => False) rfl rfl ?aO ?aR (fun _ _ h => h) (fun _ h => h.elim) ?aF ?aB ?aS ?aL ?_
                    (case aR => exact kc_ (Kd.C_below HR337_0.out HB.out))
                    (case aB => exact z54_)
                    (case aF => exact (fun _ _ => trivial))
                    (case aO => exact (ra_ HO336.out))
                    (case aS => exact (below_size z54_))
                    (case aL => have := LMc26.out; omega)
                    intro v339 w30 ho hb hg hat
                    rw [← Ny338.out] at ho
                    replace HO_6 := a_ (Kd.R_after (ok := (fun k_ => some k_ ≠ (u10 : Value).ownBlock)) (ra_ HO_6.out) hg hat)
                    replace HO_10 := a_ (Kd.S_after (ok := (fun _ => True)) z79_ hg hat)
                    replace HB := a_ (hb)
                    have HO340 := a_ (ho)
                    clear HO336
                    clear ho hb hg hat
                    obtain ⟨Ao32, co32, eo32⟩ := Kd.R_slice HO340.out
                    (first | subst eo32 | (injection eo32 with f1_ f2_ f3_; have f4_ := f1_.symm; have f5_ := f3_.symm; clear f1_ f2_ f3_; subst f4_; subst f5_))
                    refine hK.out _ _ ⟨((HB.out.cell (World.block_lt_of_cell? _ _ hw333_0)).trans hw333_0), ((HB.out.cell (World.block_lt_of_cell? _ _ hw337_0)).trans hw337_0)⟩ (fun hHeld => ?_)
                    clear hK K
                    refine nm_ ?_
                    refine one_ (i := 11) (N := some 67) (bs_ 14 4095) rfl rfl (one_of HT_.out (by kernel_rfl)) (by decide) (fun K hK => ?_)
                    refine value_ (w1 := ?_) (v := ?_) (by rfl) rfl ?_ ?_
                    rotate_left 2
                    ·go_simp
                     constructor
                     ·rfl
                     ·rfl
                    refine hK.out _ _ ⟨(World.cell?_alloc_lt _ _ _ (World.block_lt_of_cell? _ _ (((HB.out.cell (World.block_lt_of_cell? _ _ hw333_0)).trans hw333_0)))).trans (((HB.out.cell (World.block_lt_of_cell? _ _ hw333_0)).trans hw333_0)), (World.cell?_alloc_lt _ _ _ (World.block_lt_of_cell? _ _ (((HB.out.cell (World.block_lt_of_cell? _ _ hw337_0)).trans hw337_0)))).trans (((HB.out.cell (World.block_lt_of_cell? _ _ hw337_0)).trans hw337_0))⟩ (fun hHeld => ?_)
                    clear hK K
                    refine nm_ ?_
                    refine one_ (i := 12) (N := some 68) (bs_ 14 8191) rfl rfl (one_of HT_.out (by kernel_rfl)) (by decide) (fun K hK => ?_)
                    refine Kd.S_append_step (Kd.slice 102 k102) (w0 := w) w.heap.size (by rfl) (.tmp 56) (.tmp 67) 121 99 (.slice none 0 0) 24 rfl Try.underlying121 info99 rfl (by decide) (by omega) u10 x10_2 y338 [.slice Ao32 y338.length co32] (fun _ => True) (fun k_ => some k_ = (.slice Ao32 y338.length co32 : Value).ownBlock) rfl rfl ?aP (fun k_ hk_ => ((Kd.R_mono (ok' := fun k_ => ((fun _ => True)) k_ ∧ some k_ ≠ (u10 : Value).ownBlock) (Kd.R_apart' (HO340.out) (Kd.S_typed HO_10.out) (by decide)) (fun k_ hk => ⟨trivial, hk.2⟩))).1 k_ hk_.symm) ?aF ?aO ?aB ?aS ?aL ?_
                    (case aP => exact Kd.M_row (Kd.R_mono (Kd.R_tight rfl (Kd.R_mono (ok' := fun k_ => ((fun _ => True)) k_ ∧ some k_ ≠ (u10 : Value).ownBlock) (Kd.R_apart' (HO340.out) (Kd.S_typed HO_10.out) (by decide)) (fun k_ hk => ⟨trivial, hk.2⟩))) (fun _ h_ => h_)))
                    (case aB => exact z54_)
                    (case aF => exact (fun _ _ => trivial))
                    (case aO => exact (by (with_reducible repeat (first | apply Kd.S_alloc | apply Kd.S_drewN | apply Kd.S_drew)); exact Kd.S_mono HO_10.out (fun k_ hk => ⟨trivial, fun e_ => hk.2 e_⟩)))
                    (case aS => exact (below_size z54_))
                    (case aL => have := LMc27.out; omega)
                    intro v342 w31 ho hb hg hat
                    rw [← Ny341.out] at ho
                    replace HO_6 := a_ (Kd.R_after (ok := (fun k_ => nb_ k_ Ao32 y338.length co32)) (rc_ (h := by exact Kd.R_mono HO_6.out (fun _ hk => ⟨hk.2, hk.1⟩))) hg hat)
                    replace HB := a_ (hb)
                    have HO343 := a_ (ho)
                    clear HO340; clear HO_10
                    clear ho hb hg hat
                    refine hK.out _ _ ⟨((HB.out.cell (World.block_lt_of_cell? _ _ hw333_0)).trans hw333_0), ((HB.out.cell (World.block_lt_of_cell? _ _ hw337_0)).trans hw337_0)⟩ (fun hHeld => ?_)
                    clear hK K
                    refine nm_ ?_
                    refine pu_ (i := 13) (N := some 10) (bs_ 14 16383) ?_
                    refine done_ (done_of HT_.out (by kernel_rfl)) ?_
                    try go_wp2
                    go_roundg k2
                    case measure => have := HK1.out; have := HK2.out; omega
                    case rel => exact ⟨(y341), (wrap64 (x11_2 + 1)), z91_, H', ⟨z92_⟩, ⟨z59_⟩, ⟨by (with_reducible repeat (first | apply Kd.S_alloc | apply Kd.S_drewN | apply Kd.S_drew)); exact HO343.out⟩, ⟨z54_⟩⟩
                   ·rw [if_neg c27] at H
                    exact absurd H (by simp)
                  ·rw [if_neg c26] at H
                   exact absurd H (by simp)
                 ·rw [if_neg c25] at H
                  exact absurd H (by simp)
                ·rw [if_neg c23] at H
                 exact absurd H (by simp)
               ·rw [if_neg c22] at H
                have c22b0 : decide (x11_2 < ((rd_L6 l0 (ji12)).length : Int)) = false := decide_eq_false c22
                clear c22
                by_cases c33 : x6_1.length < 5864062014805
                ·rw [if_pos c33] at H
                 have LMc33 := Aside0.mk c33
                 clear c33
                 obtain ⟨y344, hy344⟩ : ∃ y_ : List (List (List (S102))), y_ = (x6_1 ++ [x10_2]) := ⟨_, rfl⟩
                 replace H : (spec_l04Across.l0 k2 l0 a1 (l0.length : Int) y344 (wrap64 (x7_1 + 1))) = some r := rh_ hy344 H
                 have Ny344 := Aside0.mk hy344
                 clear hy344
                 have H' := Aside0.mk H
                 clear H
                 obtain ⟨Ao35, co35, eo35⟩ := Kd.S_slice HO_10.out
                 subst eo35
                 go_wp2_with (first | ((with_reducible refine gate_builtin (b := .append) (xs := #[.tmp 69, .tmp 71]) rfl ?_); at_builtin; refine Kd.R_append (Kd.slice 99 (Kd.slice 102 k102)) (w0 := w) w.heap.size rfl (.tmp 69) (.tmp 71) 118 121 (.slice none 0 0) 24 rfl Try.underlying118 info121 rfl (by decide) (by omega) u6 x6_1 x10_2 [.slice Ao35 x10_2.length co35] (fun _ => True) (fun k_ => ((fun _ => True)) k_ ∧ some k_ ≠ (u6 : Value).ownBlock) rfl rfl ?aP (fun _ hk => hk) ?aF ?aO ?aB ?aS ?aL ?_; (case aP => exact Kd.M_row (Kd.R_mono (Kd.R_apart' ((Kd.S_R HO_10.out)) (Kd.R_typed HO_6.out) (by decide)) (fun k_ hk => ⟨trivial, hk.2⟩))); (case aB => exact z54_); (case aF => exact (fun _ _ => trivial)); (case aO => exact (rc_ (h := by exact Kd.R_mono HO_6.out (fun _ hk => trivial)))); (case aS => exact (below_size z54_)); (case aL => have := LMc33.out; omega); intro v345 w34 ho hb hg hat; rw [← Ny344.out] at ho; replace HB := a_ (hb); have HO346 := a_ (ho); clear HO_10; clear HO_6; clear ho hb hg hat))
                 go_roundg k2
                 case measure => have := HK1.out; have := HK2.out; omega
                 case rel => exact ⟨(y344), (wrap64 (x7_1 + 1)), z91_, H', ⟨z92_⟩, ⟨by (with_reducible repeat (first | apply Kd.R_alloc | apply Kd.R_drewN | apply Kd.R_drew)); exact HO346.out⟩, ⟨z54_⟩⟩
                ·rw [if_neg c33] at H
                 exact absurd H (by simp)
            ·rw [if_neg c17] at H
             exact absurd H (by simp)
           ·rw [if_neg c16] at H
            exact absurd H (by simp)
          ·rw [if_neg c14] at H
           exact absurd H (by simp)
         ·rw [if_neg c13] at H
          exact absurd H (by simp)
        ·rw [if_neg c11] at H
         have c11b0 : (a1 == 84) = false := beq_eq_false_iff_ne.mpr c11
         have c11b1 : (a1 != 84) = true := bne_iff_ne.mpr c11
         obtain ⟨y347, hy347⟩ : ∃ y_ : List (List (S102)), y_ = (([] : List (List (S102)))) := ⟨_, rfl⟩
         replace H : (spec_l04Across.l101 k1 l0 a1 (l0.length : Int) x6_1 x7_1 (rd_L6 l0 (ji6)) (rd_L6 l0 x7_1) y347 0) = some r := rh_ hy347 H
         have Ny347 := Aside0.mk hy347
         clear hy347
         have H' := Aside0.mk H
         clear H
         try go_wp2
         replace HO_6 := a_ (Kd.R_drew HO_6.out)
         replace HB := a_ (below_drew1 HB.out)
         have p326 : 0 ≤ ((ji6) : Int) := of_decide_eq_true z90_
         have q326 : (ji6) < (l0.length : Int) := of_decide_eq_true z90_
         obtain ⟨ad326, A326_0, c326_0, e326, hx326_0, hl326_0, hi326_0⟩ := at_L6 HR0.out (ji6) p326 q326
         have hw326_0 := hx326_0
         cases e326
         replace hx326_0 := (HB.out.cell (World.block_lt_of_cell? _ _ hx326_0)).trans hx326_0
         have HR326_0 := Aside0.mk hi326_0
         have HC326_0 := Aside0.mk hl326_0
         clear hi326_0 hl326_0
         replace p326 := eq_true p326
         replace q326 := eq_true q326
         have p327 : 0 ≤ (x7_1 : Int) := of_decide_eq_true z90_
         have q327 : x7_1 < (l0.length : Int) := of_decide_eq_true z90_
         obtain ⟨ad327, A327_0, c327_0, e327, hx327_0, hl327_0, hi327_0⟩ := at_L6 HR0.out x7_1 p327 q327
         have hw327_0 := hx327_0
         obtain rfl : ad326 = ad327 := (by injection e327)
         replace hx327_0 := (HB.out.cell (World.block_lt_of_cell? _ _ hx327_0)).trans hx327_0
         have HR327_0 := Aside0.mk hi327_0
         have HC327_0 := Aside0.mk hl327_0
         clear hi327_0 hl327_0
         replace p327 := eq_true p327
         replace q327 := eq_true q327
         refine start_ (n := 13) (S := fun w' => w'.cell? (ad326.add ((ji6)).toNat) = some (.slice A326_0 (rd_L6 l0 (ji6)).length c326_0) ∧ w'.cell? (ad326.add (x7_1).toNat) = some (.slice A327_0 (rd_L6 l0 x7_1).length c327_0)) (ds := []) #[false, false, false, false, false, false, false, false, false, false, false, false, false] (by kernel_rfl) rfl rfl ⟨((HB.out.cell (World.block_lt_of_cell? _ _ hw326_0)).trans hw326_0), ((HB.out.cell (World.block_lt_of_cell? _ _ hw327_0)).trans hw327_0)⟩ (fun hHeld => ?_); refine with_tabW spec_l04Across.tab6 spec_l04Across.bits6 (fun HT_ HW_ => ?_)
         generalize wr.drew = w36 at HO_6 HB HR326_0 HR327_0 hx326_0 hx327_0 hHeld ⊢
         refine pu_ (i := 0) (N := some 21) (bs_ 13 1) ?_
         refine pu_ (i := 1) (N := some 22) (bs_ 13 3) ?_
         refine pu_ (i := 2) (N := some 23) (bs_ 13 7) ?_
         refine pu_ (i := 3) (N := some 24) (bs_ 13 15) ?_
         refine pu_ (i := 4) (N := some 25) (bs_ 13 31) ?_
         refine pu_ (i := 5) (N := some 26) (bs_ 13 63) ?_
         refine pu_ (i := 7) (N := some 28) (bs_ 13 191) ?_
         refine pu_ (i := 8) (N := some 29) (bs_ 13 447) ?_
         refine pu_ (i := 9) (N := some 30) (bs_ 13 959) ?_
         refine tk2_ (i := 6) (N := some 27) (bs_ 13 1023) hHeld ?_
         refine pu_ (i := 11) (N := some 8) (bs_ 13 3071) ?_
         refine tk2_ (i := 10) (N := some 31) (bs_ 13 4095) hHeld ?_
         refine pu_ (i := 12) (N := some 9) (bs_ 13 8191) ?_
         refine done_ (done_of HT_.out (by kernel_rfl)) ?_
         try go_wp2_with (first | ((with_reducible refine gate_dst (N := 49) rfl ?_); refine Kd.S_lit (Kd.slice 102 k102) _ 99 ?hg (N := 49) ?hd (xs := ([] : List (List (S102)))) (inner := []) (ok := fun _ => True) (okp := fun _ => True) ?hr ?hp (fun _ hk => hk) trivial (Below.refl _ _) (Nat.le_refl _) (by simp) ?_; (case hd => rfl); (case hg => rfl); (case hr => first | (go_simp; done) | (go_simp; rfl)); (case hp => exact (Reps.none _ _)); intro v348 w37 ho38 hb hg_ hnew_; clear hg_ hnew_; (first | rw [← Ny347.out] at ho38 | (simp only [Int.reduceToNat] at ho38; rw [← Ny347.out] at ho38)); replace HO_6 := a_ (Kd.R_elder' (ra_ HO_6.out) (Kd.S_base ho38) hb); have HO349 := a_ (Kd.S_lower ho38 (below_size z54_)); replace HB := a_ (below_step z54_ hb); clear hb ho38))
         go_loopg [10, 11] k1 (fun kq v10 v11 w' => ∃ (x10_2 : List (List (S102))) (x11_2 : Int), v11 = .int .i64 x11_2 ∧ Aside0 (spec_l04Across.l101 kq l0 a1 (l0.length : Int) x6_1 x7_1 (rd_L6 l0 (ji6)) (rd_L6 l0 x7_1) x10_2 x11_2 = some r) ∧ Aside0 (kq ≤ k1) ∧ Aside0 (Kd.R (Kd.slice 99 (Kd.slice 102 k102)) 121 w' w.heap.size (fun k_ => some k_ ≠ (v10 : Value).ownBlock) u6 x6_1) ∧ Aside0 (Kd.S (Kd.slice 102 k102) 99 w' w.heap.size (fun _ => True) v10 x10_2) ∧ Aside0 (Below w.heap.size w w'))
         case atStart => exact ⟨(y347), (0), z91_, H', ⟨Nat.le_refl _⟩, ⟨z59_⟩, ⟨by (with_reducible repeat (first | apply Kd.S_alloc | apply Kd.S_drewN | apply Kd.S_drew)); exact HO349.out⟩, ⟨z54_⟩⟩
         case round =>
          clear H'
          try clear c5b0; try clear c7b0; try clear c8b0; try clear c9b0; try clear c10b0; try clear c11; try clear c11b0; try clear c11b1; try clear hx326_0; try clear hx327_0; try clear p326; try clear p327; try clear q326; try clear q327
          obtain ⟨x10_2, x11_2, rfl, HA, HK2, HO_6, HO_10, HB⟩ := hrel
          cases gk with
          | zero => exact absurd HA.out (by simp [spec_l04Across.l101])
          | succ k2 =>
           have H := HA.out
           clear HA
           simp only [spec_l04Across.l101] at H
           by_cases c39 : x11_2 < ((rd_L6 l0 (ji6)).length : Int)
           ·rw [if_pos c39] at H
            have c39b0 : decide (x11_2 < ((rd_L6 l0 (ji6)).length : Int)) = true := decide_eq_true c39
            clear c39
            by_cases c40 : 0 ≤ x11_2
            ·rw [if_pos c40] at H
             have c40b0 : decide (0 ≤ x11_2) = true := decide_eq_true c40
             clear c40
             replace H := Option.bind_eq_some_iff.mp H
             obtain ⟨t351, A410, H⟩ := H
             replace H : (if x11_2 < ((rd_L6 l0 x7_1).length : Int) then (if t351.length + (rd_L5 (rd_L6 l0 x7_1) x11_2).length < 5864062014805 then (if x10_2.length < 5864062014805 then (spec_l04Across.l101 k2 l0 a1 (l0.length : Int) x6_1 x7_1 (rd_L6 l0 (ji6)) (rd_L6 l0 x7_1) (x10_2 ++ [(t351 ++ (rd_L5 (rd_L6 l0 x7_1) x11_2))]) (wrap64 (x11_2 + 1))) else (none)) else (none)) else (none)) = some r := H
             have A41 := Aside0.mk A410
             clear A410
             by_cases c42 : x11_2 < ((rd_L6 l0 x7_1).length : Int)
             ·rw [if_pos c42] at H
              have c42b0 : decide (x11_2 < ((rd_L6 l0 x7_1).length : Int)) = true := decide_eq_true c42
              clear c42
              by_cases c43 : t351.length + (rd_L5 (rd_L6 l0 x7_1) x11_2).length < 5864062014805
              ·rw [if_pos c43] at H
               have LMc43 := Aside0.mk c43
               clear c43
               obtain ⟨y355, hy355⟩ : ∃ y_ : List (S102), y_ = (t351 ++ (rd_L5 (rd_L6 l0 x7_1) x11_2)) := ⟨_, rfl⟩
               replace H : (if x10_2.length < 5864062014805 then (spec_l04Across.l101 k2 l0 a1 (l0.length : Int) x6_1 x7_1 (rd_L6 l0 (ji6)) (rd_L6 l0 x7_1) (x10_2 ++ [y355]) (wrap64 (x11_2 + 1))) else (none)) = some r := rh_ hy355 H
               have Ny355 := Aside0.mk hy355
               clear hy355
               by_cases c44 : x10_2.length < 5864062014805
               ·rw [if_pos c44] at H
                have LMc44 := Aside0.mk c44
                clear c44
                obtain ⟨y358, hy358⟩ : ∃ y_ : List (List (S102)), y_ = (x10_2 ++ [y355]) := ⟨_, rfl⟩
                replace H : (spec_l04Across.l101 k2 l0 a1 (l0.length : Int) x6_1 x7_1 (rd_L6 l0 (ji6)) (rd_L6 l0 x7_1) y358 (wrap64 (x11_2 + 1))) = some r := rh_ hy358 H
                have Ny358 := Aside0.mk hy358
                clear hy358
                have H' := Aside0.mk H
                clear H
                try go_wp2
                replace HO_6 := a_ (Kd.R_drew HO_6.out)
                replace HO_10 := a_ (Kd.S_drew HO_10.out)
                replace HB := a_ (below_drew1 HB.out)
                have p350 : 0 ≤ (x11_2 : Int) := of_decide_eq_true z90_
                have q350 : x11_2 < ((rd_L6 l0 (ji6)).length : Int) := of_decide_eq_true z90_
                obtain ⟨ad350, A350_0, c350_0, e350, hx350_0, hl350_0, hi350_0⟩ := at_L5 HR326_0.out x11_2 p350 q350
                have hw350_0 := hx350_0
                cases e350
                replace hx350_0 := (HB.out.cell (World.block_lt_of_cell? _ _ hx350_0)).trans hx350_0
                have HR350_0 := Aside0.mk hi350_0
                have HC350_0 := Aside0.mk hl350_0
                clear hi350_0 hl350_0
                replace p350 := eq_true p350
                replace q350 := eq_true q350
                have p354 : 0 ≤ (x11_2 : Int) := of_decide_eq_true z90_
                have q354 : x11_2 < ((rd_L6 l0 x7_1).length : Int) := of_decide_eq_true z90_
                obtain ⟨ad354, A354_0, c354_0, e354, hx354_0, hl354_0, hi354_0⟩ := at_L5 HR327_0.out x11_2 p354 q354
                have hw354_0 := hx354_0
                cases e354
                replace hx354_0 := (HB.out.cell (World.block_lt_of_cell? _ _ hx354_0)).trans hx354_0
                have HR354_0 := Aside0.mk hi354_0
                have HC354_0 := Aside0.mk hl354_0
                clear hi354_0 hl354_0
                replace p354 := eq_true p354
                replace q354 := eq_true q354
                refine start_ (n := 14) (S := fun w' => w'.cell? (ad350.add (x11_2).toNat) = some (.slice A350_0 (rd_L5 (rd_L6 l0 (ji6)) x11_2).length c350_0) ∧ w'.cell? (ad354.add (x11_2).toNat) = some (.slice A354_0 (rd_L5 (rd_L6 l0 x7_1) x11_2).length c354_0)) (ds := []) #[false, false, false, false, false, false, false, false, false, false, false, false, false, false] (by kernel_rfl) rfl rfl ⟨((HB.out.cell (World.block_lt_of_cell? _ _ hw350_0)).trans hw350_0), ((HB.out.cell (World.block_lt_of_cell? _ _ hw354_0)).trans hw354_0)⟩ (fun hHeld => ?_); refine with_tabW spec_l04Across.tab13 spec_l04Across.bits13 (fun HT_ HW_ => ?_)
                generalize wr.drew = w45 at HO_6 HO_10 HB HR350_0 HR354_0 hx350_0 hx354_0 hHeld ⊢
                refine pu_ (i := 0) (N := some 56) (bs_ 14 1) ?_
                refine pu_ (i := 1) (N := some 57) (bs_ 14 3) ?_
                refine pu_ (i := 2) (N := some 58) (bs_ 14 7) ?_
                refine pu_ (i := 3) (N := some 59) (bs_ 14 15) ?_
                refine pu_ (i := 6) (N := some 62) (bs_ 14 79) ?_
                refine pu_ (i := 7) (N := some 63) (bs_ 14 207) ?_
                refine pu_ (i := 8) (N := some 64) (bs_ 14 463) ?_
                refine tk2_ (i := 4) (N := some 60) (bs_ 14 479) hHeld ?_
                refine tk2_ (i := 9) (N := some 65) (bs_ 14 991) hHeld ?_
                refine one_ (i := 5) (N := some 61) (bs_ 14 1023) rfl rfl (one_of HT_.out (by kernel_rfl)) (by decide) (fun K hK => ?_)
                refine goes_ Try.func116 (by kernel_rfl) rfl #[.slice A350_0 (rd_L5 (rd_L6 l0 (ji6)) x11_2).length c350_0, .bool false] (by rfl) rfl rfl (by (try simp only [List.map_toArray, List.map_cons, List.map_nil]); first | done | (simp only [hji6]; rfl) | rfl | (simp only [List.length_drop, List.length_take]; rfl)) ?_
                with_reducible refine (spec_l04Turn.calls _ _ (rd_L5 (rd_L6 l0 (ji6)) x11_2) false t351 _ ?side1 ?side2 A41.out).mono ?_
                (case side1 => exact kc_ (Kd.C_below HR350_0.out HB.out))
                (case side2 => exact HC350_0.out)
                rintro e w46 ⟨v352, rfl, ho0, hb⟩
                refine ⟨_, rfl, ?_⟩
                replace HO_6 := a_ (Kd.R_elder' (ra_ HO_6.out) (Kd.R_base ho0) hb)
                replace HO_10 := a_ (Kd.S_elder' z79_ (Kd.R_base ho0) hb)
                have HO353 := a_ (Kd.R_lower ho0 (below_size z54_))
                replace HB := a_ (below_step z54_ hb)
                (try clear hb)
                (try clear hb2)
                (try clear hk)
                (try clear hi)
                (try clear ho0)
                refine hK.out _ _ ⟨((HB.out.cell (World.block_lt_of_cell? _ _ hw350_0)).trans hw350_0), ((HB.out.cell (World.block_lt_of_cell? _ _ hw354_0)).trans hw354_0)⟩ (fun hHeld => ?_)
                clear hK K
                refine nm_ ?_
                refine one_ (i := 10) (N := some 66) (bs_ 14 2047) rfl rfl (one_of HT_.out (by kernel_rfl)) (by decide) (fun K hK => ?_)
                refine Kd.R_append_rows_step k102 (w0 := w) w.heap.size (by rfl) (.tmp 61) (.tmp 65) 99 102 (.agg #[(.int .i64 0), (.int .i64 0), (.bool false), (.bool false)]) 24 rfl Try.underlying99 info102 rfl (by decide) (by omega) v352 t351 (rd_L5 (rd_L6 l0 x7_1) x11_2) _ _ _ (fun _ => True) (fun _ => False) rfl rfl ?aO ?aR (fun _ _ h => h) (fun _ h => h.elim) ?aF ?aB ?aS ?aL ?_
                (case aR => exact kc_ (Kd.C_below HR354_0.out HB.out))
                (case aB => exact z54_)
                (case aF => exact (fun _ _ => trivial))
                (case aO => exact (ra_ HO353.out))
                (case aS => exact (below_size z54_))
                (case aL => have := LMc43.out; omega)
                intro v356 w47 ho hb hg hat
                rw [← Ny355.out] at ho
                replace HO_6 := a_ (Kd.R_after (ok := (fun k_ => some k_ ≠ (u10 : Value).ownBlock)) (ra_ HO_6.out) hg hat)
                replace HO_10 := a_ (Kd.S_after (ok := (fun _ => True)) z79_ hg hat)
                replace HB := a_ (hb)
                have HO357 := a_ (ho)
                clear HO353
                clear ho hb hg hat
                obtain ⟨Ao49, co49, eo49⟩ := Kd.R_slice HO357.out
                (first | subst eo49 | (injection eo49 with f1_ f2_ f3_; have f4_ := f1_.symm; have f5_ := f3_.symm; clear f1_ f2_ f3_; subst f4_; subst f5_))
                refine hK.out _ _ ⟨((HB.out.cell (World.block_lt_of_cell? _ _ hw350_0)).trans hw350_0), ((HB.out.cell (World.block_lt_of_cell? _ _ hw354_0)).trans hw354_0)⟩ (fun hHeld => ?_)
                clear hK K
                refine nm_ ?_
                refine one_ (i := 11) (N := some 67) (bs_ 14 4095) rfl rfl (one_of HT_.out (by kernel_rfl)) (by decide) (fun K hK => ?_)
                refine value_ (w1 := ?_) (v := ?_) (by rfl) rfl ?_ ?_
                rotate_left 2
                ·go_simp
                 constructor
                 ·rfl
                 ·rfl
                refine hK.out _ _ ⟨(World.cell?_alloc_lt _ _ _ (World.block_lt_of_cell? _ _ (((HB.out.cell (World.block_lt_of_cell? _ _ hw350_0)).trans hw350_0)))).trans (((HB.out.cell (World.block_lt_of_cell? _ _ hw350_0)).trans hw350_0)), (World.cell?_alloc_lt _ _ _ (World.block_lt_of_cell? _ _ (((HB.out.cell (World.block_lt_of_cell? _ _ hw354_0)).trans hw354_0)))).trans (((HB.out.cell (World.block_lt_of_cell? _ _ hw354_0)).trans hw354_0))⟩ (fun hHeld => ?_)
                clear hK K
                refine nm_ ?_
                refine one_ (i := 12) (N := some 68) (bs_ 14 8191) rfl rfl (one_of HT_.out (by kernel_rfl)) (by decide) (fun K hK => ?_)
                refine Kd.S_append_step (Kd.slice 102 k102) (w0 := w) w.heap.size (by rfl) (.tmp 56) (.tmp 67) 121 99 (.slice none 0 0) 24 rfl Try.underlying121 info99 rfl (by decide) (by omega) u10 x10_2 y355 [.slice Ao49 y355.length co49] (fun _ => True) (fun k_ => some k_ = (.slice Ao49 y355.length co49 : Value).ownBlock) rfl rfl ?aP (fun k_ hk_ => ((Kd.R_mono (ok' := fun k_ => ((fun _ => True)) k_ ∧ some k_ ≠ (u10 : Value).ownBlock) (Kd.R_apart' (HO357.out) (Kd.S_typed HO_10.out) (by decide)) (fun k_ hk => ⟨trivial, hk.2⟩))).1 k_ hk_.symm) ?aF ?aO ?aB ?aS ?aL ?_
                (case aP => exact Kd.M_row (Kd.R_mono (Kd.R_tight rfl (Kd.R_mono (ok' := fun k_ => ((fun _ => True)) k_ ∧ some k_ ≠ (u10 : Value).ownBlock) (Kd.R_apart' (HO357.out) (Kd.S_typed HO_10.out) (by decide)) (fun k_ hk => ⟨trivial, hk.2⟩))) (fun _ h_ => h_)))
                (case aB => exact z54_)
                (case aF => exact (fun _ _ => trivial))
                (case aO => exact (by (with_reducible repeat (first | apply Kd.S_alloc | apply Kd.S_drewN | apply Kd.S_drew)); exact Kd.S_mono HO_10.out (fun k_ hk => ⟨trivial, fun e_ => hk.2 e_⟩)))
                (case aS => exact (below_size z54_))
                (case aL => have := LMc44.out; omega)
                intro v359 w48 ho hb hg hat
                rw [← Ny358.out] at ho
                replace HO_6 := a_ (Kd.R_after (ok := (fun k_ => nb_ k_ Ao49 y355.length co49)) (rc_ (h := by exact Kd.R_mono HO_6.out (fun _ hk => ⟨hk.2, hk.1⟩))) hg hat)
                replace HB := a_ (hb)
                have HO360 := a_ (ho)
                clear HO357; clear HO_10
                clear ho hb hg hat
                refine hK.out _ _ ⟨((HB.out.cell (World.block_lt_of_cell? _ _ hw350_0)).trans hw350_0), ((HB.out.cell (World.block_lt_of_cell? _ _ hw354_0)).trans hw354_0)⟩ (fun hHeld => ?_)
                clear hK K
                refine nm_ ?_
                refine pu_ (i := 13) (N := some 10) (bs_ 14 16383) ?_
                refine done_ (done_of HT_.out (by kernel_rfl)) ?_
                try go_wp2
                go_roundg k2
                case measure => have := HK1.out; have := HK2.out; omega
                case rel => exact ⟨(y358), (wrap64 (x11_2 + 1)), z91_, H', ⟨z92_⟩, ⟨z59_⟩, ⟨by (with_reducible repeat (first | apply Kd.S_alloc | apply Kd.S_drewN | apply Kd.S_drew)); exact HO360.out⟩, ⟨z54_⟩⟩
               ·rw [if_neg c44] at H
                exact absurd H (by simp)
              ·rw [if_neg c43] at H
               exact absurd H (by simp)
             ·rw [if_neg c42] at H
              exact absurd H (by simp)
            ·rw [if_neg c40] at H
             exact absurd H (by simp)
           ·rw [if_neg c39] at H
            have c39b0 : decide (x11_2 < ((rd_L6 l0 (ji6)).length : Int)) = false := decide_eq_false c39
            clear c39
            by_cases c50 : x6_1.length < 5864062014805
            ·rw [if_pos c50] at H
             have LMc50 := Aside0.mk c50
             clear c50
             obtain ⟨y361, hy361⟩ : ∃ y_ : List (List (List (S102))), y_ = (x6_1 ++ [x10_2]) := ⟨_, rfl⟩
             replace H : (spec_l04Across.l0 k2 l0 a1 (l0.length : Int) y361 (wrap64 (x7_1 + 1))) = some r := rh_ hy361 H
             have Ny361 := Aside0.mk hy361
             clear hy361
             have H' := Aside0.mk H
             clear H
             obtain ⟨Ao52, co52, eo52⟩ := Kd.S_slice HO_10.out
             subst eo52
             go_wp2_with (first | ((with_reducible refine gate_builtin (b := .append) (xs := #[.tmp 69, .tmp 71]) rfl ?_); at_builtin; refine Kd.R_append (Kd.slice 99 (Kd.slice 102 k102)) (w0 := w) w.heap.size rfl (.tmp 69) (.tmp 71) 118 121 (.slice none 0 0) 24 rfl Try.underlying118 info121 rfl (by decide) (by omega) u6 x6_1 x10_2 [.slice Ao52 x10_2.length co52] (fun _ => True) (fun k_ => ((fun _ => True)) k_ ∧ some k_ ≠ (u6 : Value).ownBlock) rfl rfl ?aP (fun _ hk => hk) ?aF ?aO ?aB ?aS ?aL ?_; (case aP => exact Kd.M_row (Kd.R_mono (Kd.R_apart' ((Kd.S_R HO_10.out)) (Kd.R_typed HO_6.out) (by decide)) (fun k_ hk => ⟨trivial, hk.2⟩))); (case aB => exact z54_); (case aF => exact (fun _ _ => trivial)); (case aO => exact (rc_ (h := by exact Kd.R_mono HO_6.out (fun _ hk => trivial)))); (case aS => exact (below_size z54_)); (case aL => have := LMc50.out; omega); intro v362 w51 ho hb hg hat; rw [← Ny361.out] at ho; replace HB := a_ (hb); have HO363 := a_ (ho); clear HO_10; clear HO_6; clear ho hb hg hat))
             go_roundg k2
             case measure => have := HK1.out; have := HK2.out; omega
             case rel => exact ⟨(y361), (wrap64 (x7_1 + 1)), z91_, H', ⟨z92_⟩, ⟨by (with_reducible repeat (first | apply Kd.R_alloc | apply Kd.R_drewN | apply Kd.R_drew)); exact HO363.out⟩, ⟨z54_⟩⟩
            ·rw [if_neg c50] at H
             exact absurd H (by simp)
       ·rw [if_neg c10] at H
        exact absurd H (by simp)
      ·rw [if_neg c9] at H
       exact absurd H (by simp)
     ·rw [if_neg c8] at H
      exact absurd H (by simp)
    ·rw [if_neg c7] at H
     exact absurd H (by simp)
   ·rw [if_neg c5] at H
    have c5b0 : decide (x7_1 < (wrap64 (((l0.length : Int) / 2)))) = false := decide_eq_false c5
    clear c5
    obtain rfl := Option.some.inj H
    go_wp2
    go_ret
    exact ⟨_, z55_, by (with_reducible repeat (first | apply Kd.R_alloc | apply Kd.R_drewN | apply Kd.R_drew)); exact HO_6.out, z54_⟩

end Go.Proofs.Ytkpidjmhdagkfaa.QFnPagePlaces
-- halved
