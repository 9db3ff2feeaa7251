-- Written by own_print.py of this session's repo over the kit's print (its output, turned at some places).
import Derived.Test.YtkpidjmhdagkfaaDoorQFnExactImposeSheetx0
import Derived.Test.YtkpidjmhdagkfaaDoorQFnExactImposeSheetx1
namespace Go.Proofs.YtkpidjmhdagkfaaDoor.QFnExactImposeSheet
open Go.RowKit Go.Proofs.YtkpidjmhdagkfaaDoorW.PrintWords Go.Proofs.YtkpidjmhdagkfaaDoorW.PrintLast Go.Proofs.YtkpidjmhdagkfaaDoorW.PrintMore
attribute [local go_sem] max2_int min2_int max_two min_two max_three min_three max_four min_four   -- for this text's walks alone
set_option linter.unusedVariables false
set_option linter.unusedSimpArgs false

/-! ### spec_l04Across: function 30 -/
mutual
def spec_l04Across.l0 : Nat → List (List (List (S35))) → Int → Int → List (List (List (S35))) → Int → Option ((List (List (List (S35)))))
 | 0, _, _, _, _, _ => none
 | k + 1, x0, x1, x5, x6, x7 => if x7 < (wrap64 (Int.tdiv x5 2)) then (if 0 ≤ (wrap64 ((wrap64 (x5 - 1)) - x7)) then (if (wrap64 ((wrap64 (x5 - 1)) - x7)) < (x0.length : Int) then (if 0 ≤ x7 then (if x7 < (x0.length : Int) then (if x1 = 84 then (if 0 ≤ (wrap64 ((wrap64 ((wrap64 (Int.tdiv x5 2)) - 1)) - x7)) then (if (wrap64 ((wrap64 ((wrap64 (Int.tdiv x5 2)) - 1)) - x7)) < (x0.length : Int) then (if 0 ≤ (wrap64 ((wrap64 (Int.tdiv x5 2)) + x7)) then (if (wrap64 ((wrap64 (Int.tdiv x5 2)) + x7)) < (x0.length : Int) then (spec_l04Across.l1 k x0 x1 x5 x6 x7 (rd_L4 x0 (wrap64 ((wrap64 ((wrap64 (Int.tdiv x5 2)) - 1)) - x7))) (rd_L4 x0 (wrap64 ((wrap64 (Int.tdiv x5 2)) + x7))) (([] : List (List (S35)))) 0) else (none)) else (none)) else (none)) else (none)) else (spec_l04Across.l101 k x0 x1 x5 x6 x7 (rd_L4 x0 (wrap64 ((wrap64 (x5 - 1)) - x7))) (rd_L4 x0 x7) (([] : List (List (S35)))) 0)) else (none)) else (none)) else (none)) else (none)) else (some x6)
def spec_l04Across.l1 : Nat → List (List (List (S35))) → Int → Int → List (List (List (S35))) → Int → List (List (S35)) → List (List (S35)) → List (List (S35)) → Int → Option ((List (List (List (S35)))))
 | 0, _, _, _, _, _, _, _, _, _ => none
 | k + 1, x0, x1, x5, x6, x7, x8, x9, x10, x11 => if x11 < (x8.length : Int) then (if 0 ≤ x11 then ((spec_l04Turn.f (rd_L3 x8 x11) false).bind fun t173 => (if x11 < (x9.length : Int) then (if t173.length + (rd_L3 x9 x11).length < 5864062014805 then (if x10.length < 5864062014805 then (spec_l04Across.l1 k x0 x1 x5 x6 x7 x8 x9 (x10 ++ [(t173 ++ (rd_L3 x9 x11))]) (wrap64 (x11 + 1))) else (none)) else (none)) else (none))) else (none)) else (if x6.length < 5864062014805 then (spec_l04Across.l0 k x0 x1 x5 (x6 ++ [x10]) (wrap64 (x7 + 1))) else (none))
def spec_l04Across.l101 : Nat → List (List (List (S35))) → Int → Int → List (List (List (S35))) → Int → List (List (S35)) → List (List (S35)) → List (List (S35)) → Int → Option ((List (List (List (S35)))))
 | 0, _, _, _, _, _, _, _, _, _ => none
 | k + 1, x0, x1, x5, x6, x7, x8, x9, x10, x11 => if x11 < (x8.length : Int) then (if 0 ≤ x11 then ((spec_l04Turn.f (rd_L3 x8 x11) false).bind fun t190 => (if x11 < (x9.length : Int) then (if t190.length + (rd_L3 x9 x11).length < 5864062014805 then (if x10.length < 5864062014805 then (spec_l04Across.l101 k x0 x1 x5 x6 x7 x8 x9 (x10 ++ [(t190 ++ (rd_L3 x9 x11))]) (wrap64 (x11 + 1))) else (none)) else (none)) else (none))) else (none)) else (if x6.length < 5864062014805 then (spec_l04Across.l0 k x0 x1 x5 (x6 ++ [x10]) (wrap64 (x7 + 1))) else (none))
end
def spec_l04Across.f (k : Nat) (l0 : List (List (List (S35)))) (a1 : Int) : Option ((List (List (List (S35))))) := spec_l04Across.l0 k l0 a1 (l0.length : Int) (([] : List (List (List (S35))))) 0
theorem spec_l04Across.mono_l : ∀ k, (∀ y0 y1 y2 y3 y4, LeO (spec_l04Across.l0 k y0 y1 y2 y3 y4) (spec_l04Across.l0 (k + 1) y0 y1 y2 y3 y4)) ∧ (∀ y0 y1 y2 y3 y4 y5 y6 y7 y8, LeO (spec_l04Across.l1 k y0 y1 y2 y3 y4 y5 y6 y7 y8) (spec_l04Across.l1 (k + 1) y0 y1 y2 y3 y4 y5 y6 y7 y8)) ∧ (∀ y0 y1 y2 y3 y4 y5 y6 y7 y8, LeO (spec_l04Across.l101 k y0 y1 y2 y3 y4 y5 y6 y7 y8) (spec_l04Across.l101 (k + 1) y0 y1 y2 y3 y4 y5 y6 y7 y8))
 | 0 => ⟨fun _ _ _ _ _ r h => by simp [spec_l04Across.l0] at h, fun _ _ _ _ _ _ _ _ _ r h => by simp [spec_l04Across.l1] at h, fun _ _ _ _ _ _ _ _ _ r h => by simp [spec_l04Across.l101] at h⟩
 | k + 1 => by
  obtain ⟨ih0, ih1, ih2⟩ := spec_l04Across.mono_l k
  refine ⟨?_, ?_, ?_⟩
  ·intro y0 y1 y2 y3 y4
   unfold spec_l04Across.l0
   repeat' first
   | (with_reducible exact ih0 _ _ _ _ _)
   | (with_reducible exact ih1 _ _ _ _ _ _ _ _ _)
   | (with_reducible exact ih2 _ _ _ _ _ _ _ _ _)
   | (with_reducible exact LeO.refl _)
   | (with_reducible exact LeO.none _)
   | (with_reducible refine LeO.ite ?_ ?_)
   | (with_reducible refine LeO.bind ?_ (fun _ => ?_))
   | exact ih0 _ _ _ _ _
   | exact ih1 _ _ _ _ _ _ _ _ _
   | exact ih2 _ _ _ _ _ _ _ _ _
   | exact LeO.none _
   | refine LeO.ite ?_ ?_
   | refine LeO.bind ?_ (fun _ => ?_)
  ·intro y0 y1 y2 y3 y4 y5 y6 y7 y8
   unfold spec_l04Across.l1
   repeat' first
   | (with_reducible exact ih0 _ _ _ _ _)
   | (with_reducible exact ih1 _ _ _ _ _ _ _ _ _)
   | (with_reducible exact ih2 _ _ _ _ _ _ _ _ _)
   | (with_reducible exact LeO.refl _)
   | (with_reducible exact LeO.none _)
   | (with_reducible refine LeO.ite ?_ ?_)
   | (with_reducible refine LeO.bind ?_ (fun _ => ?_))
   | exact ih0 _ _ _ _ _
   | exact ih1 _ _ _ _ _ _ _ _ _
   | exact ih2 _ _ _ _ _ _ _ _ _
   | exact LeO.none _
   | refine LeO.ite ?_ ?_
   | refine LeO.bind ?_ (fun _ => ?_)
  ·intro y0 y1 y2 y3 y4 y5 y6 y7 y8
   unfold spec_l04Across.l101
   repeat' first
   | (with_reducible exact ih0 _ _ _ _ _)
   | (with_reducible exact ih1 _ _ _ _ _ _ _ _ _)
   | (with_reducible exact ih2 _ _ _ _ _ _ _ _ _)
   | (with_reducible exact LeO.refl _)
   | (with_reducible exact LeO.none _)
   | (with_reducible refine LeO.ite ?_ ?_)
   | (with_reducible refine LeO.bind ?_ (fun _ => ?_))
   | exact ih0 _ _ _ _ _
   | exact ih1 _ _ _ _ _ _ _ _ _
   | exact ih2 _ _ _ _ _ _ _ _ _
   | exact LeO.none _
   | refine LeO.ite ?_ ?_
   | refine LeO.bind ?_ (fun _ => ?_)
theorem spec_l04Across.mono : ∀ a0 a1 k, LeO (spec_l04Across.f k a0 a1) (spec_l04Across.f (k + 1) a0 a1) := by
 intro a0 a1 k
 obtain ⟨ih0, ih1, ih2⟩ := spec_l04Across.mono_l k
 unfold spec_l04Across.f
 repeat' first
   | (with_reducible exact ih0 _ _ _ _ _)
   | (with_reducible exact ih1 _ _ _ _ _ _ _ _ _)
   | (with_reducible exact ih2 _ _ _ _ _ _ _ _ _)
   | (with_reducible exact LeO.refl _)
   | (with_reducible exact LeO.none _)
   | (with_reducible refine LeO.ite ?_ ?_)
   | (with_reducible refine LeO.bind ?_ (fun _ => ?_))
   | exact ih0 _ _ _ _ _
   | exact ih1 _ _ _ _ _ _ _ _ _
   | exact ih2 _ _ _ _ _ _ _ _ _
   | exact LeO.none _
   | refine LeO.ite ?_ ?_
   | refine LeO.bind ?_ (fun _ => ?_)
def spec_l04Across.T6 : Bool × List (List Nat × List Nat) := (true, [([], []), ([], []), ([1], [1]), ([], []), ([2, 3], [2, 3]), ([0, 4], [0, 4]), ([5], [5]), ([], []), ([], []), ([7, 8], [7, 8]), ([9], [9]), ([6, 0, 1, 2, 3, 4, 5, 6], [6]), ([10, 11, 0, 1, 2, 3, 4, 5, 6, 7, 8, 9, 10, 11], [10])])
def spec_l04Across.B6 : List Nat := [0, 0, 2, 0, 14, 31, 63, 0, 0, 384, 896, 127, 4095]
theorem spec_l04Across.tab6 : rtab .any (opsOf Tryd.f30 6) = spec_l04Across.T6 := by kernel_rfl
theorem spec_l04Across.bits6 : waitsOk spec_l04Across.T6.2 spec_l04Across.B6 = true := by kernel_rfl
def spec_l04Across.T8 : Bool × List (List Nat × List Nat) := (true, [([], []), ([], []), ([1], [1]), ([2], [2]), ([], []), ([3, 4], [3, 4]), ([0, 5], [0, 5]), ([6], [6]), ([], []), ([], []), ([9], [9]), ([], []), ([10, 11], [10, 11]), ([8, 12], [8, 12]), ([13], [13]), ([7, 0, 1, 2, 3, 4, 5, 6, 7], [7]), ([14, 15, 0, 1, 2, 3, 4, 5, 6, 7, 8, 9, 10, 11, 12, 13, 14, 15], [14])])
def spec_l04Across.B8 : List Nat := [0, 0, 2, 6, 0, 30, 63, 127, 0, 0, 512, 0, 3584, 7936, 16128, 255, 65535]
theorem spec_l04Across.tab8 : rtab .any (opsOf Tryd.f30 8) = spec_l04Across.T8 := by kernel_rfl
theorem spec_l04Across.bits8 : waitsOk spec_l04Across.T8.2 spec_l04Across.B8 = true := by kernel_rfl
def spec_l04Across.T13 : Bool × List (List Nat × List Nat) := (true, [([], []), ([], []), ([], []), ([1, 2], [1, 2]), ([3], [3]), ([4], [4]), ([], []), ([], []), ([6, 7], [6, 7]), ([8], [8]), ([5, 9, 5], [5, 9]), ([10], [10]), ([0, 11, 10], [0, 11]), ([12, 12, 0, 1, 2, 3, 4, 5, 6, 7, 8, 9, 10, 11, 12], [0, 12])])
def spec_l04Across.B13 : List Nat := [0, 0, 0, 6, 14, 30, 0, 0, 192, 448, 1022, 2046, 4095, 8191]
theorem spec_l04Across.tab13 : rtab .any (opsOf Tryd.f30 13) = spec_l04Across.T13 := by kernel_rfl
theorem spec_l04Across.bits13 : waitsOk spec_l04Across.T13.2 spec_l04Across.B13 = true := by kernel_rfl
set_option maxHeartbeats 8000000 in
set_option maxRecDepth 100000 in
theorem spec_l04Across.calls (k : Nat) (A0 : Option Addr) (c0 : Nat) (l0 : List (List (List (S35)))) (a1 : Int) (r : List (List (List (S35)))) (w : World) (hr0 : Kd.C (Kd.slice 32 (Kd.slice 35 k35)) w A0 l0.length l0) (hc0 : l0.length ≤ c0) (h : spec_l04Across.f k l0 a1 = some r) :
  Calls Tryd.prog 30 #[.slice A0 l0.length c0, .int .u8 a1] w fun e w' => ∃ v0_ : Value, e = .returned (v0_) ∧ Kd.R (Kd.slice 32 (Kd.slice 35 k35)) 43 w' w.heap.size (fun _ => True) v0_ r ∧ Below w.heap.size w w' := by
 have HR0 := a_ hr0
 have HC0 := a_ hc0
 clear hr0 hc0
 have HB := a_ (Below.refl w.heap.size w)
 have H : (spec_l04Across.l0 k l0 a1 (l0.length : Int) (([] : List (List (List (S35))))) 0) = some r := h
 clear h
 obtain ⟨y162, hy162⟩ : ∃ y_ : List (List (List (S35))), y_ = (([] : List (List (List (S35))))) := ⟨_, rfl⟩
 replace H : (spec_l04Across.l0 k l0 a1 (l0.length : Int) y162 0) = some r := rh_ hy162 H
 have Ny162 := a_ hy162
 clear hy162
 have H' := a_ H
 clear H
 go_enter Tryd.func30, Tryd.ntmps30
 go_wp2_with (first | ((with_reducible refine gate_dst (N := 14) rfl ?_); refine Kd.R_lit (Kd.slice 32 (Kd.slice 35 k35)) _ 43 ?hg (N := 14) ?hd (xs := ([] : List (List (List (S35))))) (inner := []) (ok := fun _ => True) (okp := fun _ => True) ?hr ?hp (fun _ hk => hk) trivial (Below.refl _ _) (Nat.le_refl _) (by simp) ?_; (case hd => rfl); (case hg => rfl); (case hr => first | (go_simp; done) | (go_simp; rfl)); (case hp => exact (Reps.none _ _)); intro v163 w3 ho4 hb hg_ hnew_; clear hg_ hnew_; (first | rw [← Ny162.out] at ho4 | (simp only [Int.reduceToNat] at ho4; rw [← Ny162.out] at ho4)); have HO164 := a_ (Kd.R_lower ho4 (below_size z23_)); replace HB := bst_ z23_ hb; clear hb ho4))
 go_loopg [6, 7] k (fun kq v6 v7 w' => ∃ (x6_1 : List (List (List (S35)))) (x7_1 : Int), v7 = .int .i64 x7_1 ∧ Aside0 (spec_l04Across.l0 kq l0 a1 (l0.length : Int) x6_1 x7_1 = some r) ∧ Aside0 (kq ≤ k) ∧ Aside0 (Kd.R (Kd.slice 32 (Kd.slice 35 k35)) 43 w' w.heap.size (fun _ => True) v6 x6_1) ∧ Aside0 (Below w.heap.size w w'))
 case atStart => exact ⟨(y162), (0), z48_, H', ⟨Nat.le_refl _⟩, ⟨by (with_reducible repeat (first | apply Kd.R_alloc | apply Kd.R_drewN | apply Kd.R_drew)); exact HO164.out⟩, ⟨z23_⟩⟩
 case round =>
  clear H'
  obtain ⟨x6_1, x7_1, rfl, HA, HK1, HO_6, HB⟩ := hrel
  cases gk with
  | zero => exact absurd HA.out (by simp [spec_l04Across.l0])
  | succ k1 =>
   have H := HA.out
   clear HA
   simp only [spec_l04Across.l0] at H
   (try simp only [show ∀ (n_ : Nat) (k_ : Int), Int.tdiv (n_ : Int) k_ = (n_ : Int) / k_ from fun n_ k_ => Int.tdiv_eq_ediv_of_nonneg (Int.natCast_nonneg n_), show ∀ (n_ : Nat) (k_ : Int), Int.tmod (n_ : Int) k_ = (n_ : Int) % k_ from fun n_ k_ => Int.tmod_eq_emod_of_nonneg (Int.natCast_nonneg n_)] at H)
   by_cases c5 : x7_1 < (wrap64 (((l0.length : Int) / 2)))
   ·rw [if_pos c5] at H
    have c5b0 : decide (x7_1 < (wrap64 (((l0.length : Int) / 2)))) = true := decide_eq_true c5
    clear c5
    obtain ⟨ji6, hji6⟩ : ∃ j_ : Int, (wrap64 ((wrap64 ((l0.length : Int) - 1)) - x7_1)) = j_ := ⟨_, rfl⟩
    replace H : (if 0 ≤ (ji6) then (if (ji6) < (l0.length : Int) then (if 0 ≤ x7_1 then (if x7_1 < (l0.length : Int) then (if a1 = 84 then (if 0 ≤ (wrap64 ((wrap64 ((wrap64 (((l0.length : Int) / 2))) - 1)) - x7_1)) then (if (wrap64 ((wrap64 ((wrap64 (((l0.length : Int) / 2))) - 1)) - x7_1)) < (l0.length : Int) then (if 0 ≤ (wrap64 ((wrap64 (((l0.length : Int) / 2))) + x7_1)) then (if (wrap64 ((wrap64 (((l0.length : Int) / 2))) + x7_1)) < (l0.length : Int) then (spec_l04Across.l1 k1 l0 a1 (l0.length : Int) x6_1 x7_1 (rd_L4 l0 (wrap64 ((wrap64 ((wrap64 (((l0.length : Int) / 2))) - 1)) - x7_1))) (rd_L4 l0 (wrap64 ((wrap64 (((l0.length : Int) / 2))) + x7_1))) (([] : List (List (S35)))) 0) else (none)) else (none)) else (none)) else (none)) else (spec_l04Across.l101 k1 l0 a1 (l0.length : Int) x6_1 x7_1 (rd_L4 l0 (ji6)) (rd_L4 l0 x7_1) (([] : List (List (S35)))) 0)) else (none)) else (none)) else (none)) else (none)) = some r := by first | (rw [hji6] at H; exact H) | (simp only [hji6] at H ⊢; exact H)
    have hji6w : (IntKind.i64.wrap ((wrap64 ((l0.length : Int) - 1)) - x7_1)) = ji6 := (i64_w _).trans hji6
    by_cases c7 : 0 ≤ (ji6)
    ·rw [if_pos c7] at H
     have c7b0 : decide (0 ≤ (ji6)) = true := decide_eq_true c7
     clear c7
     by_cases c8 : (ji6) < (l0.length : Int)
     ·rw [if_pos c8] at H
      have c8b0 : decide ((ji6) < (l0.length : Int)) = true := decide_eq_true c8
      clear c8
      by_cases c9 : 0 ≤ x7_1
      ·rw [if_pos c9] at H
       have c9b0 : decide (0 ≤ x7_1) = true := decide_eq_true c9
       clear c9
       by_cases c10 : x7_1 < (l0.length : Int)
       ·rw [if_pos c10] at H
        have c10b0 : decide (x7_1 < (l0.length : Int)) = true := decide_eq_true c10
        clear c10
        by_cases c11 : a1 = 84
        ·rw [if_pos c11] at H
         have c11b0 : (a1 == 84) = true := beq_iff_eq.mpr c11
         have c11b1 : (a1 != 84) = false := bne_eq_false_iff_eq.mpr c11
         clear c11
         obtain ⟨ji12, hji12⟩ : ∃ j_ : Int, (wrap64 ((wrap64 ((wrap64 (((l0.length : Int) / 2))) - 1)) - x7_1)) = j_ := ⟨_, rfl⟩
         replace H : (if 0 ≤ (ji12) then (if (ji12) < (l0.length : Int) then (if 0 ≤ (wrap64 ((wrap64 (((l0.length : Int) / 2))) + x7_1)) then (if (wrap64 ((wrap64 (((l0.length : Int) / 2))) + x7_1)) < (l0.length : Int) then (spec_l04Across.l1 k1 l0 a1 (l0.length : Int) x6_1 x7_1 (rd_L4 l0 (ji12)) (rd_L4 l0 (wrap64 ((wrap64 (((l0.length : Int) / 2))) + x7_1))) (([] : List (List (S35)))) 0) else (none)) else (none)) else (none)) else (none)) = some r := by first | (rw [hji12] at H; exact H) | (simp only [hji12] at H ⊢; exact H)
         have hji12w : (IntKind.i64.wrap ((wrap64 ((wrap64 (((l0.length : Int) / 2))) - 1)) - x7_1)) = ji12 := (i64_w _).trans hji12
         by_cases c13 : 0 ≤ (ji12)
         ·rw [if_pos c13] at H
          have c13b0 : decide (0 ≤ (ji12)) = true := decide_eq_true c13
          clear c13
          by_cases c14 : (ji12) < (l0.length : Int)
          ·rw [if_pos c14] at H
           have c14b0 : decide ((ji12) < (l0.length : Int)) = true := decide_eq_true c14
           clear c14
           obtain ⟨ji15, hji15⟩ : ∃ j_ : Int, (wrap64 ((wrap64 (((l0.length : Int) / 2))) + x7_1)) = j_ := ⟨_, rfl⟩
           replace H : (if 0 ≤ (ji15) then (if (ji15) < (l0.length : Int) then (spec_l04Across.l1 k1 l0 a1 (l0.length : Int) x6_1 x7_1 (rd_L4 l0 (ji12)) (rd_L4 l0 (ji15)) (([] : List (List (S35)))) 0) else (none)) else (none)) = some r := by first | (rw [hji15] at H; exact H) | (simp only [hji15] at H ⊢; exact H)
           have hji15w : (IntKind.i64.wrap ((wrap64 (((l0.length : Int) / 2))) + x7_1)) = ji15 := (i64_w _).trans hji15
           by_cases c16 : 0 ≤ (ji15)
           ·rw [if_pos c16] at H
            have c16b0 : decide (0 ≤ (ji15)) = true := decide_eq_true c16
            clear c16
            by_cases c17 : (ji15) < (l0.length : Int)
            ·rw [if_pos c17] at H
             have c17b0 : decide ((ji15) < (l0.length : Int)) = true := decide_eq_true c17
             clear c17
             obtain ⟨y169, hy169⟩ : ∃ y_ : List (List (S35)), y_ = (([] : List (List (S35)))) := ⟨_, rfl⟩
             replace H : (spec_l04Across.l1 k1 l0 a1 (l0.length : Int) x6_1 x7_1 (rd_L4 l0 (ji12)) (rd_L4 l0 (ji15)) y169 0) = some r := rh_ hy169 H
             have Ny169 := a_ hy169
             clear hy169
             have H' := a_ H
             clear H
             try go_wp2
             replace HO_6 := a_ (Kd.R_drew HO_6.out)
             replace HB := a_ (below_drew1 HB.out)
             have p165 : 0 ≤ ((ji6) : Int) := of_decide_eq_true z47_
             have q165 : (ji6) < (l0.length : Int) := of_decide_eq_true z47_
             obtain ⟨ad165, A165_0, c165_0, e165, hx165_0, hl165_0, hi165_0⟩ := at_L4 HR0.out (ji6) p165 q165
             have hw165_0 := hx165_0
             cases e165
             replace hx165_0 := (HB.out.cell (World.block_lt_of_cell? _ _ hx165_0)).trans hx165_0
             have HR165_0 := a_ hi165_0
             have HC165_0 := a_ hl165_0
             clear hi165_0 hl165_0
             replace p165 := eq_true p165
             replace q165 := eq_true q165
             have p166 : 0 ≤ (x7_1 : Int) := of_decide_eq_true z47_
             have q166 : x7_1 < (l0.length : Int) := of_decide_eq_true z47_
             obtain ⟨ad166, A166_0, c166_0, e166, hx166_0, hl166_0, hi166_0⟩ := at_L4 HR0.out x7_1 p166 q166
             have hw166_0 := hx166_0
             obtain rfl : ad165 = ad166 := (by injection e166)
             replace hx166_0 := (HB.out.cell (World.block_lt_of_cell? _ _ hx166_0)).trans hx166_0
             have HR166_0 := a_ hi166_0
             have HC166_0 := a_ hl166_0
             clear hi166_0 hl166_0
             replace p166 := eq_true p166
             replace q166 := eq_true q166
             refine start_ (n := 13) (S := fun w' => w'.cell? (ad165.add ((ji6)).toNat) = some (.slice A165_0 (rd_L4 l0 (ji6)).length c165_0) ∧ w'.cell? (ad165.add (x7_1).toNat) = some (.slice A166_0 (rd_L4 l0 x7_1).length c166_0)) (ds := []) #[false, false, false, false, false, false, false, false, false, false, false, false, false] (by kernel_rfl) rfl rfl ⟨((HB.out.cell (World.block_lt_of_cell? _ _ hw165_0)).trans hw165_0), ((HB.out.cell (World.block_lt_of_cell? _ _ hw166_0)).trans hw166_0)⟩ (fun hHeld => ?_); refine with_tabW spec_l04Across.tab6 spec_l04Across.bits6 (fun HT_ HW_ => ?_)
             generalize wr.drew = w18 at HO_6 HB HR165_0 HR166_0 hx165_0 hx166_0 hHeld ⊢
             refine pv_ (i := 0) (N := some 21) ?_
             refine pv_ (i := 1) (N := some 22) ?_
             refine pv_ (i := 2) (N := some 23) ?_
             refine pv_ (i := 3) (N := some 24) ?_
             refine pv_ (i := 4) (N := some 25) ?_
             refine pv_ (i := 5) (N := some 26) ?_
             refine pv_ (i := 7) (N := some 28) ?_
             refine pv_ (i := 8) (N := some 29) ?_
             refine pv_ (i := 9) (N := some 30) ?_
             refine tl2_ (i := 6) (N := some 27) hHeld ?_
             refine pv_ (i := 11) (N := some 8) ?_
             refine tl2_ (i := 10) (N := some 31) hHeld ?_
             refine pv_ (i := 12) (N := some 9) ?_
             refine done_ (done_of HT_.out (by kernel_rfl)) ?_
             try go_wp2
             replace HO_6 := a_ (Kd.R_drew HO_6.out)
             replace HB := a_ (below_drew1 HB.out)
             have p167 : 0 ≤ ((ji12) : Int) := of_decide_eq_true z47_
             have q167 : (ji12) < (l0.length : Int) := of_decide_eq_true z47_
             obtain ⟨ad167, A167_0, c167_0, e167, hx167_0, hl167_0, hi167_0⟩ := at_L4 HR0.out (ji12) p167 q167
             have hw167_0 := hx167_0
             obtain rfl : ad165 = ad167 := (by injection e167)
             replace hx167_0 := (HB.out.cell (World.block_lt_of_cell? _ _ hx167_0)).trans hx167_0
             have HR167_0 := a_ hi167_0
             have HC167_0 := a_ hl167_0
             clear hi167_0 hl167_0
             replace p167 := eq_true p167
             replace q167 := eq_true q167
             have p168 : 0 ≤ ((ji15) : Int) := of_decide_eq_true z47_
             have q168 : (ji15) < (l0.length : Int) := of_decide_eq_true z47_
             obtain ⟨ad168, A168_0, c168_0, e168, hx168_0, hl168_0, hi168_0⟩ := at_L4 HR0.out (ji15) p168 q168
             have hw168_0 := hx168_0
             obtain rfl : ad165 = ad168 := (by injection e168)
             replace hx168_0 := (HB.out.cell (World.block_lt_of_cell? _ _ hx168_0)).trans hx168_0
             have HR168_0 := a_ hi168_0
             have HC168_0 := a_ hl168_0
             clear hi168_0 hl168_0
             replace p168 := eq_true p168
             replace q168 := eq_true q168
             refine start_ (n := 17) (S := fun w' => w'.cell? (ad165.add ((ji12)).toNat) = some (.slice A167_0 (rd_L4 l0 (ji12)).length c167_0) ∧ w'.cell? (ad165.add ((ji15)).toNat) = some (.slice A168_0 (rd_L4 l0 (ji15)).length c168_0)) (ds := []) #[false, false, false, false, false, false, false, false, false, false, false, false, false, false, false, false, false] (by kernel_rfl) rfl rfl ⟨((HB.out.cell (World.block_lt_of_cell? _ _ hw167_0)).trans hw167_0), ((HB.out.cell (World.block_lt_of_cell? _ _ hw168_0)).trans hw168_0)⟩ (fun hHeld => ?_); refine with_tabW spec_l04Across.tab8 spec_l04Across.bits8 (fun HT_ HW_ => ?_)
             generalize w18.drew = w19 at HO_6 HB HR167_0 HR168_0 hx167_0 hx168_0 hHeld ⊢
             refine pv_ (i := 0) (N := some 34) ?_
             refine pv_ (i := 1) (N := some 35) ?_
             refine pv_ (i := 2) (N := some 36) ?_
             refine pv_ (i := 3) (N := some 37) ?_
             refine pv_ (i := 4) (N := some 38) ?_
             refine pv_ (i := 5) (N := some 39) ?_
             refine pv_ (i := 6) (N := some 40) ?_
             refine pv_ (i := 8) (N := some 42) ?_
             refine pv_ (i := 9) (N := some 43) ?_
             refine pv_ (i := 10) (N := some 44) ?_
             refine pv_ (i := 11) (N := some 45) ?_
             refine pv_ (i := 12) (N := some 46) ?_
             refine pv_ (i := 13) (N := some 47) ?_
             refine tl2_ (i := 7) (N := some 41) hHeld ?_
             refine pv_ (i := 15) (N := some 8) ?_
             refine tl2_ (i := 14) (N := some 48) hHeld ?_
             refine pv_ (i := 16) (N := some 9) ?_
             refine done_ (done_of HT_.out (by kernel_rfl)) ?_
             try go_wp2_with (first | ((with_reducible refine gate_dst (N := 49) rfl ?_); refine Kd.S_lit (Kd.slice 35 k35) _ 32 ?hg (N := 49) ?hd (xs := ([] : List (List (S35)))) (inner := []) (ok := fun _ => True) (okp := fun _ => True) ?hr ?hp (fun _ hk => hk) trivial (Below.refl _ _) (Nat.le_refl _) (by simp) ?_; (case hd => rfl); (case hg => rfl); (case hr => first | (go_simp; done) | (go_simp; rfl)); (case hp => exact (Reps.none _ _)); intro v170 w20 ho21 hb hg_ hnew_; clear hg_ hnew_; (first | rw [← Ny169.out] at ho21 | (simp only [Int.reduceToNat] at ho21; rw [← Ny169.out] at ho21)); replace HO_6 := a_ (Kd.R_elder' (ra_ HO_6.out) (Kd.S_base ho21) hb); have HO171 := a_ (Kd.S_lower ho21 (below_size z23_)); replace HB := bst_ z23_ hb; clear hb ho21))
             go_loopg [10, 11] k1 (fun kq v10 v11 w' => ∃ (x10_2 : List (List (S35))) (x11_2 : Int), v11 = .int .i64 x11_2 ∧ Aside0 (spec_l04Across.l1 kq l0 a1 (l0.length : Int) x6_1 x7_1 (rd_L4 l0 (ji12)) (rd_L4 l0 (ji15)) x10_2 x11_2 = some r) ∧ Aside0 (kq ≤ k1) ∧ Aside0 (Kd.R (Kd.slice 32 (Kd.slice 35 k35)) 43 w' w.heap.size (fun k_ => some k_ ≠ (v10 : Value).ownBlock) u6 x6_1) ∧ Aside0 (Kd.S (Kd.slice 35 k35) 32 w' w.heap.size (fun _ => True) v10 x10_2) ∧ Aside0 (Below w.heap.size w w'))
             case atStart => exact ⟨(y169), (0), z48_, H', ⟨Nat.le_refl _⟩, ⟨z29_⟩, ⟨by (with_reducible repeat (first | apply Kd.S_alloc | apply Kd.S_drewN | apply Kd.S_drew)); exact HO171.out⟩, ⟨z23_⟩⟩
             case round =>
              clear H'
              try clear c5b0; try clear c7b0; try clear c8b0; try clear c9b0; try clear c10b0; try clear c11b0; try clear c11b1; try clear c13b0; try clear c14b0; try clear c16b0; try clear c17b0; try clear hx165_0; try clear hx166_0; try clear hx167_0; try clear hx168_0; try clear p165; try clear p166; try clear p167; try clear p168; try clear q165; try clear q166; try clear q167; try clear q168
              obtain ⟨x10_2, x11_2, rfl, HA, HK2, HO_6, HO_10, HB⟩ := hrel
              cases gk with
              | zero => exact absurd HA.out (by simp [spec_l04Across.l1])
              | succ k2 =>
               have H := HA.out
               clear HA
               simp only [spec_l04Across.l1] at H
               by_cases c22 : x11_2 < ((rd_L4 l0 (ji12)).length : Int)
               ·rw [if_pos c22] at H
                have c22b0 : decide (x11_2 < ((rd_L4 l0 (ji12)).length : Int)) = true := decide_eq_true c22
                clear c22
                by_cases c23 : 0 ≤ x11_2
                ·rw [if_pos c23] at H
                 have c23b0 : decide (0 ≤ x11_2) = true := decide_eq_true c23
                 clear c23
                 replace H := Option.bind_eq_some_iff.mp H
                 obtain ⟨t173, A240, H⟩ := H
                 replace H : (if x11_2 < ((rd_L4 l0 (ji15)).length : Int) then (if t173.length + (rd_L3 (rd_L4 l0 (ji15)) x11_2).length < 5864062014805 then (if x10_2.length < 5864062014805 then (spec_l04Across.l1 k2 l0 a1 (l0.length : Int) x6_1 x7_1 (rd_L4 l0 (ji12)) (rd_L4 l0 (ji15)) (x10_2 ++ [(t173 ++ (rd_L3 (rd_L4 l0 (ji15)) x11_2))]) (wrap64 (x11_2 + 1))) else (none)) else (none)) else (none)) = some r := H
                 have A24 := a_ A240
                 clear A240
                 by_cases c25 : x11_2 < ((rd_L4 l0 (ji15)).length : Int)
                 ·rw [if_pos c25] at H
                  have c25b0 : decide (x11_2 < ((rd_L4 l0 (ji15)).length : Int)) = true := decide_eq_true c25
                  clear c25
                  by_cases c26 : t173.length + (rd_L3 (rd_L4 l0 (ji15)) x11_2).length < 5864062014805
                  ·rw [if_pos c26] at H
                   have LMc26 := a_ c26
                   clear c26
                   obtain ⟨y177, hy177⟩ : ∃ y_ : List (S35), y_ = (t173 ++ (rd_L3 (rd_L4 l0 (ji15)) x11_2)) := ⟨_, rfl⟩
                   replace H : (if x10_2.length < 5864062014805 then (spec_l04Across.l1 k2 l0 a1 (l0.length : Int) x6_1 x7_1 (rd_L4 l0 (ji12)) (rd_L4 l0 (ji15)) (x10_2 ++ [y177]) (wrap64 (x11_2 + 1))) else (none)) = some r := rh_ hy177 H
                   have Ny177 := a_ hy177
                   clear hy177
                   by_cases c27 : x10_2.length < 5864062014805
                   ·rw [if_pos c27] at H
                    have LMc27 := a_ c27
                    clear c27
                    obtain ⟨y180, hy180⟩ : ∃ y_ : List (List (S35)), y_ = (x10_2 ++ [y177]) := ⟨_, rfl⟩
                    replace H : (spec_l04Across.l1 k2 l0 a1 (l0.length : Int) x6_1 x7_1 (rd_L4 l0 (ji12)) (rd_L4 l0 (ji15)) y180 (wrap64 (x11_2 + 1))) = some r := rh_ hy180 H
                    have Ny180 := a_ hy180
                    clear hy180
                    have H' := a_ H
                    clear H
                    try go_wp2
                    replace HO_6 := a_ (Kd.R_drew HO_6.out)
                    replace HO_10 := a_ (Kd.S_drew HO_10.out)
                    replace HB := a_ (below_drew1 HB.out)
                    have p172 : 0 ≤ (x11_2 : Int) := of_decide_eq_true z47_
                    have q172 : x11_2 < ((rd_L4 l0 (ji12)).length : Int) := of_decide_eq_true z47_
                    obtain ⟨ad172, A172_0, c172_0, e172, hx172_0, hl172_0, hi172_0⟩ := at_L3 HR167_0.out x11_2 p172 q172
                    have hw172_0 := hx172_0
                    cases e172
                    replace hx172_0 := (HB.out.cell (World.block_lt_of_cell? _ _ hx172_0)).trans hx172_0
                    have HR172_0 := a_ hi172_0
                    have HC172_0 := a_ hl172_0
                    clear hi172_0 hl172_0
                    replace p172 := eq_true p172
                    replace q172 := eq_true q172
                    have p176 : 0 ≤ (x11_2 : Int) := of_decide_eq_true z47_
                    have q176 : x11_2 < ((rd_L4 l0 (ji15)).length : Int) := of_decide_eq_true z47_
                    obtain ⟨ad176, A176_0, c176_0, e176, hx176_0, hl176_0, hi176_0⟩ := at_L3 HR168_0.out x11_2 p176 q176
                    have hw176_0 := hx176_0
                    cases e176
                    replace hx176_0 := (HB.out.cell (World.block_lt_of_cell? _ _ hx176_0)).trans hx176_0
                    have HR176_0 := a_ hi176_0
                    have HC176_0 := a_ hl176_0
                    clear hi176_0 hl176_0
                    replace p176 := eq_true p176
                    replace q176 := eq_true q176
                    refine start_ (n := 14) (S := fun w' => w'.cell? (ad172.add (x11_2).toNat) = some (.slice A172_0 (rd_L3 (rd_L4 l0 (ji12)) x11_2).length c172_0) ∧ w'.cell? (ad176.add (x11_2).toNat) = some (.slice A176_0 (rd_L3 (rd_L4 l0 (ji15)) x11_2).length c176_0)) (ds := []) #[false, false, false, false, false, false, false, false, false, false, false, false, false, false] (by kernel_rfl) rfl rfl ⟨((HB.out.cell (World.block_lt_of_cell? _ _ hw172_0)).trans hw172_0), ((HB.out.cell (World.block_lt_of_cell? _ _ hw176_0)).trans hw176_0)⟩ (fun hHeld => ?_); refine with_tabW spec_l04Across.tab13 spec_l04Across.bits13 (fun HT_ HW_ => ?_)
                    generalize wr.drew = w28 at HO_6 HO_10 HB HR172_0 HR176_0 hx172_0 hx176_0 hHeld ⊢
                    refine pv_ (i := 0) (N := some 56) ?_
                    refine pv_ (i := 1) (N := some 57) ?_
                    refine pv_ (i := 2) (N := some 58) ?_
                    refine pv_ (i := 3) (N := some 59) ?_
                    refine pv_ (i := 6) (N := some 62) ?_
                    refine pv_ (i := 7) (N := some 63) ?_
                    refine pv_ (i := 8) (N := some 64) ?_
                    refine tl2_ (i := 4) (N := some 60) hHeld ?_
                    refine tl2_ (i := 9) (N := some 65) hHeld ?_
                    refine on_ (i := 5) (N := some 61) (fun K hK => ?_)
                    refine goes_ Tryd.func38 (by kernel_rfl) rfl #[.slice A172_0 (rd_L3 (rd_L4 l0 (ji12)) x11_2).length c172_0, .bool false] (by rfl) rfl rfl (by (try simp only [List.map_toArray, List.map_cons, List.map_nil]); first | done | (simp only [hji12]; rfl) | rfl | (simp only [List.length_drop, List.length_take]; rfl)) ?_
                    with_reducible refine (spec_l04Turn.calls _ _ (rd_L3 (rd_L4 l0 (ji12)) x11_2) false t173 _ ?side1 ?side2 A24.out).mono ?_
                    (case side1 => exact kc_ (Kd.C_below HR172_0.out HB.out))
                    (case side2 => exact HC172_0.out)
                    rintro e w29 ⟨v174, rfl, ho0, hb⟩
                    refine ⟨_, rfl, ?_⟩
                    replace HO_6 := a_ (Kd.R_elder' (ra_ HO_6.out) (Kd.R_base ho0) hb)
                    replace HO_10 := a_ (Kd.S_elder' z39_ (Kd.R_base ho0) hb)
                    have HO175 := a_ (Kd.R_lower ho0 (below_size z23_))
                    replace HB := bst_ z23_ hb
                    (try clear hb)
                    (try clear hb2)
                    (try clear hk)
                    (try clear hi)
                    (try clear ho0)
                    refine hK.out _ _ ⟨((HB.out.cell (World.block_lt_of_cell? _ _ hw172_0)).trans hw172_0), ((HB.out.cell (World.block_lt_of_cell? _ _ hw176_0)).trans hw176_0)⟩ (fun hHeld => ?_)
                    clear hK K
                    refine nm_ ?_
                    refine on_ (i := 10) (N := some 66) (fun K hK => ?_)
                    refine Kd.R_append_rows_step k35 (w0 := w) w.heap.size (by rfl) (.tmp 61) (.tmp 65) 32 35 (.agg #[(.int .i64 0), (.int .i64 0), (.bool false), (.bool false)]) 24 rfl Tryd.underlying32 info35 rfl (by decide) (by omega) v174 t173 (rd_L3 (rd_L4 l0 (ji15)) x11_2) _ _ _ (fun _ => True) (fun _ => False) rfl rfl ?aO ?aR (fun _ _ h => h) (fun _ h => h.elim) ?aF ?aB ?aS ?aL ?_
                    (case aR => exact kc_ (Kd.C_below HR176_0.out HB.out))
                    (case aB => exact z23_)
                    (case aF => exact (fun _ _ => trivial))
                    (case aO => exact (ra_ HO175.out))
                    (case aS => exact (below_size z23_))
                    (case aL => have := LMc26.out; omega)
                    intro v178 w30 ho hb hg hat
                    rw [← Ny177.out] at ho
                    replace HO_6 := a_ (Kd.R_after (ok := (fun k_ => some k_ ≠ (u10 : Value).ownBlock)) (ra_ HO_6.out) hg hat)
                    replace HO_10 := a_ (Kd.S_after (ok := (fun _ => True)) z39_ hg hat)
                    replace HB := a_ (hb)
                    have HO179 := a_ (ho)
                    clear HO175
                    clear ho hb hg hat
                    obtain ⟨Ao32, co32, eo32⟩ := Kd.R_slice HO179.out
                    (first | subst eo32 | (injection eo32 with f1_ f2_ f3_; have f4_ := f1_.symm; have f5_ := f3_.symm; clear f1_ f2_ f3_; subst f4_; subst f5_))
                    refine hK.out _ _ ⟨((HB.out.cell (World.block_lt_of_cell? _ _ hw172_0)).trans hw172_0), ((HB.out.cell (World.block_lt_of_cell? _ _ hw176_0)).trans hw176_0)⟩ (fun hHeld => ?_)
                    clear hK K
                    refine nm_ ?_
                    refine on_ (i := 11) (N := some 67) (fun K hK => ?_)
                    refine value_ (w1 := ?_) (v := ?_) (by rfl) rfl ?_ ?_
                    rotate_left 2
                    ·go_simp
                     constructor
                     ·rfl
                     ·rfl
                    refine hK.out _ _ ⟨(World.cell?_alloc_lt _ _ _ (World.block_lt_of_cell? _ _ (((HB.out.cell (World.block_lt_of_cell? _ _ hw172_0)).trans hw172_0)))).trans (((HB.out.cell (World.block_lt_of_cell? _ _ hw172_0)).trans hw172_0)), (World.cell?_alloc_lt _ _ _ (World.block_lt_of_cell? _ _ (((HB.out.cell (World.block_lt_of_cell? _ _ hw176_0)).trans hw176_0)))).trans (((HB.out.cell (World.block_lt_of_cell? _ _ hw176_0)).trans hw176_0))⟩ (fun hHeld => ?_)
                    clear hK K
                    refine nm_ ?_
                    refine on_ (i := 12) (N := some 68) (fun K hK => ?_)
                    refine Kd.S_append_step (Kd.slice 35 k35) (w0 := w) w.heap.size (by rfl) (.tmp 56) (.tmp 67) 43 32 (.slice none 0 0) 24 rfl Tryd.underlying43 info32 rfl (by decide) (by omega) u10 x10_2 y177 [.slice Ao32 y177.length co32] (fun _ => True) (fun k_ => some k_ = (.slice Ao32 y177.length co32 : Value).ownBlock) rfl rfl ?aP (fun k_ hk_ => ((Kd.R_mono (ok' := fun k_ => ((fun _ => True)) k_ ∧ some k_ ≠ (u10 : Value).ownBlock) (Kd.R_apart' (HO179.out) (Kd.S_typed HO_10.out) (by decide)) (fun k_ hk => ⟨trivial, hk.2⟩))).1 k_ hk_.symm) ?aF ?aO ?aB ?aS ?aL ?_
                    (case aP => exact Kd.M_row (Kd.R_mono (Kd.R_tight rfl (Kd.R_mono (ok' := fun k_ => ((fun _ => True)) k_ ∧ some k_ ≠ (u10 : Value).ownBlock) (Kd.R_apart' (HO179.out) (Kd.S_typed HO_10.out) (by decide)) (fun k_ hk => ⟨trivial, hk.2⟩))) (fun _ h_ => h_)))
                    (case aB => exact z23_)
                    (case aF => exact (fun _ _ => trivial))
                    (case aO => exact (by (with_reducible repeat (first | apply Kd.S_alloc | apply Kd.S_drewN | apply Kd.S_drew)); exact Kd.S_mono HO_10.out (fun k_ hk => ⟨trivial, fun e_ => hk.2 e_⟩)))
                    (case aS => exact (below_size z23_))
                    (case aL => have := LMc27.out; omega)
                    intro v181 w31 ho hb hg hat
                    rw [← Ny180.out] at ho
                    replace HO_6 := a_ (Kd.R_after (ok := (fun k_ => nb_ k_ Ao32 y177.length co32)) (rc_ (h := by exact Kd.R_mono HO_6.out (fun _ hk => ⟨hk.2, hk.1⟩))) hg hat)
                    replace HB := a_ (hb)
                    have HO182 := a_ (ho)
                    clear HO179; clear HO_10
                    clear ho hb hg hat
                    refine hK.out _ _ ⟨((HB.out.cell (World.block_lt_of_cell? _ _ hw172_0)).trans hw172_0), ((HB.out.cell (World.block_lt_of_cell? _ _ hw176_0)).trans hw176_0)⟩ (fun hHeld => ?_)
                    clear hK K
                    refine nm_ ?_
                    refine pv_ (i := 13) (N := some 10) ?_
                    refine done_ (done_of HT_.out (by kernel_rfl)) ?_
                    try go_wp2
                    go_roundg k2
                    case measure => have := HK1.out; have := HK2.out; omega
                    case rel => exact ⟨(y180), (wrap64 (x11_2 + 1)), z48_, H', ⟨z49_⟩, ⟨z29_⟩, ⟨by (with_reducible repeat (first | apply Kd.S_alloc | apply Kd.S_drewN | apply Kd.S_drew)); exact HO182.out⟩, ⟨z23_⟩⟩
                   ·rw [if_neg c27] at H
                    exact absurd H (by simp)
                  ·rw [if_neg c26] at H
                   exact absurd H (by simp)
                 ·rw [if_neg c25] at H
                  exact absurd H (by simp)
                ·rw [if_neg c23] at H
                 exact absurd H (by simp)
               ·rw [if_neg c22] at H
                have c22b0 : decide (x11_2 < ((rd_L4 l0 (ji12)).length : Int)) = false := decide_eq_false c22
                clear c22
                by_cases c33 : x6_1.length < 5864062014805
                ·rw [if_pos c33] at H
                 have LMc33 := a_ c33
                 clear c33
                 obtain ⟨y183, hy183⟩ : ∃ y_ : List (List (List (S35))), y_ = (x6_1 ++ [x10_2]) := ⟨_, rfl⟩
                 replace H : (spec_l04Across.l0 k2 l0 a1 (l0.length : Int) y183 (wrap64 (x7_1 + 1))) = some r := rh_ hy183 H
                 have Ny183 := a_ hy183
                 clear hy183
                 have H' := a_ H
                 clear H
                 obtain ⟨Ao35, co35, eo35⟩ := Kd.S_slice HO_10.out
                 subst eo35
                 go_wp2_with (first | ((with_reducible refine gate_builtin (b := .append) (xs := #[.tmp 69, .tmp 71]) rfl ?_); at_builtin; refine Kd.R_append (Kd.slice 32 (Kd.slice 35 k35)) (w0 := w) w.heap.size rfl (.tmp 69) (.tmp 71) 42 43 (.slice none 0 0) 24 rfl Tryd.underlying42 info43 rfl (by decide) (by omega) u6 x6_1 x10_2 [.slice Ao35 x10_2.length co35] (fun _ => True) (fun k_ => ((fun _ => True)) k_ ∧ some k_ ≠ (u6 : Value).ownBlock) rfl rfl ?aP (fun _ hk => hk) ?aF ?aO ?aB ?aS ?aL ?_; (case aP => exact Kd.M_row (Kd.R_mono (Kd.R_apart' ((Kd.S_R HO_10.out)) (Kd.R_typed HO_6.out) (by decide)) (fun k_ hk => ⟨trivial, hk.2⟩))); (case aB => exact z23_); (case aF => exact (fun _ _ => trivial)); (case aO => exact (rc_ (h := by exact Kd.R_mono HO_6.out (fun _ hk => trivial)))); (case aS => exact (below_size z23_)); (case aL => have := LMc33.out; omega); intro v184 w34 ho hb hg hat; rw [← Ny183.out] at ho; replace HB := a_ (hb); have HO185 := a_ (ho); clear HO_10; clear HO_6; clear ho hb hg hat))
                 go_roundg k2
                 case measure => have := HK1.out; have := HK2.out; omega
                 case rel => exact ⟨(y183), (wrap64 (x7_1 + 1)), z48_, H', ⟨z49_⟩, ⟨by (with_reducible repeat (first | apply Kd.R_alloc | apply Kd.R_drewN | apply Kd.R_drew)); exact HO185.out⟩, ⟨z23_⟩⟩
                ·rw [if_neg c33] at H
                 exact absurd H (by simp)
            ·rw [if_neg c17] at H
             exact absurd H (by simp)
           ·rw [if_neg c16] at H
            exact absurd H (by simp)
          ·rw [if_neg c14] at H
           exact absurd H (by simp)
         ·rw [if_neg c13] at H
          exact absurd H (by simp)
        ·rw [if_neg c11] at H
         have c11b0 : (a1 == 84) = false := beq_eq_false_iff_ne.mpr c11
         have c11b1 : (a1 != 84) = true := bne_iff_ne.mpr c11
         obtain ⟨y186, hy186⟩ : ∃ y_ : List (List (S35)), y_ = (([] : List (List (S35)))) := ⟨_, rfl⟩
         replace H : (spec_l04Across.l101 k1 l0 a1 (l0.length : Int) x6_1 x7_1 (rd_L4 l0 (ji6)) (rd_L4 l0 x7_1) y186 0) = some r := rh_ hy186 H
         have Ny186 := a_ hy186
         clear hy186
         have H' := a_ H
         clear H
         try go_wp2
         replace HO_6 := a_ (Kd.R_drew HO_6.out)
         replace HB := a_ (below_drew1 HB.out)
         have p165 : 0 ≤ ((ji6) : Int) := of_decide_eq_true z47_
         have q165 : (ji6) < (l0.length : Int) := of_decide_eq_true z47_
         obtain ⟨ad165, A165_0, c165_0, e165, hx165_0, hl165_0, hi165_0⟩ := at_L4 HR0.out (ji6) p165 q165
         have hw165_0 := hx165_0
         cases e165
         replace hx165_0 := (HB.out.cell (World.block_lt_of_cell? _ _ hx165_0)).trans hx165_0
         have HR165_0 := a_ hi165_0
         have HC165_0 := a_ hl165_0
         clear hi165_0 hl165_0
         replace p165 := eq_true p165
         replace q165 := eq_true q165
         have p166 : 0 ≤ (x7_1 : Int) := of_decide_eq_true z47_
         have q166 : x7_1 < (l0.length : Int) := of_decide_eq_true z47_
         obtain ⟨ad166, A166_0, c166_0, e166, hx166_0, hl166_0, hi166_0⟩ := at_L4 HR0.out x7_1 p166 q166
         have hw166_0 := hx166_0
         obtain rfl : ad165 = ad166 := (by injection e166)
         replace hx166_0 := (HB.out.cell (World.block_lt_of_cell? _ _ hx166_0)).trans hx166_0
         have HR166_0 := a_ hi166_0
         have HC166_0 := a_ hl166_0
         clear hi166_0 hl166_0
         replace p166 := eq_true p166
         replace q166 := eq_true q166
         refine start_ (n := 13) (S := fun w' => w'.cell? (ad165.add ((ji6)).toNat) = some (.slice A165_0 (rd_L4 l0 (ji6)).length c165_0) ∧ w'.cell? (ad165.add (x7_1).toNat) = some (.slice A166_0 (rd_L4 l0 x7_1).length c166_0)) (ds := []) #[false, false, false, false, false, false, false, false, false, false, false, false, false] (by kernel_rfl) rfl rfl ⟨((HB.out.cell (World.block_lt_of_cell? _ _ hw165_0)).trans hw165_0), ((HB.out.cell (World.block_lt_of_cell? _ _ hw166_0)).trans hw166_0)⟩ (fun hHeld => ?_); refine with_tabW spec_l04Across.tab6 spec_l04Across.bits6 (fun HT_ HW_ => ?_)
         generalize wr.drew = w36 at HO_6 HB HR165_0 HR166_0 hx165_0 hx166_0 hHeld ⊢
         refine pv_ (i := 0) (N := some 21) ?_
         refine pv_ (i := 1) (N := some 22) ?_
         refine pv_ (i := 2) (N := some 23) ?_
         refine pv_ (i := 3) (N := some 24) ?_
         refine pv_ (i := 4) (N := some 25) ?_
         refine pv_ (i := 5) (N := some 26) ?_
         refine pv_ (i := 7) (N := some 28) ?_
         refine pv_ (i := 8) (N := some 29) ?_
         refine pv_ (i := 9) (N := some 30) ?_
         refine tl2_ (i := 6) (N := some 27) hHeld ?_
         refine pv_ (i := 11) (N := some 8) ?_
         refine tl2_ (i := 10) (N := some 31) hHeld ?_
         refine pv_ (i := 12) (N := some 9) ?_
         refine done_ (done_of HT_.out (by kernel_rfl)) ?_
         try go_wp2_with (first | ((with_reducible refine gate_dst (N := 49) rfl ?_); refine Kd.S_lit (Kd.slice 35 k35) _ 32 ?hg (N := 49) ?hd (xs := ([] : List (List (S35)))) (inner := []) (ok := fun _ => True) (okp := fun _ => True) ?hr ?hp (fun _ hk => hk) trivial (Below.refl _ _) (Nat.le_refl _) (by simp) ?_; (case hd => rfl); (case hg => rfl); (case hr => first | (go_simp; done) | (go_simp; rfl)); (case hp => exact (Reps.none _ _)); intro v187 w37 ho38 hb hg_ hnew_; clear hg_ hnew_; (first | rw [← Ny186.out] at ho38 | (simp only [Int.reduceToNat] at ho38; rw [← Ny186.out] at ho38)); replace HO_6 := a_ (Kd.R_elder' (ra_ HO_6.out) (Kd.S_base ho38) hb); have HO188 := a_ (Kd.S_lower ho38 (below_size z23_)); replace HB := bst_ z23_ hb; clear hb ho38))
         go_loopg [10, 11] k1 (fun kq v10 v11 w' => ∃ (x10_2 : List (List (S35))) (x11_2 : Int), v11 = .int .i64 x11_2 ∧ Aside0 (spec_l04Across.l101 kq l0 a1 (l0.length : Int) x6_1 x7_1 (rd_L4 l0 (ji6)) (rd_L4 l0 x7_1) x10_2 x11_2 = some r) ∧ Aside0 (kq ≤ k1) ∧ Aside0 (Kd.R (Kd.slice 32 (Kd.slice 35 k35)) 43 w' w.heap.size (fun k_ => some k_ ≠ (v10 : Value).ownBlock) u6 x6_1) ∧ Aside0 (Kd.S (Kd.slice 35 k35) 32 w' w.heap.size (fun _ => True) v10 x10_2) ∧ Aside0 (Below w.heap.size w w'))
         case atStart => exact ⟨(y186), (0), z48_, H', ⟨Nat.le_refl _⟩, ⟨z29_⟩, ⟨by (with_reducible repeat (first | apply Kd.S_alloc | apply Kd.S_drewN | apply Kd.S_drew)); exact HO188.out⟩, ⟨z23_⟩⟩
         case round =>
          clear H'
          try clear c5b0; try clear c7b0; try clear c8b0; try clear c9b0; try clear c10b0; try clear c11; try clear c11b0; try clear c11b1; try clear hx165_0; try clear hx166_0; try clear p165; try clear p166; try clear q165; try clear q166
          obtain ⟨x10_2, x11_2, rfl, HA, HK2, HO_6, HO_10, HB⟩ := hrel
          cases gk with
          | zero => exact absurd HA.out (by simp [spec_l04Across.l101])
          | succ k2 =>
           have H := HA.out
           clear HA
           simp only [spec_l04Across.l101] at H
           by_cases c39 : x11_2 < ((rd_L4 l0 (ji6)).length : Int)
           ·rw [if_pos c39] at H
            have c39b0 : decide (x11_2 < ((rd_L4 l0 (ji6)).length : Int)) = true := decide_eq_true c39
            clear c39
            by_cases c40 : 0 ≤ x11_2
            ·rw [if_pos c40] at H
             have c40b0 : decide (0 ≤ x11_2) = true := decide_eq_true c40
             clear c40
             replace H := Option.bind_eq_some_iff.mp H
             obtain ⟨t190, A410, H⟩ := H
             replace H : (if x11_2 < ((rd_L4 l0 x7_1).length : Int) then (if t190.length + (rd_L3 (rd_L4 l0 x7_1) x11_2).length < 5864062014805 then (if x10_2.length < 5864062014805 then (spec_l04Across.l101 k2 l0 a1 (l0.length : Int) x6_1 x7_1 (rd_L4 l0 (ji6)) (rd_L4 l0 x7_1) (x10_2 ++ [(t190 ++ (rd_L3 (rd_L4 l0 x7_1) x11_2))]) (wrap64 (x11_2 + 1))) else (none)) else (none)) else (none)) = some r := H
             have A41 := a_ A410
             clear A410
             by_cases c42 : x11_2 < ((rd_L4 l0 x7_1).length : Int)
             ·rw [if_pos c42] at H
              have c42b0 : decide (x11_2 < ((rd_L4 l0 x7_1).length : Int)) = true := decide_eq_true c42
              clear c42
              by_cases c43 : t190.length + (rd_L3 (rd_L4 l0 x7_1) x11_2).length < 5864062014805
              ·rw [if_pos c43] at H
               have LMc43 := a_ c43
               clear c43
               obtain ⟨y194, hy194⟩ : ∃ y_ : List (S35), y_ = (t190 ++ (rd_L3 (rd_L4 l0 x7_1) x11_2)) := ⟨_, rfl⟩
               replace H : (if x10_2.length < 5864062014805 then (spec_l04Across.l101 k2 l0 a1 (l0.length : Int) x6_1 x7_1 (rd_L4 l0 (ji6)) (rd_L4 l0 x7_1) (x10_2 ++ [y194]) (wrap64 (x11_2 + 1))) else (none)) = some r := rh_ hy194 H
               have Ny194 := a_ hy194
               clear hy194
               by_cases c44 : x10_2.length < 5864062014805
               ·rw [if_pos c44] at H
                have LMc44 := a_ c44
                clear c44
                obtain ⟨y197, hy197⟩ : ∃ y_ : List (List (S35)), y_ = (x10_2 ++ [y194]) := ⟨_, rfl⟩
                replace H : (spec_l04Across.l101 k2 l0 a1 (l0.length : Int) x6_1 x7_1 (rd_L4 l0 (ji6)) (rd_L4 l0 x7_1) y197 (wrap64 (x11_2 + 1))) = some r := rh_ hy197 H
                have Ny197 := a_ hy197
                clear hy197
                have H' := a_ H
                clear H
                try go_wp2
                replace HO_6 := a_ (Kd.R_drew HO_6.out)
                replace HO_10 := a_ (Kd.S_drew HO_10.out)
                replace HB := a_ (below_drew1 HB.out)
                have p189 : 0 ≤ (x11_2 : Int) := of_decide_eq_true z47_
                have q189 : x11_2 < ((rd_L4 l0 (ji6)).length : Int) := of_decide_eq_true z47_
                obtain ⟨ad189, A189_0, c189_0, e189, hx189_0, hl189_0, hi189_0⟩ := at_L3 HR165_0.out x11_2 p189 q189
                have hw189_0 := hx189_0
                cases e189
                replace hx189_0 := (HB.out.cell (World.block_lt_of_cell? _ _ hx189_0)).trans hx189_0
                have HR189_0 := a_ hi189_0
                have HC189_0 := a_ hl189_0
                clear hi189_0 hl189_0
                replace p189 := eq_true p189
                replace q189 := eq_true q189
                have p193 : 0 ≤ (x11_2 : Int) := of_decide_eq_true z47_
                have q193 : x11_2 < ((rd_L4 l0 x7_1).length : Int) := of_decide_eq_true z47_
                obtain ⟨ad193, A193_0, c193_0, e193, hx193_0, hl193_0, hi193_0⟩ := at_L3 HR166_0.out x11_2 p193 q193
                have hw193_0 := hx193_0
                cases e193
                replace hx193_0 := (HB.out.cell (World.block_lt_of_cell? _ _ hx193_0)).trans hx193_0
                have HR193_0 := a_ hi193_0
                have HC193_0 := a_ hl193_0
                clear hi193_0 hl193_0
                replace p193 := eq_true p193
                replace q193 := eq_true q193
                refine start_ (n := 14) (S := fun w' => w'.cell? (ad189.add (x11_2).toNat) = some (.slice A189_0 (rd_L3 (rd_L4 l0 (ji6)) x11_2).length c189_0) ∧ w'.cell? (ad193.add (x11_2).toNat) = some (.slice A193_0 (rd_L3 (rd_L4 l0 x7_1) x11_2).length c193_0)) (ds := []) #[false, false, false, false, false, false, false, false, false, false, false, false, false, false] (by kernel_rfl) rfl rfl ⟨((HB.out.cell (World.block_lt_of_cell? _ _ hw189_0)).trans hw189_0), ((HB.out.cell (World.block_lt_of_cell? _ _ hw193_0)).trans hw193_0)⟩ (fun hHeld => ?_); refine with_tabW spec_l04Across.tab13 spec_l04Across.bits13 (fun HT_ HW_ => ?_)
                generalize wr.drew = w45 at HO_6 HO_10 HB HR189_0 HR193_0 hx189_0 hx193_0 hHeld ⊢
                refine pv_ (i := 0) (N := some 56) ?_
                refine pv_ (i := 1) (N := some 57) ?_
                refine pv_ (i := 2) (N := some 58) ?_
                refine pv_ (i := 3) (N := some 59) ?_
                refine pv_ (i := 6) (N := some 62) ?_
                refine pv_ (i := 7) (N := some 63) ?_
                refine pv_ (i := 8) (N := some 64) ?_
                refine tl2_ (i := 4) (N := some 60) hHeld ?_
                refine tl2_ (i := 9) (N := some 65) hHeld ?_
                refine on_ (i := 5) (N := some 61) (fun K hK => ?_)
                refine goes_ Tryd.func38 (by kernel_rfl) rfl #[.slice A189_0 (rd_L3 (rd_L4 l0 (ji6)) x11_2).length c189_0, .bool false] (by rfl) rfl rfl (by (try simp only [List.map_toArray, List.map_cons, List.map_nil]); first | done | (simp only [hji6]; rfl) | rfl | (simp only [List.length_drop, List.length_take]; rfl)) ?_
                with_reducible refine (spec_l04Turn.calls _ _ (rd_L3 (rd_L4 l0 (ji6)) x11_2) false t190 _ ?side1 ?side2 A41.out).mono ?_
                (case side1 => exact kc_ (Kd.C_below HR189_0.out HB.out))
                (case side2 => exact HC189_0.out)
                rintro e w46 ⟨v191, rfl, ho0, hb⟩
                refine ⟨_, rfl, ?_⟩
                replace HO_6 := a_ (Kd.R_elder' (ra_ HO_6.out) (Kd.R_base ho0) hb)
                replace HO_10 := a_ (Kd.S_elder' z39_ (Kd.R_base ho0) hb)
                have HO192 := a_ (Kd.R_lower ho0 (below_size z23_))
                replace HB := bst_ z23_ hb
                (try clear hb)
                (try clear hb2)
                (try clear hk)
                (try clear hi)
                (try clear ho0)
                refine hK.out _ _ ⟨((HB.out.cell (World.block_lt_of_cell? _ _ hw189_0)).trans hw189_0), ((HB.out.cell (World.block_lt_of_cell? _ _ hw193_0)).trans hw193_0)⟩ (fun hHeld => ?_)
                clear hK K
                refine nm_ ?_
                refine on_ (i := 10) (N := some 66) (fun K hK => ?_)
                refine Kd.R_append_rows_step k35 (w0 := w) w.heap.size (by rfl) (.tmp 61) (.tmp 65) 32 35 (.agg #[(.int .i64 0), (.int .i64 0), (.bool false), (.bool false)]) 24 rfl Tryd.underlying32 info35 rfl (by decide) (by omega) v191 t190 (rd_L3 (rd_L4 l0 x7_1) x11_2) _ _ _ (fun _ => True) (fun _ => False) rfl rfl ?aO ?aR (fun _ _ h => h) (fun _ h => h.elim) ?aF ?aB ?aS ?aL ?_
                (case aR => exact kc_ (Kd.C_below HR193_0.out HB.out))
                (case aB => exact z23_)
                (case aF => exact (fun _ _ => trivial))
                (case aO => exact (ra_ HO192.out))
                (case aS => exact (below_size z23_))
                (case aL => have := LMc43.out; omega)
                intro v195 w47 ho hb hg hat
                rw [← Ny194.out] at ho
                replace HO_6 := a_ (Kd.R_after (ok := (fun k_ => some k_ ≠ (u10 : Value).ownBlock)) (ra_ HO_6.out) hg hat)
                replace HO_10 := a_ (Kd.S_after (ok := (fun _ => True)) z39_ hg hat)
                replace HB := a_ (hb)
                have HO196 := a_ (ho)
                clear HO192
                clear ho hb hg hat
                obtain ⟨Ao49, co49, eo49⟩ := Kd.R_slice HO196.out
                (first | subst eo49 | (injection eo49 with f1_ f2_ f3_; have f4_ := f1_.symm; have f5_ := f3_.symm; clear f1_ f2_ f3_; subst f4_; subst f5_))
                refine hK.out _ _ ⟨((HB.out.cell (World.block_lt_of_cell? _ _ hw189_0)).trans hw189_0), ((HB.out.cell (World.block_lt_of_cell? _ _ hw193_0)).trans hw193_0)⟩ (fun hHeld => ?_)
                clear hK K
                refine nm_ ?_
                refine on_ (i := 11) (N := some 67) (fun K hK => ?_)
                refine value_ (w1 := ?_) (v := ?_) (by rfl) rfl ?_ ?_
                rotate_left 2
                ·go_simp
                 constructor
                 ·rfl
                 ·rfl
                refine hK.out _ _ ⟨(World.cell?_alloc_lt _ _ _ (World.block_lt_of_cell? _ _ (((HB.out.cell (World.block_lt_of_cell? _ _ hw189_0)).trans hw189_0)))).trans (((HB.out.cell (World.block_lt_of_cell? _ _ hw189_0)).trans hw189_0)), (World.cell?_alloc_lt _ _ _ (World.block_lt_of_cell? _ _ (((HB.out.cell (World.block_lt_of_cell? _ _ hw193_0)).trans hw193_0)))).trans (((HB.out.cell (World.block_lt_of_cell? _ _ hw193_0)).trans hw193_0))⟩ (fun hHeld => ?_)
                clear hK K
                refine nm_ ?_
                refine on_ (i := 12) (N := some 68) (fun K hK => ?_)
                refine Kd.S_append_step (Kd.slice 35 k35) (w0 := w) w.heap.size (by rfl) (.tmp 56) (.tmp 67) 43 32 (.slice none 0 0) 24 rfl Tryd.underlying43 info32 rfl (by decide) (by omega) u10 x10_2 y194 [.slice Ao49 y194.length co49] (fun _ => True) (fun k_ => some k_ = (.slice Ao49 y194.length co49 : Value).ownBlock) rfl rfl ?aP (fun k_ hk_ => ((Kd.R_mono (ok' := fun k_ => ((fun _ => True)) k_ ∧ some k_ ≠ (u10 : Value).ownBlock) (Kd.R_apart' (HO196.out) (Kd.S_typed HO_10.out) (by decide)) (fun k_ hk => ⟨trivial, hk.2⟩))).1 k_ hk_.symm) ?aF ?aO ?aB ?aS ?aL ?_
                (case aP => exact Kd.M_row (Kd.R_mono (Kd.R_tight rfl (Kd.R_mono (ok' := fun k_ => ((fun _ => True)) k_ ∧ some k_ ≠ (u10 : Value).ownBlock) (Kd.R_apart' (HO196.out) (Kd.S_typed HO_10.out) (by decide)) (fun k_ hk => ⟨trivial, hk.2⟩))) (fun _ h_ => h_)))
                (case aB => exact z23_)
                (case aF => exact (fun _ _ => trivial))
                (case aO => exact (by (with_reducible repeat (first | apply Kd.S_alloc | apply Kd.S_drewN | apply Kd.S_drew)); exact Kd.S_mono HO_10.out (fun k_ hk => ⟨trivial, fun e_ => hk.2 e_⟩)))
                (case aS => exact (below_size z23_))
                (case aL => have := LMc44.out; omega)
                intro v198 w48 ho hb hg hat
                rw [← Ny197.out] at ho
                replace HO_6 := a_ (Kd.R_after (ok := (fun k_ => nb_ k_ Ao49 y194.length co49)) (rc_ (h := by exact Kd.R_mono HO_6.out (fun _ hk => ⟨hk.2, hk.1⟩))) hg hat)
                replace HB := a_ (hb)
                have HO199 := a_ (ho)
                clear HO196; clear HO_10
                clear ho hb hg hat
                refine hK.out _ _ ⟨((HB.out.cell (World.block_lt_of_cell? _ _ hw189_0)).trans hw189_0), ((HB.out.cell (World.block_lt_of_cell? _ _ hw193_0)).trans hw193_0)⟩ (fun hHeld => ?_)
                clear hK K
                refine nm_ ?_
                refine pv_ (i := 13) (N := some 10) ?_
                refine done_ (done_of HT_.out (by kernel_rfl)) ?_
                try go_wp2
                go_roundg k2
                case measure => have := HK1.out; have := HK2.out; omega
                case rel => exact ⟨(y197), (wrap64 (x11_2 + 1)), z48_, H', ⟨z49_⟩, ⟨z29_⟩, ⟨by (with_reducible repeat (first | apply Kd.S_alloc | apply Kd.S_drewN | apply Kd.S_drew)); exact HO199.out⟩, ⟨z23_⟩⟩
               ·rw [if_neg c44] at H
                exact absurd H (by simp)
              ·rw [if_neg c43] at H
               exact absurd H (by simp)
             ·rw [if_neg c42] at H
              exact absurd H (by simp)
            ·rw [if_neg c40] at H
             exact absurd H (by simp)
           ·rw [if_neg c39] at H
            have c39b0 : decide (x11_2 < ((rd_L4 l0 (ji6)).length : Int)) = false := decide_eq_false c39
            clear c39
            by_cases c50 : x6_1.length < 5864062014805
            ·rw [if_pos c50] at H
             have LMc50 := a_ c50
             clear c50
             obtain ⟨y200, hy200⟩ : ∃ y_ : List (List (List (S35))), y_ = (x6_1 ++ [x10_2]) := ⟨_, rfl⟩
             replace H : (spec_l04Across.l0 k2 l0 a1 (l0.length : Int) y200 (wrap64 (x7_1 + 1))) = some r := rh_ hy200 H
             have Ny200 := a_ hy200
             clear hy200
             have H' := a_ H
             clear H
             obtain ⟨Ao52, co52, eo52⟩ := Kd.S_slice HO_10.out
             subst eo52
             go_wp2_with (first | ((with_reducible refine gate_builtin (b := .append) (xs := #[.tmp 69, .tmp 71]) rfl ?_); at_builtin; refine Kd.R_append (Kd.slice 32 (Kd.slice 35 k35)) (w0 := w) w.heap.size rfl (.tmp 69) (.tmp 71) 42 43 (.slice none 0 0) 24 rfl Tryd.underlying42 info43 rfl (by decide) (by omega) u6 x6_1 x10_2 [.slice Ao52 x10_2.length co52] (fun _ => True) (fun k_ => ((fun _ => True)) k_ ∧ some k_ ≠ (u6 : Value).ownBlock) rfl rfl ?aP (fun _ hk => hk) ?aF ?aO ?aB ?aS ?aL ?_; (case aP => exact Kd.M_row (Kd.R_mono (Kd.R_apart' ((Kd.S_R HO_10.out)) (Kd.R_typed HO_6.out) (by decide)) (fun k_ hk => ⟨trivial, hk.2⟩))); (case aB => exact z23_); (case aF => exact (fun _ _ => trivial)); (case aO => exact (rc_ (h := by exact Kd.R_mono HO_6.out (fun _ hk => trivial)))); (case aS => exact (below_size z23_)); (case aL => have := LMc50.out; omega); intro v201 w51 ho hb hg hat; rw [← Ny200.out] at ho; replace HB := a_ (hb); have HO202 := a_ (ho); clear HO_10; clear HO_6; clear ho hb hg hat))
             go_roundg k2
             case measure => have := HK1.out; have := HK2.out; omega
             case rel => exact ⟨(y200), (wrap64 (x7_1 + 1)), z48_, H', ⟨z49_⟩, ⟨by (with_reducible repeat (first | apply Kd.R_alloc | apply Kd.R_drewN | apply Kd.R_drew)); exact HO202.out⟩, ⟨z23_⟩⟩
            ·rw [if_neg c50] at H
             exact absurd H (by simp)
       ·rw [if_neg c10] at H
        exact absurd H (by simp)
      ·rw [if_neg c9] at H
       exact absurd H (by simp)
     ·rw [if_neg c8] at H
      exact absurd H (by simp)
    ·rw [if_neg c7] at H
     exact absurd H (by simp)
   ·rw [if_neg c5] at H
    have c5b0 : decide (x7_1 < (wrap64 (((l0.length : Int) / 2)))) = false := decide_eq_false c5
    clear c5
    obtain rfl := Option.some.inj H
    go_wp2
    go_ret
    exact ⟨_, z24_, by (with_reducible repeat (first | apply Kd.R_alloc | apply Kd.R_drewN | apply Kd.R_drew)); exact HO_6.out, z23_⟩

end Go.Proofs.YtkpidjmhdagkfaaDoor.QFnExactImposeSheet
-- halved
