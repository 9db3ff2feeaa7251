-- Written by own_print.py of this session's repo over the kit's print (its output, turned at some places).
import Derived.Test.YtkpidjmhdagkfaaGreatDoorQFnExactReadFormx0
import Derived.Test.YtkpidjmhdagkfaaGreatDoorQFnExactReadFormx9
namespace Go.Proofs.YtkpidjmhdagkfaaGreatDoor.QFnExactReadForm
open Go.RowKit Go.Proofs.YtkpidjmhdagkfaaGreatDoorW.PrintWords Go.Proofs.YtkpidjmhdagkfaaGreatDoorW.PrintLast Go.Proofs.YtkpidjmhdagkfaaGreatDoorW.PrintMore
attribute [local go_sem] max2_int min2_int max_two min_two max_three min_three max_four min_four   -- for this text's walks alone
set_option linter.unusedVariables false
set_option linter.unusedSimpArgs false

/-! ### spec_l04Across: function 99 -/
mutual
def spec_l04Across.l0 : Nat → List (List (List (S64))) → Int → Int → List (List (List (S64))) → Int → Option ((List (List (List (S64)))))
 | 0, _, _, _, _, _ => none
 | k + 1, x0, x1, x5, x6, x7 => if x7 < (wrap64 (Int.tdiv x5 2)) then (if 0 ≤ (wrap64 ((wrap64 (x5 - 1)) - x7)) then (if (wrap64 ((wrap64 (x5 - 1)) - x7)) < (x0.length : Int) then (if 0 ≤ x7 then (if x7 < (x0.length : Int) then (if x1 = 84 then (if 0 ≤ (wrap64 ((wrap64 ((wrap64 (Int.tdiv x5 2)) - 1)) - x7)) then (if (wrap64 ((wrap64 ((wrap64 (Int.tdiv x5 2)) - 1)) - x7)) < (x0.length : Int) then (if 0 ≤ (wrap64 ((wrap64 (Int.tdiv x5 2)) + x7)) then (if (wrap64 ((wrap64 (Int.tdiv x5 2)) + x7)) < (x0.length : Int) then (spec_l04Across.l1 k x0 x1 x5 x6 x7 (rd_L5 x0 (wrap64 ((wrap64 ((wrap64 (Int.tdiv x5 2)) - 1)) - x7))) (rd_L5 x0 (wrap64 ((wrap64 (Int.tdiv x5 2)) + x7))) (([] : List (List (S64)))) 0) else (none)) else (none)) else (none)) else (none)) else (spec_l04Across.l101 k x0 x1 x5 x6 x7 (rd_L5 x0 (wrap64 ((wrap64 (x5 - 1)) - x7))) (rd_L5 x0 x7) (([] : List (List (S64)))) 0)) else (none)) else (none)) else (none)) else (none)) else (some x6)
def spec_l04Across.l1 : Nat → List (List (List (S64))) → Int → Int → List (List (List (S64))) → Int → List (List (S64)) → List (List (S64)) → List (List (S64)) → Int → Option ((List (List (List (S64)))))
 | 0, _, _, _, _, _, _, _, _, _ => none
 | k + 1, x0, x1, x5, x6, x7, x8, x9, x10, x11 => if x11 < (x8.length : Int) then (if 0 ≤ x11 then ((spec_l04Turn.f (rd_L4 x8 x11) false).bind fun t336 => (if x11 < (x9.length : Int) then (if t336.length + (rd_L4 x9 x11).length < 5864062014805 then (if x10.length < 5864062014805 then (spec_l04Across.l1 k x0 x1 x5 x6 x7 x8 x9 (x10 ++ [(t336 ++ (rd_L4 x9 x11))]) (wrap64 (x11 + 1))) else (none)) else (none)) else (none))) else (none)) else (if x6.length < 5864062014805 then (spec_l04Across.l0 k x0 x1 x5 (x6 ++ [x10]) (wrap64 (x7 + 1))) else (none))
def spec_l04Across.l101 : Nat → List (List (List (S64))) → Int → Int → List (List (List (S64))) → Int → List (List (S64)) → List (List (S64)) → List (List (S64)) → Int → Option ((List (List (List (S64)))))
 | 0, _, _, _, _, _, _, _, _, _ => none
 | k + 1, x0, x1, x5, x6, x7, x8, x9, x10, x11 => if x11 < (x8.length : Int) then (if 0 ≤ x11 then ((spec_l04Turn.f (rd_L4 x8 x11) false).bind fun t353 => (if x11 < (x9.length : Int) then (if t353.length + (rd_L4 x9 x11).length < 5864062014805 then (if x10.length < 5864062014805 then (spec_l04Across.l101 k x0 x1 x5 x6 x7 x8 x9 (x10 ++ [(t353 ++ (rd_L4 x9 x11))]) (wrap64 (x11 + 1))) else (none)) else (none)) else (none))) else (none)) else (if x6.length < 5864062014805 then (spec_l04Across.l0 k x0 x1 x5 (x6 ++ [x10]) (wrap64 (x7 + 1))) else (none))
end
def spec_l04Across.f (k : Nat) (l0 : List (List (List (S64)))) (a1 : Int) : Option ((List (List (List (S64))))) := spec_l04Across.l0 k l0 a1 (l0.length : Int) (([] : List (List (List (S64))))) 0
theorem spec_l04Across.mono_l : ∀ k, (∀ y0 y1 y2 y3 y4, LeO (spec_l04Across.l0 k y0 y1 y2 y3 y4) (spec_l04Across.l0 (k + 1) y0 y1 y2 y3 y4)) ∧ (∀ y0 y1 y2 y3 y4 y5 y6 y7 y8, LeO (spec_l04Across.l1 k y0 y1 y2 y3 y4 y5 y6 y7 y8) (spec_l04Across.l1 (k + 1) y0 y1 y2 y3 y4 y5 y6 y7 y8)) ∧ (∀ y0 y1 y2 y3 y4 y5 y6 y7 y8, LeO (spec_l04Across.l101 k y0 y1 y2 y3 y4 y5 y6 y7 y8) (spec_l04Across.l101 (k + 1) y0 y1 y2 y3 y4 y5 y6 y7 y8))
 | 0 => ⟨fun _ _ _ _ _ r h => by simp [spec_l04Across.l0] at h, fun _ _ _ _ _ _ _ _ _ r h => by simp [spec_l04Across.l1] at h, fun _ _ _ _ _ _ _ _ _ r h => by simp [spec_l04Across.l101] at h⟩
 | k + 1 => by
  obtain ⟨ih0, ih1, ih2⟩ := spec_l04Across.mono_l k
  refine ⟨?_, ?_, ?_⟩
  ·intro y0 y1 y2 y3 y4
   unfold spec_l04Across.l0
   repeat' first
   | (with_reducible exact ih0 _ _ _ _ _)
   | (with_reducible exact ih1 _ _ _ _ _ _ _ _ _)
   | (with_reducible exact ih2 _ _ _ _ _ _ _ _ _)
   | (with_reducible exact LeO.refl _)
   | (with_reducible exact LeO.none _)
   | (with_reducible refine LeO.ite ?_ ?_)
   | (with_reducible refine LeO.bind ?_ (fun _ => ?_))
   | exact ih0 _ _ _ _ _
   | exact ih1 _ _ _ _ _ _ _ _ _
   | exact ih2 _ _ _ _ _ _ _ _ _
   | exact LeO.none _
   | refine LeO.ite ?_ ?_
   | refine LeO.bind ?_ (fun _ => ?_)
  ·intro y0 y1 y2 y3 y4 y5 y6 y7 y8
   unfold spec_l04Across.l1
   repeat' first
   | (with_reducible exact ih0 _ _ _ _ _)
   | (with_reducible exact ih1 _ _ _ _ _ _ _ _ _)
   | (with_reducible exact ih2 _ _ _ _ _ _ _ _ _)
   | (with_reducible exact LeO.refl _)
   | (with_reducible exact LeO.none _)
   | (with_reducible refine LeO.ite ?_ ?_)
   | (with_reducible refine LeO.bind ?_ (fun _ => ?_))
   | exact ih0 _ _ _ _ _
   | exact ih1 _ _ _ _ _ _ _ _ _
   | exact ih2 _ _ _ _ _ _ _ _ _
   | exact LeO.none _
   | refine LeO.ite ?_ ?_
   | refine LeO.bind ?_ (fun _ => ?_)
  ·intro y0 y1 y2 y3 y4 y5 y6 y7 y8
   unfold spec_l04Across.l101
   repeat' first
   | (with_reducible exact ih0 _ _ _ _ _)
   | (with_reducible exact ih1 _ _ _ _ _ _ _ _ _)
   | (with_reducible exact ih2 _ _ _ _ _ _ _ _ _)
   | (with_reducible exact LeO.refl _)
   | (with_reducible exact LeO.none _)
   | (with_reducible refine LeO.ite ?_ ?_)
   | (with_reducible refine LeO.bind ?_ (fun _ => ?_))
   | exact ih0 _ _ _ _ _
   | exact ih1 _ _ _ _ _ _ _ _ _
   | exact ih2 _ _ _ _ _ _ _ _ _
   | exact LeO.none _
   | refine LeO.ite ?_ ?_
   | refine LeO.bind ?_ (fun _ => ?_)
theorem spec_l04Across.mono : ∀ a0 a1 k, LeO (spec_l04Across.f k a0 a1) (spec_l04Across.f (k + 1) a0 a1) := by
 intro a0 a1 k
 obtain ⟨ih0, ih1, ih2⟩ := spec_l04Across.mono_l k
 unfold spec_l04Across.f
 repeat' first
   | (with_reducible exact ih0 _ _ _ _ _)
   | (with_reducible exact ih1 _ _ _ _ _ _ _ _ _)
   | (with_reducible exact ih2 _ _ _ _ _ _ _ _ _)
   | (with_reducible exact LeO.refl _)
   | (with_reducible exact LeO.none _)
   | (with_reducible refine LeO.ite ?_ ?_)
   | (with_reducible refine LeO.bind ?_ (fun _ => ?_))
   | exact ih0 _ _ _ _ _
   | exact ih1 _ _ _ _ _ _ _ _ _
   | exact ih2 _ _ _ _ _ _ _ _ _
   | exact LeO.none _
   | refine LeO.ite ?_ ?_
   | refine LeO.bind ?_ (fun _ => ?_)
def spec_l04Across.T6 : Bool × List (List Nat × List Nat) := (true, [([], []), ([], []), ([1], [1]), ([], []), ([2, 3], [2, 3]), ([0, 4], [0, 4]), ([5], [5]), ([], []), ([], []), ([7, 8], [7, 8]), ([9], [9]), ([6, 0, 1, 2, 3, 4, 5, 6], [6]), ([10, 11, 0, 1, 2, 3, 4, 5, 6, 7, 8, 9, 10, 11], [10])])
def spec_l04Across.B6 : List Nat := [0, 0, 2, 0, 14, 31, 63, 0, 0, 384, 896, 127, 4095]
theorem spec_l04Across.tab6 : rtab .any (opsOf Tryz.f99 6) = spec_l04Across.T6 := by kernel_rfl
theorem spec_l04Across.bits6 : waitsOk spec_l04Across.T6.2 spec_l04Across.B6 = true := by kernel_rfl
def spec_l04Across.T8 : Bool × List (List Nat × List Nat) := (true, [([], []), ([], []), ([1], [1]), ([2], [2]), ([], []), ([3, 4], [3, 4]), ([0, 5], [0, 5]), ([6], [6]), ([], []), ([], []), ([9], [9]), ([], []), ([10, 11], [10, 11]), ([8, 12], [8, 12]), ([13], [13]), ([7, 0, 1, 2, 3, 4, 5, 6, 7], [7]), ([14, 15, 0, 1, 2, 3, 4, 5, 6, 7, 8, 9, 10, 11, 12, 13, 14, 15], [14])])
def spec_l04Across.B8 : List Nat := [0, 0, 2, 6, 0, 30, 63, 127, 0, 0, 512, 0, 3584, 7936, 16128, 255, 65535]
theorem spec_l04Across.tab8 : rtab .any (opsOf Tryz.f99 8) = spec_l04Across.T8 := by kernel_rfl
theorem spec_l04Across.bits8 : waitsOk spec_l04Across.T8.2 spec_l04Across.B8 = true := by kernel_rfl
def spec_l04Across.T13 : Bool × List (List Nat × List Nat) := (true, [([], []), ([], []), ([], []), ([1, 2], [1, 2]), ([3], [3]), ([4], [4]), ([], []), ([], []), ([6, 7], [6, 7]), ([8], [8]), ([5, 9, 5], [5, 9]), ([10], [10]), ([0, 11, 10], [0, 11]), ([12, 12, 0, 1, 2, 3, 4, 5, 6, 7, 8, 9, 10, 11, 12], [0, 12])])
def spec_l04Across.B13 : List Nat := [0, 0, 0, 6, 14, 30, 0, 0, 192, 448, 1022, 2046, 4095, 8191]
theorem spec_l04Across.tab13 : rtab .any (opsOf Tryz.f99 13) = spec_l04Across.T13 := by kernel_rfl
theorem spec_l04Across.bits13 : waitsOk spec_l04Across.T13.2 spec_l04Across.B13 = true := by kernel_rfl
set_option maxHeartbeats 8000000 in
set_option maxRecDepth 100000 in
theorem spec_l04Across.calls (k : Nat) (A0 : Option Addr) (c0 : Nat) (l0 : List (List (List (S64)))) (a1 : Int) (r : List (List (List (S64)))) (w : World) (hr0 : Kd.C (Kd.slice 61 (Kd.slice 64 k64)) w A0 l0.length l0) (hc0 : l0.length ≤ c0) (h : spec_l04Across.f k l0 a1 = some r) :
  Calls Tryz.prog 99 #[.slice A0 l0.length c0, .int .u8 a1] w fun e w' => ∃ v0_ : Value, e = .returned (v0_) ∧ Kd.R (Kd.slice 61 (Kd.slice 64 k64)) 96 w' w.heap.size (fun _ => True) v0_ r ∧ Below w.heap.size w w' := by
 have HR0 := Aside0.mk hr0
 have HC0 := Aside0.mk hc0
 clear hr0 hc0
 have HB := a_ (Below.refl w.heap.size w)
 have H : (spec_l04Across.l0 k l0 a1 (l0.length : Int) (([] : List (List (List (S64))))) 0) = some r := h
 clear h
 obtain ⟨y325, hy325⟩ : ∃ y_ : List (List (List (S64))), y_ = (([] : List (List (List (S64))))) := ⟨_, rfl⟩
 replace H : (spec_l04Across.l0 k l0 a1 (l0.length : Int) y325 0) = some r := rh_ hy325 H
 have Ny325 := Aside0.mk hy325
 clear hy325
 have H' := Aside0.mk H
 clear H
 go_enter Tryz.func99, Tryz.ntmps99
 go_wp2_with (first | ((with_reducible refine gate_dst (N := 14) rfl ?_); refine Kd.R_lit (Kd.slice 61 (Kd.slice 64 k64)) _ 96 ?hg (N := 14) ?hd (xs := ([] : List (List (List (S64))))) (inner := []) (ok := fun _ => True) (okp := fun _ => True) ?hr ?hp (fun _ hk => hk) trivial (Below.refl _ _) (Nat.le_refl _) (by simp) ?_; (case hd => rfl); (case hg => rfl); (case hr => first | (go_simp; done) | (go_simp; rfl)); (case hp => exact (Reps.none _ _)); intro v326 w3 ho4 hb hg_ hnew_; clear hg_ hnew_; (first | rw [← Ny325.out] at ho4 | (simp only [Int.reduceToNat] at ho4; rw [← Ny325.out] at ho4)); have HO327 := a_ (Kd.R_lower ho4 (below_size z33_)); replace HB := a_ (below_step z33_ hb); clear hb ho4))
 go_loopg [6, 7] k (fun kq v6 v7 w' => ∃ (x6_1 : List (List (List (S64)))) (x7_1 : Int), v7 = .int .i64 x7_1 ∧ Aside0 (spec_l04Across.l0 kq l0 a1 (l0.length : Int) x6_1 x7_1 = some r) ∧ Aside0 (kq ≤ k) ∧ Aside0 (Kd.R (Kd.slice 61 (Kd.slice 64 k64)) 96 w' w.heap.size (fun _ => True) v6 x6_1) ∧ Aside0 (Below w.heap.size w w'))
 case atStart => exact ⟨(y325), (0), z78_, H', ⟨Nat.le_refl _⟩, ⟨by (with_reducible repeat (first | apply Kd.R_alloc | apply Kd.R_drewN | apply Kd.R_drew)); exact HO327.out⟩, ⟨z33_⟩⟩
 case round =>
  clear H'
  obtain ⟨x6_1, x7_1, rfl, HA, HK1, HO_6, HB⟩ := hrel
  cases gk with
  | zero => exact absurd HA.out (by simp [spec_l04Across.l0])
  | succ k1 =>
   have H := HA.out
   clear HA
   simp only [spec_l04Across.l0] at H
   (try simp only [show ∀ (n_ : Nat) (k_ : Int), Int.tdiv (n_ : Int) k_ = (n_ : Int) / k_ from fun n_ k_ => Int.tdiv_eq_ediv_of_nonneg (Int.natCast_nonneg n_), show ∀ (n_ : Nat) (k_ : Int), Int.tmod (n_ : Int) k_ = (n_ : Int) % k_ from fun n_ k_ => Int.tmod_eq_emod_of_nonneg (Int.natCast_nonneg n_)] at H)
   by_cases c5 : x7_1 < (wrap64 (((l0.length : Int) / 2)))
   ·rw [if_pos c5] at H
    have c5b0 : decide (x7_1 < (wrap64 (((l0.length : Int) / 2)))) = true := decide_eq_true c5
    clear c5
    obtain ⟨ji6, hji6⟩ : ∃ j_ : Int, (wrap64 ((wrap64 ((l0.length : Int) - 1)) - x7_1)) = j_ := ⟨_, rfl⟩
    replace H : (if 0 ≤ (ji6) then (if (ji6) < (l0.length : Int) then (if 0 ≤ x7_1 then (if x7_1 < (l0.length : Int) then (if a1 = 84 then (if 0 ≤ (wrap64 ((wrap64 ((wrap64 (((l0.length : Int) / 2))) - 1)) - x7_1)) then (if (wrap64 ((wrap64 ((wrap64 (((l0.length : Int) / 2))) - 1)) - x7_1)) < (l0.length : Int) then (if 0 ≤ (wrap64 ((wrap64 (((l0.length : Int) / 2))) + x7_1)) then (if (wrap64 ((wrap64 (((l0.length : Int) / 2))) + x7_1)) < (l0.length : Int) then (spec_l04Across.l1 k1 l0 a1 (l0.length : Int) x6_1 x7_1 (rd_L5 l0 (wrap64 ((wrap64 ((wrap64 (((l0.length : Int) / 2))) - 1)) - x7_1))) (rd_L5 l0 (wrap64 ((wrap64 (((l0.length : Int) / 2))) + x7_1))) (([] : List (List (S64)))) 0) else (none)) else (none)) else (none)) else (none)) else (spec_l04Across.l101 k1 l0 a1 (l0.length : Int) x6_1 x7_1 (rd_L5 l0 (ji6)) (rd_L5 l0 x7_1) (([] : List (List (S64)))) 0)) else (none)) else (none)) else (none)) else (none)) = some r := by first | (rw [hji6] at H; exact H) | (simp only [hji6] at H ⊢; exact H)
    have hji6w : (IntKind.i64.wrap ((wrap64 ((l0.length : Int) - 1)) - x7_1)) = ji6 := (i64_w _).trans hji6
    by_cases c7 : 0 ≤ (ji6)
    ·rw [if_pos c7] at H
     have c7b0 : decide (0 ≤ (ji6)) = true := decide_eq_true c7
     clear c7
     by_cases c8 : (ji6) < (l0.length : Int)
     ·rw [if_pos c8] at H
      have c8b0 : decide ((ji6) < (l0.length : Int)) = true := decide_eq_true c8
      clear c8
      by_cases c9 : 0 ≤ x7_1
      ·rw [if_pos c9] at H
       have c9b0 : decide (0 ≤ x7_1) = true := decide_eq_true c9
       clear c9
       by_cases c10 : x7_1 < (l0.length : Int)
       ·rw [if_pos c10] at H
        have c10b0 : decide (x7_1 < (l0.length : Int)) = true := decide_eq_true c10
        clear c10
        by_cases c11 : a1 = 84
        ·rw [if_pos c11] at H
         have c11b0 : (a1 == 84) = true := beq_iff_eq.mpr c11
         have c11b1 : (a1 != 84) = false := bne_eq_false_iff_eq.mpr c11
         clear c11
         obtain ⟨ji12, hji12⟩ : ∃ j_ : Int, (wrap64 ((wrap64 ((wrap64 (((l0.length : Int) / 2))) - 1)) - x7_1)) = j_ := ⟨_, rfl⟩
         replace H : (if 0 ≤ (ji12) then (if (ji12) < (l0.length : Int) then (if 0 ≤ (wrap64 ((wrap64 (((l0.length : Int) / 2))) + x7_1)) then (if (wrap64 ((wrap64 (((l0.length : Int) / 2))) + x7_1)) < (l0.length : Int) then (spec_l04Across.l1 k1 l0 a1 (l0.length : Int) x6_1 x7_1 (rd_L5 l0 (ji12)) (rd_L5 l0 (wrap64 ((wrap64 (((l0.length : Int) / 2))) + x7_1))) (([] : List (List (S64)))) 0) else (none)) else (none)) else (none)) else (none)) = some r := by first | (rw [hji12] at H; exact H) | (simp only [hji12] at H ⊢; exact H)
         have hji12w : (IntKind.i64.wrap ((wrap64 ((wrap64 (((l0.length : Int) / 2))) - 1)) - x7_1)) = ji12 := (i64_w _).trans hji12
         by_cases c13 : 0 ≤ (ji12)
         ·rw [if_pos c13] at H
          have c13b0 : decide (0 ≤ (ji12)) = true := decide_eq_true c13
          clear c13
          by_cases c14 : (ji12) < (l0.length : Int)
          ·rw [if_pos c14] at H
           have c14b0 : decide ((ji12) < (l0.length : Int)) = true := decide_eq_true c14
           clear c14
           obtain ⟨ji15, hji15⟩ : ∃ j_ : Int, (wrap64 ((wrap64 (((l0.length : Int) / 2))) + x7_1)) = j_ := ⟨_, rfl⟩
           replace H : (if 0 ≤ (ji15) then (if (ji15) < (l0.length : Int) then (spec_l04Across.l1 k1 l0 a1 (l0.length : Int) x6_1 x7_1 (rd_L5 l0 (ji12)) (rd_L5 l0 (ji15)) (([] : List (List (S64)))) 0) else (none)) else (none)) = some r := by first | (rw [hji15] at H; exact H) | (simp only [hji15] at H ⊢; exact H)
           have hji15w : (IntKind.i64.wrap ((wrap64 (((l0.length : Int) / 2))) + x7_1)) = ji15 := (i64_w _).trans hji15
           by_cases c16 : 0 ≤ (ji15)
           ·rw [if_pos c16] at H
            have c16b0 : decide (0 ≤ (ji15)) = true := decide_eq_true c16
            clear c16
            by_cases c17 : (ji15) < (l0.length : Int)
            ·rw [if_pos c17] at H
             have c17b0 : decide ((ji15) < (l0.length : Int)) = true := decide_eq_true c17
             clear c17
             obtain ⟨y332, hy332⟩ : ∃ y_ : List (List (S64)), y_ = (([] : List (List (S64)))) := ⟨_, rfl⟩
             replace H : (spec_l04Across.l1 k1 l0 a1 (l0.length : Int) x6_1 x7_1 (rd_L5 l0 (ji12)) (rd_L5 l0 (ji15)) y332 0) = some r := rh_ hy332 H
             have Ny332 := Aside0.mk hy332
             clear hy332
             have H' := Aside0.mk H
             clear H
             try go_wp2
             replace HO_6 := a_ (Kd.R_drew HO_6.out)
             replace HB := a_ (below_drew1 HB.out)
             have p328 : 0 ≤ ((ji6) : Int) := of_decide_eq_true z77_
             have q328 : (ji6) < (l0.length : Int) := of_decide_eq_true z77_
             obtain ⟨ad328, A328_0, c328_0, e328, hx328_0, hl328_0, hi328_0⟩ := at_L5 HR0.out (ji6) p328 q328
             have hw328_0 := hx328_0
             cases e328
             replace hx328_0 := (HB.out.cell (World.block_lt_of_cell? _ _ hx328_0)).trans hx328_0
             have HR328_0 := Aside0.mk hi328_0
             have HC328_0 := Aside0.mk hl328_0
             clear hi328_0 hl328_0
             replace p328 := eq_true p328
             replace q328 := eq_true q328
             have p329 : 0 ≤ (x7_1 : Int) := of_decide_eq_true z77_
             have q329 : x7_1 < (l0.length : Int) := of_decide_eq_true z77_
             obtain ⟨ad329, A329_0, c329_0, e329, hx329_0, hl329_0, hi329_0⟩ := at_L5 HR0.out x7_1 p329 q329
             have hw329_0 := hx329_0
             obtain rfl : ad328 = ad329 := (by injection e329)
             replace hx329_0 := (HB.out.cell (World.block_lt_of_cell? _ _ hx329_0)).trans hx329_0
             have HR329_0 := Aside0.mk hi329_0
             have HC329_0 := Aside0.mk hl329_0
             clear hi329_0 hl329_0
             replace p329 := eq_true p329
             replace q329 := eq_true q329
             refine start_ (n := 13) (S := fun w' => w'.cell? (ad328.add ((ji6)).toNat) = some (.slice A328_0 (rd_L5 l0 (ji6)).length c328_0) ∧ w'.cell? (ad328.add (x7_1).toNat) = some (.slice A329_0 (rd_L5 l0 x7_1).length c329_0)) (ds := []) #[false, false, false, false, false, false, false, false, false, false, false, false, false] (by kernel_rfl) rfl rfl ⟨((HB.out.cell (World.block_lt_of_cell? _ _ hw328_0)).trans hw328_0), ((HB.out.cell (World.block_lt_of_cell? _ _ hw329_0)).trans hw329_0)⟩ (fun hHeld => ?_); refine with_tabW spec_l04Across.tab6 spec_l04Across.bits6 (fun HT_ HW_ => ?_)
             generalize wr.drew = w18 at HO_6 HB HR328_0 HR329_0 hx328_0 hx329_0 hHeld ⊢
             refine pu_ (i := 0) (N := some 21) #[true, false, false, false, false, false, false, false, false, false, false, false, false] ?_
             refine pu_ (i := 1) (N := some 22) #[true, true, false, false, false, false, false, false, false, false, false, false, false] ?_
             refine pu_ (i := 2) (N := some 23) #[true, true, true, false, false, false, false, false, false, false, false, false, false] ?_
             refine pu_ (i := 3) (N := some 24) #[true, true, true, true, false, false, false, false, false, false, false, false, false] ?_
             refine pu_ (i := 4) (N := some 25) #[true, true, true, true, true, false, false, false, false, false, false, false, false] ?_
             refine pu_ (i := 5) (N := some 26) #[true, true, true, true, true, true, false, false, false, false, false, false, false] ?_
             refine pu_ (i := 7) (N := some 28) #[true, true, true, true, true, true, false, true, false, false, false, false, false] ?_
             refine pu_ (i := 8) (N := some 29) #[true, true, true, true, true, true, false, true, true, false, false, false, false] ?_
             refine pu_ (i := 9) (N := some 30) #[true, true, true, true, true, true, false, true, true, true, false, false, false] ?_
             refine tk2_ (i := 6) (N := some 27) #[true, true, true, true, true, true, true, true, true, true, false, false, false] hHeld ?_
             refine pu_ (i := 11) (N := some 8) #[true, true, true, true, true, true, true, true, true, true, false, true, false] ?_
             refine tk2_ (i := 10) (N := some 31) #[true, true, true, true, true, true, true, true, true, true, true, true, false] hHeld ?_
             refine pu_ (i := 12) (N := some 9) #[true, true, true, true, true, true, true, true, true, true, true, true, true] ?_
             refine done_ (done_of HT_.out (by kernel_rfl)) ?_
             try go_wp2
             replace HO_6 := a_ (Kd.R_drew HO_6.out)
             replace HB := a_ (below_drew1 HB.out)
             have p330 : 0 ≤ ((ji12) : Int) := of_decide_eq_true z77_
             have q330 : (ji12) < (l0.length : Int) := of_decide_eq_true z77_
             obtain ⟨ad330, A330_0, c330_0, e330, hx330_0, hl330_0, hi330_0⟩ := at_L5 HR0.out (ji12) p330 q330
             have hw330_0 := hx330_0
             obtain rfl : ad328 = ad330 := (by injection e330)
             replace hx330_0 := (HB.out.cell (World.block_lt_of_cell? _ _ hx330_0)).trans hx330_0
             have HR330_0 := Aside0.mk hi330_0
             have HC330_0 := Aside0.mk hl330_0
             clear hi330_0 hl330_0
             replace p330 := eq_true p330
             replace q330 := eq_true q330
             have p331 : 0 ≤ ((ji15) : Int) := of_decide_eq_true z77_
             have q331 : (ji15) < (l0.length : Int) := of_decide_eq_true z77_
             obtain ⟨ad331, A331_0, c331_0, e331, hx331_0, hl331_0, hi331_0⟩ := at_L5 HR0.out (ji15) p331 q331
             have hw331_0 := hx331_0
             obtain rfl : ad328 = ad331 := (by injection e331)
             replace hx331_0 := (HB.out.cell (World.block_lt_of_cell? _ _ hx331_0)).trans hx331_0
             have HR331_0 := Aside0.mk hi331_0
             have HC331_0 := Aside0.mk hl331_0
             clear hi331_0 hl331_0
             replace p331 := eq_true p331
             replace q331 := eq_true q331
             refine start_ (n := 17) (S := fun w' => w'.cell? (ad328.add ((ji12)).toNat) = some (.slice A330_0 (rd_L5 l0 (ji12)).length c330_0) ∧ w'.cell? (ad328.add ((ji15)).toNat) = some (.slice A331_0 (rd_L5 l0 (ji15)).length c331_0)) (ds := []) #[false, false, false, false, false, false, false, false, false, false, false, false, false, false, false, false, false] (by kernel_rfl) rfl rfl ⟨((HB.out.cell (World.block_lt_of_cell? _ _ hw330_0)).trans hw330_0), ((HB.out.cell (World.block_lt_of_cell? _ _ hw331_0)).trans hw331_0)⟩ (fun hHeld => ?_); refine with_tabW spec_l04Across.tab8 spec_l04Across.bits8 (fun HT_ HW_ => ?_)
             generalize w18.drew = w19 at HO_6 HB HR330_0 HR331_0 hx330_0 hx331_0 hHeld ⊢
             refine pu_ (i := 0) (N := some 34) #[true, false, false, false, false, false, false, false, false, false, false, false, false, false, false, false, false] ?_
             refine pu_ (i := 1) (N := some 35) #[true, true, false, false, false, false, false, false, false, false, false, false, false, false, false, false, false] ?_
             refine pu_ (i := 2) (N := some 36) #[true, true, true, false, false, false, false, false, false, false, false, false, false, false, false, false, false] ?_
             refine pu_ (i := 3) (N := some 37) #[true, true, true, true, false, false, false, false, false, false, false, false, false, false, false, false, false] ?_
             refine pu_ (i := 4) (N := some 38) #[true, true, true, true, true, false, false, false, false, false, false, false, false, false, false, false, false] ?_
             refine pu_ (i := 5) (N := some 39) #[true, true, true, true, true, true, false, false, false, false, false, false, false, false, false, false, false] ?_
             refine pu_ (i := 6) (N := some 40) #[true, true, true, true, true, true, true, false, false, false, false, false, false, false, false, false, false] ?_
             refine pu_ (i := 8) (N := some 42) #[true, true, true, true, true, true, true, false, true, false, false, false, false, false, false, false, false] ?_
             refine pu_ (i := 9) (N := some 43) #[true, true, true, true, true, true, true, false, true, true, false, false, false, false, false, false, false] ?_
             refine pu_ (i := 10) (N := some 44) #[true, true, true, true, true, true, true, false, true, true, true, false, false, false, false, false, false] ?_
             refine pu_ (i := 11) (N := some 45) #[true, true, true, true, true, true, true, false, true, true, true, true, false, false, false, false, false] ?_
             refine pu_ (i := 12) (N := some 46) #[true, true, true, true, true, true, true, false, true, true, true, true, true, false, false, false, false] ?_
             refine pu_ (i := 13) (N := some 47) #[true, true, true, true, true, true, true, false, true, true, true, true, true, true, false, false, false] ?_
             refine tk2_ (i := 7) (N := some 41) #[true, true, true, true, true, true, true, true, true, true, true, true, true, true, false, false, false] hHeld ?_
             refine pu_ (i := 15) (N := some 8) #[true, true, true, true, true, true, true, true, true, true, true, true, true, true, false, true, false] ?_
             refine tk2_ (i := 14) (N := some 48) #[true, true, true, true, true, true, true, true, true, true, true, true, true, true, true, true, false] hHeld ?_
             refine pu_ (i := 16) (N := some 9) #[true, true, true, true, true, true, true, true, true, true, true, true, true, true, true, true, true] ?_
             refine done_ (done_of HT_.out (by kernel_rfl)) ?_
             try go_wp2_with (first | ((with_reducible refine gate_dst (N := 49) rfl ?_); refine Kd.S_lit (Kd.slice 64 k64) _ 61 ?hg (N := 49) ?hd (xs := ([] : List (List (S64)))) (inner := []) (ok := fun _ => True) (okp := fun _ => True) ?hr ?hp (fun _ hk => hk) trivial (Below.refl _ _) (Nat.le_refl _) (by simp) ?_; (case hd => rfl); (case hg => rfl); (case hr => first | (go_simp; done) | (go_simp; rfl)); (case hp => exact (Reps.none _ _)); intro v333 w20 ho21 hb hg_ hnew_; clear hg_ hnew_; (first | rw [← Ny332.out] at ho21 | (simp only [Int.reduceToNat] at ho21; rw [← Ny332.out] at ho21)); replace HO_6 := a_ (Kd.R_elder' (ra_ HO_6.out) (Kd.S_base ho21) hb); have HO334 := a_ (Kd.S_lower ho21 (below_size z33_)); replace HB := a_ (below_step z33_ hb); clear hb ho21))
             go_loopg [10, 11] k1 (fun kq v10 v11 w' => ∃ (x10_2 : List (List (S64))) (x11_2 : Int), v11 = .int .i64 x11_2 ∧ Aside0 (spec_l04Across.l1 kq l0 a1 (l0.length : Int) x6_1 x7_1 (rd_L5 l0 (ji12)) (rd_L5 l0 (ji15)) x10_2 x11_2 = some r) ∧ Aside0 (kq ≤ k1) ∧ Aside0 (Kd.R (Kd.slice 61 (Kd.slice 64 k64)) 96 w' w.heap.size (fun k_ => some k_ ≠ (v10 : Value).ownBlock) u6 x6_1) ∧ Aside0 (Kd.S (Kd.slice 64 k64) 61 w' w.heap.size (fun _ => True) v10 x10_2) ∧ Aside0 (Below w.heap.size w w'))
             case atStart => exact ⟨(y332), (0), z78_, H', ⟨Nat.le_refl _⟩, ⟨z38_⟩, ⟨by (with_reducible repeat (first | apply Kd.S_alloc | apply Kd.S_drewN | apply Kd.S_drew)); exact HO334.out⟩, ⟨z33_⟩⟩
             case round =>
              clear H'
              try clear c5b0; try clear c7b0; try clear c8b0; try clear c9b0; try clear c10b0; try clear c11b0; try clear c11b1; try clear c13b0; try clear c14b0; try clear c16b0; try clear c17b0; try clear hx328_0; try clear hx329_0; try clear hx330_0; try clear hx331_0; try clear p328; try clear p329; try clear p330; try clear p331; try clear q328; try clear q329; try clear q330; try clear q331
              obtain ⟨x10_2, x11_2, rfl, HA, HK2, HO_6, HO_10, HB⟩ := hrel
              cases gk with
              | zero => exact absurd HA.out (by simp [spec_l04Across.l1])
              | succ k2 =>
               have H := HA.out
               clear HA
               simp only [spec_l04Across.l1] at H
               by_cases c22 : x11_2 < ((rd_L5 l0 (ji12)).length : Int)
               ·rw [if_pos c22] at H
                have c22b0 : decide (x11_2 < ((rd_L5 l0 (ji12)).length : Int)) = true := decide_eq_true c22
                clear c22
                by_cases c23 : 0 ≤ x11_2
                ·rw [if_pos c23] at H
                 have c23b0 : decide (0 ≤ x11_2) = true := decide_eq_true c23
                 clear c23
                 replace H := Option.bind_eq_some_iff.mp H
                 obtain ⟨t336, A240, H⟩ := H
                 replace H : (if x11_2 < ((rd_L5 l0 (ji15)).length : Int) then (if t336.length + (rd_L4 (rd_L5 l0 (ji15)) x11_2).length < 5864062014805 then (if x10_2.length < 5864062014805 then (spec_l04Across.l1 k2 l0 a1 (l0.length : Int) x6_1 x7_1 (rd_L5 l0 (ji12)) (rd_L5 l0 (ji15)) (x10_2 ++ [(t336 ++ (rd_L4 (rd_L5 l0 (ji15)) x11_2))]) (wrap64 (x11_2 + 1))) else (none)) else (none)) else (none)) = some r := H
                 have A24 := Aside0.mk A240
                 clear A240
                 by_cases c25 : x11_2 < ((rd_L5 l0 (ji15)).length : Int)
                 ·rw [if_pos c25] at H
                  have c25b0 : decide (x11_2 < ((rd_L5 l0 (ji15)).length : Int)) = true := decide_eq_true c25
                  clear c25
                  by_cases c26 : t336.length + (rd_L4 (rd_L5 l0 (ji15)) x11_2).length < 5864062014805
                  ·rw [if_pos c26] at H
                   have LMc26 := Aside0.mk c26
                   clear c26
                   obtain ⟨y340, hy340⟩ : ∃ y_ : List (S64), y_ = (t336 ++ (rd_L4 (rd_L5 l0 (ji15)) x11_2)) := ⟨_, rfl⟩
                   replace H : (if x10_2.length < 5864062014805 then (spec_l04Across.l1 k2 l0 a1 (l0.length : Int) x6_1 x7_1 (rd_L5 l0 (ji12)) (rd_L5 l0 (ji15)) (x10_2 ++ [y340]) (wrap64 (x11_2 + 1))) else (none)) = some r := rh_ hy340 H
                   have Ny340 := Aside0.mk hy340
                   clear hy340
                   by_cases c27 : x10_2.length < 5864062014805
                   ·rw [if_pos c27] at H
                    have LMc27 := Aside0.mk c27
                    clear c27
                    obtain ⟨y343, hy343⟩ : ∃ y_ : List (List (S64)), y_ = (x10_2 ++ [y340]) := ⟨_, rfl⟩
                    replace H : (spec_l04Across.l1 k2 l0 a1 (l0.length : Int) x6_1 x7_1 (rd_L5 l0 (ji12)) (rd_L5 l0 (ji15)) y343 (wrap64 (x11_2 + 1))) = some r := rh_ hy343 H
                    have Ny343 := Aside0.mk hy343
                    clear hy343
                    have H' := Aside0.mk H
                    clear H
                    try go_wp2
                    replace HO_6 := a_ (Kd.R_drew HO_6.out)
                    replace HO_10 := a_ (Kd.S_drew HO_10.out)
                    replace HB := a_ (below_drew1 HB.out)
                    have p335 : 0 ≤ (x11_2 : Int) := of_decide_eq_true z77_
                    have q335 : x11_2 < ((rd_L5 l0 (ji12)).length : Int) := of_decide_eq_true z77_
                    obtain ⟨ad335, A335_0, c335_0, e335, hx335_0, hl335_0, hi335_0⟩ := at_L4 HR330_0.out x11_2 p335 q335
                    have hw335_0 := hx335_0
                    cases e335
                    replace hx335_0 := (HB.out.cell (World.block_lt_of_cell? _ _ hx335_0)).trans hx335_0
                    have HR335_0 := Aside0.mk hi335_0
                    have HC335_0 := Aside0.mk hl335_0
                    clear hi335_0 hl335_0
                    replace p335 := eq_true p335
                    replace q335 := eq_true q335
                    have p339 : 0 ≤ (x11_2 : Int) := of_decide_eq_true z77_
                    have q339 : x11_2 < ((rd_L5 l0 (ji15)).length : Int) := of_decide_eq_true z77_
                    obtain ⟨ad339, A339_0, c339_0, e339, hx339_0, hl339_0, hi339_0⟩ := at_L4 HR331_0.out x11_2 p339 q339
                    have hw339_0 := hx339_0
                    cases e339
                    replace hx339_0 := (HB.out.cell (World.block_lt_of_cell? _ _ hx339_0)).trans hx339_0
                    have HR339_0 := Aside0.mk hi339_0
                    have HC339_0 := Aside0.mk hl339_0
                    clear hi339_0 hl339_0
                    replace p339 := eq_true p339
                    replace q339 := eq_true q339
                    refine start_ (n := 14) (S := fun w' => w'.cell? (ad335.add (x11_2).toNat) = some (.slice A335_0 (rd_L4 (rd_L5 l0 (ji12)) x11_2).length c335_0) ∧ w'.cell? (ad339.add (x11_2).toNat) = some (.slice A339_0 (rd_L4 (rd_L5 l0 (ji15)) x11_2).length c339_0)) (ds := []) #[false, false, false, false, false, false, false, false, false, false, false, false, false, false] (by kernel_rfl) rfl rfl ⟨((HB.out.cell (World.block_lt_of_cell? _ _ hw335_0)).trans hw335_0), ((HB.out.cell (World.block_lt_of_cell? _ _ hw339_0)).trans hw339_0)⟩ (fun hHeld => ?_); refine with_tabW spec_l04Across.tab13 spec_l04Across.bits13 (fun HT_ HW_ => ?_)
                    generalize wr.drew = w28 at HO_6 HO_10 HB HR335_0 HR339_0 hx335_0 hx339_0 hHeld ⊢
                    refine pu_ (i := 0) (N := some 56) #[true, false, false, false, false, false, false, false, false, false, false, false, false, false] ?_
                    refine pu_ (i := 1) (N := some 57) #[true, true, false, false, false, false, false, false, false, false, false, false, false, false] ?_
                    refine pu_ (i := 2) (N := some 58) #[true, true, true, false, false, false, false, false, false, false, false, false, false, false] ?_
                    refine pu_ (i := 3) (N := some 59) #[true, true, true, true, false, false, false, false, false, false, false, false, false, false] ?_
                    refine pu_ (i := 6) (N := some 62) #[true, true, true, true, false, false, true, false, false, false, false, false, false, false] ?_
                    refine pu_ (i := 7) (N := some 63) #[true, true, true, true, false, false, true, true, false, false, false, false, false, false] ?_
                    refine pu_ (i := 8) (N := some 64) #[true, true, true, true, false, false, true, true, true, false, false, false, false, false] ?_
                    refine tk2_ (i := 4) (N := some 60) #[true, true, true, true, true, false, true, true, true, false, false, false, false, false] hHeld ?_
                    refine tk2_ (i := 9) (N := some 65) #[true, true, true, true, true, false, true, true, true, true, false, false, false, false] hHeld ?_
                    refine one_ (i := 5) (N := some 61) #[true, true, true, true, true, true, true, true, true, true, false, false, false, false] rfl rfl (one_of HT_.out (by kernel_rfl)) (by decide) (fun K hK => ?_)
                    refine goes_ Tryz.func115 (by kernel_rfl) rfl #[.slice A335_0 (rd_L4 (rd_L5 l0 (ji12)) x11_2).length c335_0, .bool false] (by rfl) rfl rfl (by (try simp only [List.map_toArray, List.map_cons, List.map_nil]); first | done | (simp only [hji12]; rfl) | rfl | (simp only [List.length_drop, List.length_take]; rfl)) ?_
                    with_reducible refine (spec_l04Turn.calls _ _ (rd_L4 (rd_L5 l0 (ji12)) x11_2) false t336 _ ?side1 ?side2 A24.out).mono ?_
                    (case side1 => exact kc_ (Kd.C_below HR335_0.out HB.out))
                    (case side2 => exact HC335_0.out)
                    rintro e w29 ⟨v337, rfl, ho0, hb⟩
                    refine ⟨_, rfl, ?_⟩
                    replace HO_6 := a_ (Kd.R_elder' (ra_ HO_6.out) (Kd.R_base ho0) hb)
                    replace HO_10 := a_ (Kd.S_elder' z63_ (Kd.R_base ho0) hb)
                    have HO338 := a_ (Kd.R_lower ho0 (below_size z33_))
                    replace HB := a_ (below_step z33_ hb)
                    (try clear hb)
                    (try clear hb2)
                    (try clear hk)
                    (try clear hi)
                    (try clear ho0)
                    refine hK.out _ _ ⟨((HB.out.cell (World.block_lt_of_cell? _ _ hw335_0)).trans hw335_0), ((HB.out.cell (World.block_lt_of_cell? _ _ hw339_0)).trans hw339_0)⟩ (fun hHeld => ?_)
                    clear hK K
                    refine nm_ ?_
                    refine one_ (i := 10) (N := some 66) #[true, true, true, true, true, true, true, true, true, true, true, false, false, false] rfl rfl (one_of HT_.out (by kernel_rfl)) (by decide) (fun K hK => ?_)
                    refine Kd.R_append_rows_step k64 (w0 := w) w.heap.size (by rfl) (.tmp 61) (.tmp 65) 61 64 (.agg #[(.int .i64 0), (.int .i64 0), (.bool false), (.bool false)]) 24 rfl Tryz.underlying61 info64 rfl (by decide) (by omega) v337 t336 (rd_L4 (rd_L5 l0 (ji15)) x11_2) _ _ _ (fun _ => True) (fun _ => False) rfl rfl ?aO ?aR (fun _ _ h => h) (fun _ h => h.elim) ?aF ?aB ?aS ?aL ?_
                    (case aR => exact kc_ (Kd.C_below HR339_0.out HB.out))
                    (case aB => exact z33_)
                    (case aF => exact (fun _ _ => trivial))
                    (case aO => exact (ra_ HO338.out))
                    (case aS => exact (below_size z33_))
                    (case aL => have := LMc26.out; omega)
                    intro v341 w30 ho hb hg hat
                    rw [← Ny340.out] at ho
                    replace HO_6 := a_ (Kd.R_after (ok := (fun k_ => some k_ ≠ (u10 : Value).ownBlock)) (ra_ HO_6.out) hg hat)
                    replace HO_10 := a_ (Kd.S_after (ok := (fun _ => True)) z63_ hg hat)
                    replace HB := a_ (hb)
                    have HO342 := a_ (ho)
                    clear HO338
                    clear ho hb hg hat
                    obtain ⟨Ao32, co32, eo32⟩ := Kd.R_slice HO342.out
                    (first | subst eo32 | (injection eo32 with f1_ f2_ f3_; have f4_ := f1_.symm; have f5_ := f3_.symm; clear f1_ f2_ f3_; subst f4_; subst f5_))
                    refine hK.out _ _ ⟨((HB.out.cell (World.block_lt_of_cell? _ _ hw335_0)).trans hw335_0), ((HB.out.cell (World.block_lt_of_cell? _ _ hw339_0)).trans hw339_0)⟩ (fun hHeld => ?_)
                    clear hK K
                    refine nm_ ?_
                    refine one_ (i := 11) (N := some 67) #[true, true, true, true, true, true, true, true, true, true, true, true, false, false] rfl rfl (one_of HT_.out (by kernel_rfl)) (by decide) (fun K hK => ?_)
                    refine value_ (w1 := ?_) (v := ?_) (by rfl) rfl ?_ ?_
                    rotate_left 2
                    ·go_simp
                     constructor
                     ·rfl
                     ·rfl
                    refine hK.out _ _ ⟨(World.cell?_alloc_lt _ _ _ (World.block_lt_of_cell? _ _ (((HB.out.cell (World.block_lt_of_cell? _ _ hw335_0)).trans hw335_0)))).trans (((HB.out.cell (World.block_lt_of_cell? _ _ hw335_0)).trans hw335_0)), (World.cell?_alloc_lt _ _ _ (World.block_lt_of_cell? _ _ (((HB.out.cell (World.block_lt_of_cell? _ _ hw339_0)).trans hw339_0)))).trans (((HB.out.cell (World.block_lt_of_cell? _ _ hw339_0)).trans hw339_0))⟩ (fun hHeld => ?_)
                    clear hK K
                    refine nm_ ?_
                    refine one_ (i := 12) (N := some 68) #[true, true, true, true, true, true, true, true, true, true, true, true, true, false] rfl rfl (one_of HT_.out (by kernel_rfl)) (by decide) (fun K hK => ?_)
                    refine Kd.S_append_step (Kd.slice 64 k64) (w0 := w) w.heap.size (by rfl) (.tmp 56) (.tmp 67) 96 61 (.slice none 0 0) 24 rfl Tryz.underlying96 info61 rfl (by decide) (by omega) u10 x10_2 y340 [.slice Ao32 y340.length co32] (fun _ => True) (fun k_ => some k_ = (.slice Ao32 y340.length co32 : Value).ownBlock) rfl rfl ?aP (fun k_ hk_ => ((Kd.R_mono (ok' := fun k_ => ((fun _ => True)) k_ ∧ some k_ ≠ (u10 : Value).ownBlock) (Kd.R_apart' (HO342.out) (Kd.S_typed HO_10.out) (by decide)) (fun k_ hk => ⟨trivial, hk.2⟩))).1 k_ hk_.symm) ?aF ?aO ?aB ?aS ?aL ?_
                    (case aP => exact Kd.M_row (Kd.R_mono (Kd.R_tight rfl (Kd.R_mono (ok' := fun k_ => ((fun _ => True)) k_ ∧ some k_ ≠ (u10 : Value).ownBlock) (Kd.R_apart' (HO342.out) (Kd.S_typed HO_10.out) (by decide)) (fun k_ hk => ⟨trivial, hk.2⟩))) (fun _ h_ => h_)))
                    (case aB => exact z33_)
                    (case aF => exact (fun _ _ => trivial))
                    (case aO => exact (by (with_reducible repeat (first | apply Kd.S_alloc | apply Kd.S_drewN | apply Kd.S_drew)); exact Kd.S_mono HO_10.out (fun k_ hk => ⟨trivial, fun e_ => hk.2 e_⟩)))
                    (case aS => exact (below_size z33_))
                    (case aL => have := LMc27.out; omega)
                    intro v344 w31 ho hb hg hat
                    rw [← Ny343.out] at ho
                    replace HO_6 := a_ (Kd.R_after (ok := (fun k_ => nb_ k_ Ao32 y340.length co32)) (rc_ (h := by exact Kd.R_mono HO_6.out (fun _ hk => ⟨hk.2, hk.1⟩))) hg hat)
                    replace HB := a_ (hb)
                    have HO345 := a_ (ho)
                    clear HO342; clear HO_10
                    clear ho hb hg hat
                    refine hK.out _ _ ⟨((HB.out.cell (World.block_lt_of_cell? _ _ hw335_0)).trans hw335_0), ((HB.out.cell (World.block_lt_of_cell? _ _ hw339_0)).trans hw339_0)⟩ (fun hHeld => ?_)
                    clear hK K
                    refine nm_ ?_
                    refine pu_ (i := 13) (N := some 10) #[true, true, true, true, true, true, true, true, true, true, true, true, true, true] ?_
                    refine done_ (done_of HT_.out (by kernel_rfl)) ?_
                    try go_wp2
                    go_roundg k2
                    case measure => have := HK1.out; have := HK2.out; omega
                    case rel => exact ⟨(y343), (wrap64 (x11_2 + 1)), z78_, H', ⟨z79_⟩, ⟨z38_⟩, ⟨by (with_reducible repeat (first | apply Kd.S_alloc | apply Kd.S_drewN | apply Kd.S_drew)); exact HO345.out⟩, ⟨z33_⟩⟩
                   ·rw [if_neg c27] at H
                    exact absurd H (by simp)
                  ·rw [if_neg c26] at H
                   exact absurd H (by simp)
                 ·rw [if_neg c25] at H
                  exact absurd H (by simp)
                ·rw [if_neg c23] at H
                 exact absurd H (by simp)
               ·rw [if_neg c22] at H
                have c22b0 : decide (x11_2 < ((rd_L5 l0 (ji12)).length : Int)) = false := decide_eq_false c22
                clear c22
                by_cases c33 : x6_1.length < 5864062014805
                ·rw [if_pos c33] at H
                 have LMc33 := Aside0.mk c33
                 clear c33
                 obtain ⟨y346, hy346⟩ : ∃ y_ : List (List (List (S64))), y_ = (x6_1 ++ [x10_2]) := ⟨_, rfl⟩
                 replace H : (spec_l04Across.l0 k2 l0 a1 (l0.length : Int) y346 (wrap64 (x7_1 + 1))) = some r := rh_ hy346 H
                 have Ny346 := Aside0.mk hy346
                 clear hy346
                 have H' := Aside0.mk H
                 clear H
                 obtain ⟨Ao35, co35, eo35⟩ := Kd.S_slice HO_10.out
                 subst eo35
                 go_wp2_with (first | ((with_reducible refine gate_builtin (b := .append) (xs := #[.tmp 69, .tmp 71]) rfl ?_); at_builtin; refine Kd.R_append (Kd.slice 61 (Kd.slice 64 k64)) (w0 := w) w.heap.size rfl (.tmp 69) (.tmp 71) 95 96 (.slice none 0 0) 24 rfl Tryz.underlying95 info96 rfl (by decide) (by omega) u6 x6_1 x10_2 [.slice Ao35 x10_2.length co35] (fun _ => True) (fun k_ => ((fun _ => True)) k_ ∧ some k_ ≠ (u6 : Value).ownBlock) rfl rfl ?aP (fun _ hk => hk) ?aF ?aO ?aB ?aS ?aL ?_; (case aP => exact Kd.M_row (Kd.R_mono (Kd.R_apart' ((Kd.S_R HO_10.out)) (Kd.R_typed HO_6.out) (by decide)) (fun k_ hk => ⟨trivial, hk.2⟩))); (case aB => exact z33_); (case aF => exact (fun _ _ => trivial)); (case aO => exact (rc_ (h := by exact Kd.R_mono HO_6.out (fun _ hk => trivial)))); (case aS => exact (below_size z33_)); (case aL => have := LMc33.out; omega); intro v347 w34 ho hb hg hat; rw [← Ny346.out] at ho; replace HB := a_ (hb); have HO348 := a_ (ho); clear HO_10; clear HO_6; clear ho hb hg hat))
                 go_roundg k2
                 case measure => have := HK1.out; have := HK2.out; omega
                 case rel => exact ⟨(y346), (wrap64 (x7_1 + 1)), z78_, H', ⟨z79_⟩, ⟨by (with_reducible repeat (first | apply Kd.R_alloc | apply Kd.R_drewN | apply Kd.R_drew)); exact HO348.out⟩, ⟨z33_⟩⟩
                ·rw [if_neg c33] at H
                 exact absurd H (by simp)
            ·rw [if_neg c17] at H
             exact absurd H (by simp)
           ·rw [if_neg c16] at H
            exact absurd H (by simp)
          ·rw [if_neg c14] at H
           exact absurd H (by simp)
         ·rw [if_neg c13] at H
          exact absurd H (by simp)
        ·rw [if_neg c11] at H
         have c11b0 : (a1 == 84) = false := beq_eq_false_iff_ne.mpr c11
         have c11b1 : (a1 != 84) = true := bne_iff_ne.mpr c11
         obtain ⟨y349, hy349⟩ : ∃ y_ : List (List (S64)), y_ = (([] : List (List (S64)))) := ⟨_, rfl⟩
         replace H : (spec_l04Across.l101 k1 l0 a1 (l0.length : Int) x6_1 x7_1 (rd_L5 l0 (ji6)) (rd_L5 l0 x7_1) y349 0) = some r := rh_ hy349 H
         have Ny349 := Aside0.mk hy349
         clear hy349
         have H' := Aside0.mk H
         clear H
         try go_wp2
         replace HO_6 := a_ (Kd.R_drew HO_6.out)
         replace HB := a_ (below_drew1 HB.out)
         have p328 : 0 ≤ ((ji6) : Int) := of_decide_eq_true z77_
         have q328 : (ji6) < (l0.length : Int) := of_decide_eq_true z77_
         obtain ⟨ad328, A328_0, c328_0, e328, hx328_0, hl328_0, hi328_0⟩ := at_L5 HR0.out (ji6) p328 q328
         have hw328_0 := hx328_0
         cases e328
         replace hx328_0 := (HB.out.cell (World.block_lt_of_cell? _ _ hx328_0)).trans hx328_0
         have HR328_0 := Aside0.mk hi328_0
         have HC328_0 := Aside0.mk hl328_0
         clear hi328_0 hl328_0
         replace p328 := eq_true p328
         replace q328 := eq_true q328
         have p329 : 0 ≤ (x7_1 : Int) := of_decide_eq_true z77_
         have q329 : x7_1 < (l0.length : Int) := of_decide_eq_true z77_
         obtain ⟨ad329, A329_0, c329_0, e329, hx329_0, hl329_0, hi329_0⟩ := at_L5 HR0.out x7_1 p329 q329
         have hw329_0 := hx329_0
         obtain rfl : ad328 = ad329 := (by injection e329)
         replace hx329_0 := (HB.out.cell (World.block_lt_of_cell? _ _ hx329_0)).trans hx329_0
         have HR329_0 := Aside0.mk hi329_0
         have HC329_0 := Aside0.mk hl329_0
         clear hi329_0 hl329_0
         replace p329 := eq_true p329
         replace q329 := eq_true q329
         refine start_ (n := 13) (S := fun w' => w'.cell? (ad328.add ((ji6)).toNat) = some (.slice A328_0 (rd_L5 l0 (ji6)).length c328_0) ∧ w'.cell? (ad328.add (x7_1).toNat) = some (.slice A329_0 (rd_L5 l0 x7_1).length c329_0)) (ds := []) #[false, false, false, false, false, false, false, false, false, false, false, false, false] (by kernel_rfl) rfl rfl ⟨((HB.out.cell (World.block_lt_of_cell? _ _ hw328_0)).trans hw328_0), ((HB.out.cell (World.block_lt_of_cell? _ _ hw329_0)).trans hw329_0)⟩ (fun hHeld => ?_); refine with_tabW spec_l04Across.tab6 spec_l04Across.bits6 (fun HT_ HW_ => ?_)
         generalize wr.drew = w36 at HO_6 HB HR328_0 HR329_0 hx328_0 hx329_0 hHeld ⊢
         refine pu_ (i := 0) (N := some 21) #[true, false, false, false, false, false, false, false, false, false, false, false, false] ?_
         refine pu_ (i := 1) (N := some 22) #[true, true, false, false, false, false, false, false, false, false, false, false, false] ?_
         refine pu_ (i := 2) (N := some 23) #[true, true, true, false, false, false, false, false, false, false, false, false, false] ?_
         refine pu_ (i := 3) (N := some 24) #[true, true, true, true, false, false, false, false, false, false, false, false, false] ?_
         refine pu_ (i := 4) (N := some 25) #[true, true, true, true, true, false, false, false, false, false, false, false, false] ?_
         refine pu_ (i := 5) (N := some 26) #[true, true, true, true, true, true, false, false, false, false, false, false, false] ?_
         refine pu_ (i := 7) (N := some 28) #[true, true, true, true, true, true, false, true, false, false, false, false, false] ?_
         refine pu_ (i := 8) (N := some 29) #[true, true, true, true, true, true, false, true, true, false, false, false, false] ?_
         refine pu_ (i := 9) (N := some 30) #[true, true, true, true, true, true, false, true, true, true, false, false, false] ?_
         refine tk2_ (i := 6) (N := some 27) #[true, true, true, true, true, true, true, true, true, true, false, false, false] hHeld ?_
         refine pu_ (i := 11) (N := some 8) #[true, true, true, true, true, true, true, true, true, true, false, true, false] ?_
         refine tk2_ (i := 10) (N := some 31) #[true, true, true, true, true, true, true, true, true, true, true, true, false] hHeld ?_
         refine pu_ (i := 12) (N := some 9) #[true, true, true, true, true, true, true, true, true, true, true, true, true] ?_
         refine done_ (done_of HT_.out (by kernel_rfl)) ?_
         try go_wp2_with (first | ((with_reducible refine gate_dst (N := 49) rfl ?_); refine Kd.S_lit (Kd.slice 64 k64) _ 61 ?hg (N := 49) ?hd (xs := ([] : List (List (S64)))) (inner := []) (ok := fun _ => True) (okp := fun _ => True) ?hr ?hp (fun _ hk => hk) trivial (Below.refl _ _) (Nat.le_refl _) (by simp) ?_; (case hd => rfl); (case hg => rfl); (case hr => first | (go_simp; done) | (go_simp; rfl)); (case hp => exact (Reps.none _ _)); intro v350 w37 ho38 hb hg_ hnew_; clear hg_ hnew_; (first | rw [← Ny349.out] at ho38 | (simp only [Int.reduceToNat] at ho38; rw [← Ny349.out] at ho38)); replace HO_6 := a_ (Kd.R_elder' (ra_ HO_6.out) (Kd.S_base ho38) hb); have HO351 := a_ (Kd.S_lower ho38 (below_size z33_)); replace HB := a_ (below_step z33_ hb); clear hb ho38))
         go_loopg [10, 11] k1 (fun kq v10 v11 w' => ∃ (x10_2 : List (List (S64))) (x11_2 : Int), v11 = .int .i64 x11_2 ∧ Aside0 (spec_l04Across.l101 kq l0 a1 (l0.length : Int) x6_1 x7_1 (rd_L5 l0 (ji6)) (rd_L5 l0 x7_1) x10_2 x11_2 = some r) ∧ Aside0 (kq ≤ k1) ∧ Aside0 (Kd.R (Kd.slice 61 (Kd.slice 64 k64)) 96 w' w.heap.size (fun k_ => some k_ ≠ (v10 : Value).ownBlock) u6 x6_1) ∧ Aside0 (Kd.S (Kd.slice 64 k64) 61 w' w.heap.size (fun _ => True) v10 x10_2) ∧ Aside0 (Below w.heap.size w w'))
         case atStart => exact ⟨(y349), (0), z78_, H', ⟨Nat.le_refl _⟩, ⟨z38_⟩, ⟨by (with_reducible repeat (first | apply Kd.S_alloc | apply Kd.S_drewN | apply Kd.S_drew)); exact HO351.out⟩, ⟨z33_⟩⟩
         case round =>
          clear H'
          try clear c5b0; try clear c7b0; try clear c8b0; try clear c9b0; try clear c10b0; try clear c11; try clear c11b0; try clear c11b1; try clear hx328_0; try clear hx329_0; try clear p328; try clear p329; try clear q328; try clear q329
          obtain ⟨x10_2, x11_2, rfl, HA, HK2, HO_6, HO_10, HB⟩ := hrel
          cases gk with
          | zero => exact absurd HA.out (by simp [spec_l04Across.l101])
          | succ k2 =>
           have H := HA.out
           clear HA
           simp only [spec_l04Across.l101] at H
           by_cases c39 : x11_2 < ((rd_L5 l0 (ji6)).length : Int)
           ·rw [if_pos c39] at H
            have c39b0 : decide (x11_2 < ((rd_L5 l0 (ji6)).length : Int)) = true := decide_eq_true c39
            clear c39
            by_cases c40 : 0 ≤ x11_2
            ·rw [if_pos c40] at H
             have c40b0 : decide (0 ≤ x11_2) = true := decide_eq_true c40
             clear c40
             replace H := Option.bind_eq_some_iff.mp H
             obtain ⟨t353, A410, H⟩ := H
             replace H : (if x11_2 < ((rd_L5 l0 x7_1).length : Int) then (if t353.length + (rd_L4 (rd_L5 l0 x7_1) x11_2).length < 5864062014805 then (if x10_2.length < 5864062014805 then (spec_l04Across.l101 k2 l0 a1 (l0.length : Int) x6_1 x7_1 (rd_L5 l0 (ji6)) (rd_L5 l0 x7_1) (x10_2 ++ [(t353 ++ (rd_L4 (rd_L5 l0 x7_1) x11_2))]) (wrap64 (x11_2 + 1))) else (none)) else (none)) else (none)) = some r := H
             have A41 := Aside0.mk A410
             clear A410
             by_cases c42 : x11_2 < ((rd_L5 l0 x7_1).length : Int)
             ·rw [if_pos c42] at H
              have c42b0 : decide (x11_2 < ((rd_L5 l0 x7_1).length : Int)) = true := decide_eq_true c42
              clear c42
              by_cases c43 : t353.length + (rd_L4 (rd_L5 l0 x7_1) x11_2).length < 5864062014805
              ·rw [if_pos c43] at H
               have LMc43 := Aside0.mk c43
               clear c43
               obtain ⟨y357, hy357⟩ : ∃ y_ : List (S64), y_ = (t353 ++ (rd_L4 (rd_L5 l0 x7_1) x11_2)) := ⟨_, rfl⟩
               replace H : (if x10_2.length < 5864062014805 then (spec_l04Across.l101 k2 l0 a1 (l0.length : Int) x6_1 x7_1 (rd_L5 l0 (ji6)) (rd_L5 l0 x7_1) (x10_2 ++ [y357]) (wrap64 (x11_2 + 1))) else (none)) = some r := rh_ hy357 H
               have Ny357 := Aside0.mk hy357
               clear hy357
               by_cases c44 : x10_2.length < 5864062014805
               ·rw [if_pos c44] at H
                have LMc44 := Aside0.mk c44
                clear c44
                obtain ⟨y360, hy360⟩ : ∃ y_ : List (List (S64)), y_ = (x10_2 ++ [y357]) := ⟨_, rfl⟩
                replace H : (spec_l04Across.l101 k2 l0 a1 (l0.length : Int) x6_1 x7_1 (rd_L5 l0 (ji6)) (rd_L5 l0 x7_1) y360 (wrap64 (x11_2 + 1))) = some r := rh_ hy360 H
                have Ny360 := Aside0.mk hy360
                clear hy360
                have H' := Aside0.mk H
                clear H
                try go_wp2
                replace HO_6 := a_ (Kd.R_drew HO_6.out)
                replace HO_10 := a_ (Kd.S_drew HO_10.out)
                replace HB := a_ (below_drew1 HB.out)
                have p352 : 0 ≤ (x11_2 : Int) := of_decide_eq_true z77_
                have q352 : x11_2 < ((rd_L5 l0 (ji6)).length : Int) := of_decide_eq_true z77_
                obtain ⟨ad352, A352_0, c352_0, e352, hx352_0, hl352_0, hi352_0⟩ := at_L4 HR328_0.out x11_2 p352 q352
                have hw352_0 := hx352_0
                cases e352
                replace hx352_0 := (HB.out.cell (World.block_lt_of_cell? _ _ hx352_0)).trans hx352_0
                have HR352_0 := Aside0.mk hi352_0
                have HC352_0 := Aside0.mk hl352_0
                clear hi352_0 hl352_0
                replace p352 := eq_true p352
                replace q352 := eq_true q352
                have p356 : 0 ≤ (x11_2 : Int) := of_decide_eq_true z77_
                have q356 : x11_2 < ((rd_L5 l0 x7_1).length : Int) := of_decide_eq_true z77_
                obtain ⟨ad356, A356_0, c356_0, e356, hx356_0, hl356_0, hi356_0⟩ := at_L4 HR329_0.out x11_2 p356 q356
                have hw356_0 := hx356_0
                cases e356
                replace hx356_0 := (HB.out.cell (World.block_lt_of_cell? _ _ hx356_0)).trans hx356_0
                have HR356_0 := Aside0.mk hi356_0
                have HC356_0 := Aside0.mk hl356_0
                clear hi356_0 hl356_0
                replace p356 := eq_true p356
                replace q356 := eq_true q356
                refine start_ (n := 14) (S := fun w' => w'.cell? (ad352.add (x11_2).toNat) = some (.slice A352_0 (rd_L4 (rd_L5 l0 (ji6)) x11_2).length c352_0) ∧ w'.cell? (ad356.add (x11_2).toNat) = some (.slice A356_0 (rd_L4 (rd_L5 l0 x7_1) x11_2).length c356_0)) (ds := []) #[false, false, false, false, false, false, false, false, false, false, false, false, false, false] (by kernel_rfl) rfl rfl ⟨((HB.out.cell (World.block_lt_of_cell? _ _ hw352_0)).trans hw352_0), ((HB.out.cell (World.block_lt_of_cell? _ _ hw356_0)).trans hw356_0)⟩ (fun hHeld => ?_); refine with_tabW spec_l04Across.tab13 spec_l04Across.bits13 (fun HT_ HW_ => ?_)
                generalize wr.drew = w45 at HO_6 HO_10 HB HR352_0 HR356_0 hx352_0 hx356_0 hHeld ⊢
                refine pu_ (i := 0) (N := some 56) #[true, false, false, false, false, false, false, false, false, false, false, false, false, false] ?_
                refine pu_ (i := 1) (N := some 57) #[true, true, false, false, false, false, false, false, false, false, false, false, false, false] ?_
                refine pu_ (i := 2) (N := some 58) #[true, true, true, false, false, false, false, false, false, false, false, false, false, false] ?_
                refine pu_ (i := 3) (N := some 59) #[true, true, true, true, false, false, false, false, false, false, false, false, false, false] ?_
                refine pu_ (i := 6) (N := some 62) #[true, true, true, true, false, false, true, false, false, false, false, false, false, false] ?_
                refine pu_ (i := 7) (N := some 63) #[true, true, true, true, false, false, true, true, false, false, false, false, false, false] ?_
                refine pu_ (i := 8) (N := some 64) #[true, true, true, true, false, false, true, true, true, false, false, false, false, false] ?_
                refine tk2_ (i := 4) (N := some 60) #[true, true, true, true, true, false, true, true, true, false, false, false, false, false] hHeld ?_
                refine tk2_ (i := 9) (N := some 65) #[true, true, true, true, true, false, true, true, true, true, false, false, false, false] hHeld ?_
                refine one_ (i := 5) (N := some 61) #[true, true, true, true, true, true, true, true, true, true, false, false, false, false] rfl rfl (one_of HT_.out (by kernel_rfl)) (by decide) (fun K hK => ?_)
                refine goes_ Tryz.func115 (by kernel_rfl) rfl #[.slice A352_0 (rd_L4 (rd_L5 l0 (ji6)) x11_2).length c352_0, .bool false] (by rfl) rfl rfl (by (try simp only [List.map_toArray, List.map_cons, List.map_nil]); first | done | (simp only [hji6]; rfl) | rfl | (simp only [List.length_drop, List.length_take]; rfl)) ?_
                with_reducible refine (spec_l04Turn.calls _ _ (rd_L4 (rd_L5 l0 (ji6)) x11_2) false t353 _ ?side1 ?side2 A41.out).mono ?_
                (case side1 => exact kc_ (Kd.C_below HR352_0.out HB.out))
                (case side2 => exact HC352_0.out)
                rintro e w46 ⟨v354, rfl, ho0, hb⟩
                refine ⟨_, rfl, ?_⟩
                replace HO_6 := a_ (Kd.R_elder' (ra_ HO_6.out) (Kd.R_base ho0) hb)
                replace HO_10 := a_ (Kd.S_elder' z63_ (Kd.R_base ho0) hb)
                have HO355 := a_ (Kd.R_lower ho0 (below_size z33_))
                replace HB := a_ (below_step z33_ hb)
                (try clear hb)
                (try clear hb2)
                (try clear hk)
                (try clear hi)
                (try clear ho0)
                refine hK.out _ _ ⟨((HB.out.cell (World.block_lt_of_cell? _ _ hw352_0)).trans hw352_0), ((HB.out.cell (World.block_lt_of_cell? _ _ hw356_0)).trans hw356_0)⟩ (fun hHeld => ?_)
                clear hK K
                refine nm_ ?_
                refine one_ (i := 10) (N := some 66) #[true, true, true, true, true, true, true, true, true, true, true, false, false, false] rfl rfl (one_of HT_.out (by kernel_rfl)) (by decide) (fun K hK => ?_)
                refine Kd.R_append_rows_step k64 (w0 := w) w.heap.size (by rfl) (.tmp 61) (.tmp 65) 61 64 (.agg #[(.int .i64 0), (.int .i64 0), (.bool false), (.bool false)]) 24 rfl Tryz.underlying61 info64 rfl (by decide) (by omega) v354 t353 (rd_L4 (rd_L5 l0 x7_1) x11_2) _ _ _ (fun _ => True) (fun _ => False) rfl rfl ?aO ?aR (fun _ _ h => h) (fun _ h => h.elim) ?aF ?aB ?aS ?aL ?_
                (case aR => exact kc_ (Kd.C_below HR356_0.out HB.out))
                (case aB => exact z33_)
                (case aF => exact (fun _ _ => trivial))
                (case aO => exact (ra_ HO355.out))
                (case aS => exact (below_size z33_))
                (case aL => have := LMc43.out; omega)
                intro v358 w47 ho hb hg hat
                rw [← Ny357.out] at ho
                replace HO_6 := a_ (Kd.R_after (ok := (fun k_ => some k_ ≠ (u10 : Value).ownBlock)) (ra_ HO_6.out) hg hat)
                replace HO_10 := a_ (Kd.S_after (ok := (fun _ => True)) z63_ hg hat)
                replace HB := a_ (hb)
                have HO359 := a_ (ho)
                clear HO355
                clear ho hb hg hat
                obtain ⟨Ao49, co49, eo49⟩ := Kd.R_slice HO359.out
                (first | subst eo49 | (injection eo49 with f1_ f2_ f3_; have f4_ := f1_.symm; have f5_ := f3_.symm; clear f1_ f2_ f3_; subst f4_; subst f5_))
                refine hK.out _ _ ⟨((HB.out.cell (World.block_lt_of_cell? _ _ hw352_0)).trans hw352_0), ((HB.out.cell (World.block_lt_of_cell? _ _ hw356_0)).trans hw356_0)⟩ (fun hHeld => ?_)
                clear hK K
                refine nm_ ?_
                refine one_ (i := 11) (N := some 67) #[true, true, true, true, true, true, true, true, true, true, true, true, false, false] rfl rfl (one_of HT_.out (by kernel_rfl)) (by decide) (fun K hK => ?_)
                refine value_ (w1 := ?_) (v := ?_) (by rfl) rfl ?_ ?_
                rotate_left 2
                ·go_simp
                 constructor
                 ·rfl
                 ·rfl
                refine hK.out _ _ ⟨(World.cell?_alloc_lt _ _ _ (World.block_lt_of_cell? _ _ (((HB.out.cell (World.block_lt_of_cell? _ _ hw352_0)).trans hw352_0)))).trans (((HB.out.cell (World.block_lt_of_cell? _ _ hw352_0)).trans hw352_0)), (World.cell?_alloc_lt _ _ _ (World.block_lt_of_cell? _ _ (((HB.out.cell (World.block_lt_of_cell? _ _ hw356_0)).trans hw356_0)))).trans (((HB.out.cell (World.block_lt_of_cell? _ _ hw356_0)).trans hw356_0))⟩ (fun hHeld => ?_)
                clear hK K
                refine nm_ ?_
                refine one_ (i := 12) (N := some 68) #[true, true, true, true, true, true, true, true, true, true, true, true, true, false] rfl rfl (one_of HT_.out (by kernel_rfl)) (by decide) (fun K hK => ?_)
                refine Kd.S_append_step (Kd.slice 64 k64) (w0 := w) w.heap.size (by rfl) (.tmp 56) (.tmp 67) 96 61 (.slice none 0 0) 24 rfl Tryz.underlying96 info61 rfl (by decide) (by omega) u10 x10_2 y357 [.slice Ao49 y357.length co49] (fun _ => True) (fun k_ => some k_ = (.slice Ao49 y357.length co49 : Value).ownBlock) rfl rfl ?aP (fun k_ hk_ => ((Kd.R_mono (ok' := fun k_ => ((fun _ => True)) k_ ∧ some k_ ≠ (u10 : Value).ownBlock) (Kd.R_apart' (HO359.out) (Kd.S_typed HO_10.out) (by decide)) (fun k_ hk => ⟨trivial, hk.2⟩))).1 k_ hk_.symm) ?aF ?aO ?aB ?aS ?aL ?_
                (case aP => exact Kd.M_row (Kd.R_mono (Kd.R_tight rfl (Kd.R_mono (ok' := fun k_ => ((fun _ => True)) k_ ∧ some k_ ≠ (u10 : Value).ownBlock) (Kd.R_apart' (HO359.out) (Kd.S_typed HO_10.out) (by decide)) (fun k_ hk => ⟨trivial, hk.2⟩))) (fun _ h_ => h_)))
                (case aB => exact z33_)
                (case aF => exact (fun _ _ => trivial))
                (case aO => exact (by (with_reducible repeat (first | apply Kd.S_alloc | apply Kd.S_drewN | apply Kd.S_drew)); exact Kd.S_mono HO_10.out (fun k_ hk => ⟨trivial, fun e_ => hk.2 e_⟩)))
                (case aS => exact (below_size z33_))
                (case aL => have := LMc44.out; omega)
                intro v361 w48 ho hb hg hat
                rw [← Ny360.out] at ho
                replace HO_6 := a_ (Kd.R_after (ok := (fun k_ => nb_ k_ Ao49 y357.length co49)) (rc_ (h := by exact Kd.R_mono HO_6.out (fun _ hk => ⟨hk.2, hk.1⟩))) hg hat)
                replace HB := a_ (hb)
                have HO362 := a_ (ho)
                clear HO359; clear HO_10
                clear ho hb hg hat
                refine hK.out _ _ ⟨((HB.out.cell (World.block_lt_of_cell? _ _ hw352_0)).trans hw352_0), ((HB.out.cell (World.block_lt_of_cell? _ _ hw356_0)).trans hw356_0)⟩ (fun hHeld => ?_)
                clear hK K
                refine nm_ ?_
                refine pu_ (i := 13) (N := some 10) #[true, true, true, true, true, true, true, true, true, true, true, true, true, true] ?_
                refine done_ (done_of HT_.out (by kernel_rfl)) ?_
                try go_wp2
                go_roundg k2
                case measure => have := HK1.out; have := HK2.out; omega
                case rel => exact ⟨(y360), (wrap64 (x11_2 + 1)), z78_, H', ⟨z79_⟩, ⟨z38_⟩, ⟨by (with_reducible repeat (first | apply Kd.S_alloc | apply Kd.S_drewN | apply Kd.S_drew)); exact HO362.out⟩, ⟨z33_⟩⟩
               ·rw [if_neg c44] at H
                exact absurd H (by simp)
              ·rw [if_neg c43] at H
               exact absurd H (by simp)
             ·rw [if_neg c42] at H
              exact absurd H (by simp)
            ·rw [if_neg c40] at H
             exact absurd H (by simp)
           ·rw [if_neg c39] at H
            have c39b0 : decide (x11_2 < ((rd_L5 l0 (ji6)).length : Int)) = false := decide_eq_false c39
            clear c39
            by_cases c50 : x6_1.length < 5864062014805
            ·rw [if_pos c50] at H
             have LMc50 := Aside0.mk c50
             clear c50
             obtain ⟨y363, hy363⟩ : ∃ y_ : List (List (List (S64))), y_ = (x6_1 ++ [x10_2]) := ⟨_, rfl⟩
             replace H : (spec_l04Across.l0 k2 l0 a1 (l0.length : Int) y363 (wrap64 (x7_1 + 1))) = some r := rh_ hy363 H
             have Ny363 := Aside0.mk hy363
             clear hy363
             have H' := Aside0.mk H
             clear H
             obtain ⟨Ao52, co52, eo52⟩ := Kd.S_slice HO_10.out
             subst eo52
             go_wp2_with (first | ((with_reducible refine gate_builtin (b := .append) (xs := #[.tmp 69, .tmp 71]) rfl ?_); at_builtin; refine Kd.R_append (Kd.slice 61 (Kd.slice 64 k64)) (w0 := w) w.heap.size rfl (.tmp 69) (.tmp 71) 95 96 (.slice none 0 0) 24 rfl Tryz.underlying95 info96 rfl (by decide) (by omega) u6 x6_1 x10_2 [.slice Ao52 x10_2.length co52] (fun _ => True) (fun k_ => ((fun _ => True)) k_ ∧ some k_ ≠ (u6 : Value).ownBlock) rfl rfl ?aP (fun _ hk => hk) ?aF ?aO ?aB ?aS ?aL ?_; (case aP => exact Kd.M_row (Kd.R_mono (Kd.R_apart' ((Kd.S_R HO_10.out)) (Kd.R_typed HO_6.out) (by decide)) (fun k_ hk => ⟨trivial, hk.2⟩))); (case aB => exact z33_); (case aF => exact (fun _ _ => trivial)); (case aO => exact (rc_ (h := by exact Kd.R_mono HO_6.out (fun _ hk => trivial)))); (case aS => exact (below_size z33_)); (case aL => have := LMc50.out; omega); intro v364 w51 ho hb hg hat; rw [← Ny363.out] at ho; replace HB := a_ (hb); have HO365 := a_ (ho); clear HO_10; clear HO_6; clear ho hb hg hat))
             go_roundg k2
             case measure => have := HK1.out; have := HK2.out; omega
             case rel => exact ⟨(y363), (wrap64 (x7_1 + 1)), z78_, H', ⟨z79_⟩, ⟨by (with_reducible repeat (first | apply Kd.R_alloc | apply Kd.R_drewN | apply Kd.R_drew)); exact HO365.out⟩, ⟨z33_⟩⟩
            ·rw [if_neg c50] at H
             exact absurd H (by simp)
       ·rw [if_neg c10] at H
        exact absurd H (by simp)
      ·rw [if_neg c9] at H
       exact absurd H (by simp)
     ·rw [if_neg c8] at H
      exact absurd H (by simp)
    ·rw [if_neg c7] at H
     exact absurd H (by simp)
   ·rw [if_neg c5] at H
    have c5b0 : decide (x7_1 < (wrap64 (((l0.length : Int) / 2)))) = false := decide_eq_false c5
    clear c5
    obtain rfl := Option.some.inj H
    go_wp2
    go_ret
    exact ⟨_, z34_, z64_, z33_⟩

end Go.Proofs.YtkpidjmhdagkfaaGreatDoor.QFnExactReadForm
-- halved
