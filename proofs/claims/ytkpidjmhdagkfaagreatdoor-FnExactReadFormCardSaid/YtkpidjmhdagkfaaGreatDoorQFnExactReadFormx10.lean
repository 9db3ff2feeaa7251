-- Written by own_print.py of this session's repo over the kit's print (its output, turned at some places).
import Derived.Test.YtkpidjmhdagkfaaGreatDoorQFnExactReadFormx0
import Derived.Test.YtkpidjmhdagkfaaGreatDoorQFnExactReadFormx9
namespace Go.Proofs.YtkpidjmhdagkfaaGreatDoor.QFnExactReadForm
open Go.RowKit Go.Proofs.YtkpidjmhdagkfaaGreatDoorW.PrintWords Go.Proofs.YtkpidjmhdagkfaaGreatDoorW.PrintLast Go.Proofs.YtkpidjmhdagkfaaGreatDoorW.PrintMore
attribute [local go_sem] max2_int min2_int max_two min_two max_three min_three max_four min_four   -- for this text's walks alone
set_option linter.unusedVariables false
set_option linter.unusedSimpArgs false

/-! ### spec_l04Along: function 98 -/
mutual
def spec_l04Along.l0 : Nat → List (List (List (S64))) → Int → List (List (List (S64))) → Int → Option ((List (List (List (S64)))))
 | 0, _, _, _, _ => none
 | k + 1, x0, x1, x5, x6 => if x6 < (x0.length : Int) then (if 0 ≤ x6 then (spec_l04Along.l1 k x0 x1 x5 x6 ((rd_L5 x0 x6).length : Int) (([] : List (List (S64)))) 0) else (none)) else (some x5)
def spec_l04Along.l1 : Nat → List (List (List (S64))) → Int → List (List (List (S64))) → Int → Int → List (List (S64)) → Int → Option ((List (List (List (S64)))))
 | 0, _, _, _, _, _, _, _ => none
 | k + 1, x0, x1, x5, x6, x7, x8, x9 => if x9 < (wrap64 (Int.tdiv x7 2)) then (if 0 ≤ x6 then (if x6 < (x0.length : Int) then (if 0 ≤ (wrap64 ((wrap64 (x7 - 1)) - x9)) then (if (wrap64 ((wrap64 (x7 - 1)) - x9)) < ((rd_L5 x0 x6).length : Int) then (if 0 ≤ x9 then (if x9 < ((rd_L5 x0 x6).length : Int) then (if x1 = 76 then (if 0 ≤ (wrap64 ((wrap64 ((wrap64 (Int.tdiv x7 2)) - 1)) - x9)) then (if (wrap64 ((wrap64 ((wrap64 (Int.tdiv x7 2)) - 1)) - x9)) < ((rd_L5 x0 x6).length : Int) then (if 0 ≤ (wrap64 ((wrap64 (Int.tdiv x7 2)) + x9)) then (if (wrap64 ((wrap64 (Int.tdiv x7 2)) + x9)) < ((rd_L5 x0 x6).length : Int) then ((spec_l04Turn.f (rd_L4 (rd_L5 x0 x6) (wrap64 ((wrap64 ((wrap64 (Int.tdiv x7 2)) - 1)) - x9))) true).bind fun t304 => (if t304.length + (rd_L4 (rd_L5 x0 x6) (wrap64 ((wrap64 (Int.tdiv x7 2)) + x9))).length < 5864062014805 then (if x8.length < 5864062014805 then (spec_l04Along.l1 k x0 x1 x5 x6 x7 (x8 ++ [(t304 ++ (rd_L4 (rd_L5 x0 x6) (wrap64 ((wrap64 (Int.tdiv x7 2)) + x9))))]) (wrap64 (x9 + 1))) else (none)) else (none))) else (none)) else (none)) else (none)) else (none)) else ((spec_l04Turn.f (rd_L4 (rd_L5 x0 x6) (wrap64 ((wrap64 (x7 - 1)) - x9))) true).bind fun t313 => (if t313.length + (rd_L4 (rd_L5 x0 x6) x9).length < 5864062014805 then (if x8.length < 5864062014805 then (spec_l04Along.l1 k x0 x1 x5 x6 x7 (x8 ++ [(t313 ++ (rd_L4 (rd_L5 x0 x6) x9))]) (wrap64 (x9 + 1))) else (none)) else (none)))) else (none)) else (none)) else (none)) else (none)) else (none)) else (none)) else (if x5.length < 5864062014805 then (spec_l04Along.l0 k x0 x1 (x5 ++ [x8]) (wrap64 (x6 + 1))) else (none))
end
def spec_l04Along.f (k : Nat) (l0 : List (List (List (S64)))) (a1 : Int) : Option ((List (List (List (S64))))) := spec_l04Along.l0 k l0 a1 (([] : List (List (List (S64))))) 0
theorem spec_l04Along.mono_l : ∀ k, (∀ y0 y1 y2 y3, LeO (spec_l04Along.l0 k y0 y1 y2 y3) (spec_l04Along.l0 (k + 1) y0 y1 y2 y3)) ∧ (∀ y0 y1 y2 y3 y4 y5 y6, LeO (spec_l04Along.l1 k y0 y1 y2 y3 y4 y5 y6) (spec_l04Along.l1 (k + 1) y0 y1 y2 y3 y4 y5 y6))
 | 0 => ⟨fun _ _ _ _ r h => by simp [spec_l04Along.l0] at h, fun _ _ _ _ _ _ _ r h => by simp [spec_l04Along.l1] at h⟩
 | k + 1 => by
  obtain ⟨ih0, ih1⟩ := spec_l04Along.mono_l k
  refine ⟨?_, ?_⟩
  ·intro y0 y1 y2 y3
   unfold spec_l04Along.l0
   repeat' first
   | (with_reducible exact ih0 _ _ _ _)
   | (with_reducible exact ih1 _ _ _ _ _ _ _)
   | (with_reducible exact LeO.refl _)
   | (with_reducible exact LeO.none _)
   | (with_reducible refine LeO.ite ?_ ?_)
   | (with_reducible refine LeO.bind ?_ (fun _ => ?_))
   | exact ih0 _ _ _ _
   | exact ih1 _ _ _ _ _ _ _
   | exact LeO.none _
   | refine LeO.ite ?_ ?_
   | refine LeO.bind ?_ (fun _ => ?_)
  ·intro y0 y1 y2 y3 y4 y5 y6
   unfold spec_l04Along.l1
   repeat' first
   | (with_reducible exact ih0 _ _ _ _)
   | (with_reducible exact ih1 _ _ _ _ _ _ _)
   | (with_reducible exact LeO.refl _)
   | (with_reducible exact LeO.none _)
   | (with_reducible refine LeO.ite ?_ ?_)
   | (with_reducible refine LeO.bind ?_ (fun _ => ?_))
   | exact ih0 _ _ _ _
   | exact ih1 _ _ _ _ _ _ _
   | exact LeO.none _
   | refine LeO.ite ?_ ?_
   | refine LeO.bind ?_ (fun _ => ?_)
theorem spec_l04Along.mono : ∀ a0 a1 k, LeO (spec_l04Along.f k a0 a1) (spec_l04Along.f (k + 1) a0 a1) := by
 intro a0 a1 k
 obtain ⟨ih0, ih1⟩ := spec_l04Along.mono_l k
 unfold spec_l04Along.f
 repeat' first
   | (with_reducible exact ih0 _ _ _ _)
   | (with_reducible exact ih1 _ _ _ _ _ _ _)
   | (with_reducible exact LeO.refl _)
   | (with_reducible exact LeO.none _)
   | (with_reducible refine LeO.ite ?_ ?_)
   | (with_reducible refine LeO.bind ?_ (fun _ => ?_))
   | exact ih0 _ _ _ _
   | exact ih1 _ _ _ _ _ _ _
   | exact LeO.none _
   | refine LeO.ite ?_ ?_
   | refine LeO.bind ?_ (fun _ => ?_)
def spec_l04Along.T10 : Bool × List (List Nat × List Nat) := (true, [([], []), ([], []), ([0, 1], [0, 1]), ([2], [2]), ([], []), ([4], [4]), ([], []), ([5, 6], [5, 6]), ([3, 7], [3, 7]), ([8], [8]), ([], []), ([], []), ([10, 11], [10, 11]), ([12], [12]), ([], []), ([13, 14], [13, 14]), ([15], [15]), ([9, 0, 1, 2, 3, 4, 5, 6, 7, 8, 9], [9]), ([16, 17, 0, 1, 2, 3, 4, 5, 6, 7, 8, 9, 10, 11, 12, 13, 14, 15, 16, 17], [16])])
def spec_l04Along.B10 : List Nat := [0, 0, 3, 7, 0, 16, 0, 112, 255, 511, 0, 0, 3072, 7168, 0, 31744, 64512, 1023, 262143]
theorem spec_l04Along.tab10 : rtab .any (opsOf Tryz.f98 10) = spec_l04Along.T10 := by kernel_rfl
theorem spec_l04Along.bits10 : waitsOk spec_l04Along.T10.2 spec_l04Along.B10 = true := by kernel_rfl
def spec_l04Along.T12 : Bool × List (List Nat × List Nat) := (true, [([], []), ([], []), ([0, 1], [0, 1]), ([2], [2]), ([], []), ([4], [4]), ([5], [5]), ([], []), ([6, 7], [6, 7]), ([3, 8], [3, 8]), ([9], [9]), ([], []), ([], []), ([11, 12], [11, 12]), ([13], [13]), ([], []), ([15], [15]), ([], []), ([16, 17], [16, 17]), ([14, 18], [14, 18]), ([19], [19]), ([10, 0, 1, 2, 3, 4, 5, 6, 7, 8, 9, 10], [10]), ([20, 21, 0, 1, 2, 3, 4, 5, 6, 7, 8, 9, 10, 11, 12, 13, 14, 15, 16, 17, 18, 19, 20, 21], [20])])
def spec_l04Along.B12 : List Nat := [0, 0, 3, 7, 0, 16, 48, 0, 240, 511, 1023, 0, 0, 6144, 14336, 0, 32768, 0, 229376, 522240, 1046528, 2047, 4194303]
theorem spec_l04Along.tab12 : rtab .any (opsOf Tryz.f98 12) = spec_l04Along.T12 := by kernel_rfl
theorem spec_l04Along.bits12 : waitsOk spec_l04Along.T12.2 spec_l04Along.B12 = true := by kernel_rfl
set_option maxHeartbeats 8000000 in
set_option maxRecDepth 100000 in
theorem spec_l04Along.calls (k : Nat) (A0 : Option Addr) (c0 : Nat) (l0 : List (List (List (S64)))) (a1 : Int) (r : List (List (List (S64)))) (w : World) (hr0 : Kd.C (Kd.slice 61 (Kd.slice 64 k64)) w A0 l0.length l0) (hc0 : l0.length ≤ c0) (h : spec_l04Along.f k l0 a1 = some r) :
  Calls Tryz.prog 98 #[.slice A0 l0.length c0, .int .u8 a1] w fun e w' => ∃ v0_ : Value, e = .returned (v0_) ∧ Kd.R (Kd.slice 61 (Kd.slice 64 k64)) 96 w' w.heap.size (fun _ => True) v0_ r ∧ Below w.heap.size w w' := by
 have HR0 := Aside0.mk hr0
 have HC0 := Aside0.mk hc0
 clear hr0 hc0
 have HB := a_ (Below.refl w.heap.size w)
 have H : (spec_l04Along.l0 k l0 a1 (([] : List (List (List (S64))))) 0) = some r := h
 clear h
 obtain ⟨y289, hy289⟩ : ∃ y_ : List (List (List (S64))), y_ = (([] : List (List (List (S64))))) := ⟨_, rfl⟩
 replace H : (spec_l04Along.l0 k l0 a1 y289 0) = some r := rh_ hy289 H
 have Ny289 := Aside0.mk hy289
 clear hy289
 have H' := Aside0.mk H
 clear H
 go_enter Tryz.func98, Tryz.ntmps98
 go_wp2_with (first | ((with_reducible refine gate_dst (N := 12) rfl ?_); refine Kd.R_lit (Kd.slice 61 (Kd.slice 64 k64)) _ 96 ?hg (N := 12) ?hd (xs := ([] : List (List (List (S64))))) (inner := []) (ok := fun _ => True) (okp := fun _ => True) ?hr ?hp (fun _ hk => hk) trivial (Below.refl _ _) (Nat.le_refl _) (by simp) ?_; (case hd => rfl); (case hg => rfl); (case hr => first | (go_simp; done) | (go_simp; rfl)); (case hp => exact (Reps.none _ _)); intro v290 w3 ho4 hb hg_ hnew_; clear hg_ hnew_; (first | rw [← Ny289.out] at ho4 | (simp only [Int.reduceToNat] at ho4; rw [← Ny289.out] at ho4)); have HO291 := a_ (Kd.R_lower ho4 (below_size z33_)); replace HB := a_ (below_step z33_ hb); clear hb ho4))
 go_loopg [5, 6] k (fun kq v5 v6 w' => ∃ (x5_1 : List (List (List (S64)))) (x6_1 : Int), v6 = .int .i64 x6_1 ∧ Aside0 (spec_l04Along.l0 kq l0 a1 x5_1 x6_1 = some r) ∧ Aside0 (kq ≤ k) ∧ Aside0 (Kd.R (Kd.slice 61 (Kd.slice 64 k64)) 96 w' w.heap.size (fun _ => True) v5 x5_1) ∧ Aside0 (Below w.heap.size w w'))
 case atStart => exact ⟨(y289), (0), z78_, H', ⟨Nat.le_refl _⟩, ⟨by (with_reducible repeat (first | apply Kd.R_alloc | apply Kd.R_drewN | apply Kd.R_drew)); exact HO291.out⟩, ⟨z33_⟩⟩
 case round =>
  clear H'
  obtain ⟨x5_1, x6_1, rfl, HA, HK1, HO_5, HB⟩ := hrel
  cases gk with
  | zero => exact absurd HA.out (by simp [spec_l04Along.l0])
  | succ k1 =>
   have H := HA.out
   clear HA
   simp only [spec_l04Along.l0] at H
   by_cases c5 : x6_1 < (l0.length : Int)
   ·rw [if_pos c5] at H
    have c5b0 : decide (x6_1 < (l0.length : Int)) = true := decide_eq_true c5
    clear c5
    by_cases c6 : 0 ≤ x6_1
    ·rw [if_pos c6] at H
     have c6b0 : decide (0 ≤ x6_1) = true := decide_eq_true c6
     clear c6
     obtain ⟨y293, hy293⟩ : ∃ y_ : List (List (S64)), y_ = (([] : List (List (S64)))) := ⟨_, rfl⟩
     replace H : (spec_l04Along.l1 k1 l0 a1 x5_1 x6_1 ((rd_L5 l0 x6_1).length : Int) y293 0) = some r := rh_ hy293 H
     have Ny293 := Aside0.mk hy293
     clear hy293
     have H' := Aside0.mk H
     clear H
     have p292 : 0 ≤ (x6_1 : Int) := of_decide_eq_true z77_
     have q292 : x6_1 < (l0.length : Int) := of_decide_eq_true z77_
     obtain ⟨ad292, A292_0, c292_0, e292, hx292_0, hl292_0, hi292_0⟩ := at_L5 HR0.out x6_1 p292 q292
     cases e292
     replace hx292_0 := (HB.out.cell (World.block_lt_of_cell? _ _ hx292_0)).trans hx292_0
     have HR292_0 := Aside0.mk hi292_0
     have HC292_0 := Aside0.mk hl292_0
     clear hi292_0 hl292_0
     replace p292 := eq_true p292
     replace q292 := eq_true q292
     go_wp2_with (first | ((with_reducible refine gate_dst (N := 24) rfl ?_); refine Kd.S_lit (Kd.slice 64 k64) _ 61 ?hg (N := 24) ?hd (xs := ([] : List (List (S64)))) (inner := []) (ok := fun _ => True) (okp := fun _ => True) ?hr ?hp (fun _ hk => hk) trivial (Below.refl _ _) (Nat.le_refl _) (by simp) ?_; (case hd => rfl); (case hg => rfl); (case hr => first | (go_simp; done) | (go_simp; rfl)); (case hp => exact (Reps.none _ _)); intro v294 w7 ho8 hb hg_ hnew_; clear hg_ hnew_; (first | rw [← Ny293.out] at ho8 | (simp only [Int.reduceToNat] at ho8; rw [← Ny293.out] at ho8)); replace HO_5 := a_ (Kd.R_elder' (ra_ HO_5.out) (Kd.S_base ho8) hb); have HO295 := a_ (Kd.S_lower ho8 (below_size z33_)); replace HB := a_ (below_step z33_ hb); clear hb ho8))
     go_loopg [8, 9] k1 (fun kq v8 v9 w' => ∃ (x8_2 : List (List (S64))) (x9_2 : Int), v9 = .int .i64 x9_2 ∧ Aside0 (spec_l04Along.l1 kq l0 a1 x5_1 x6_1 ((rd_L5 l0 x6_1).length : Int) x8_2 x9_2 = some r) ∧ Aside0 (kq ≤ k1) ∧ Aside0 (Kd.R (Kd.slice 61 (Kd.slice 64 k64)) 96 w' w.heap.size (fun k_ => some k_ ≠ (v8 : Value).ownBlock) u5 x5_1) ∧ Aside0 (Kd.S (Kd.slice 64 k64) 61 w' w.heap.size (fun _ => True) v8 x8_2) ∧ Aside0 (Below w.heap.size w w'))
     case atStart => exact ⟨(y293), (0), z78_, H', ⟨Nat.le_refl _⟩, ⟨z37_⟩, ⟨by (with_reducible repeat (first | apply Kd.S_alloc | apply Kd.S_drewN | apply Kd.S_drew)); exact HO295.out⟩, ⟨z33_⟩⟩
     case round =>
      clear H'
      try clear c5b0; try clear c6b0; try clear hx292_0; try clear p292; try clear q292
      obtain ⟨x8_2, x9_2, rfl, HA, HK2, HO_5, HO_8, HB⟩ := hrel
      cases gk with
      | zero => exact absurd HA.out (by simp [spec_l04Along.l1])
      | succ k2 =>
       have H := HA.out
       clear HA
       simp only [spec_l04Along.l1] at H
       (try simp only [show ∀ (n_ : Nat) (k_ : Int), Int.tdiv (n_ : Int) k_ = (n_ : Int) / k_ from fun n_ k_ => Int.tdiv_eq_ediv_of_nonneg (Int.natCast_nonneg n_), show ∀ (n_ : Nat) (k_ : Int), Int.tmod (n_ : Int) k_ = (n_ : Int) % k_ from fun n_ k_ => Int.tmod_eq_emod_of_nonneg (Int.natCast_nonneg n_)] at H)
       by_cases c9 : x9_2 < (wrap64 ((((rd_L5 l0 x6_1).length : Int) / 2)))
       ·rw [if_pos c9] at H
        have c9b0 : decide (x9_2 < (wrap64 ((((rd_L5 l0 x6_1).length : Int) / 2)))) = true := decide_eq_true c9
        clear c9
        by_cases c10 : 0 ≤ x6_1
        ·rw [if_pos c10] at H
         have c10b0 : decide (0 ≤ x6_1) = true := decide_eq_true c10
         clear c10
         by_cases c11 : x6_1 < (l0.length : Int)
         ·rw [if_pos c11] at H
          have c11b0 : decide (x6_1 < (l0.length : Int)) = true := decide_eq_true c11
          clear c11
          obtain ⟨ji12, hji12⟩ : ∃ j_ : Int, (wrap64 ((wrap64 (((rd_L5 l0 x6_1).length : Int) - 1)) - x9_2)) = j_ := ⟨_, rfl⟩
          replace H : (if 0 ≤ (ji12) then (if (ji12) < ((rd_L5 l0 x6_1).length : Int) then (if 0 ≤ x9_2 then (if x9_2 < ((rd_L5 l0 x6_1).length : Int) then (if a1 = 76 then (if 0 ≤ (wrap64 ((wrap64 ((wrap64 ((((rd_L5 l0 x6_1).length : Int) / 2))) - 1)) - x9_2)) then (if (wrap64 ((wrap64 ((wrap64 ((((rd_L5 l0 x6_1).length : Int) / 2))) - 1)) - x9_2)) < ((rd_L5 l0 x6_1).length : Int) then (if 0 ≤ (wrap64 ((wrap64 ((((rd_L5 l0 x6_1).length : Int) / 2))) + x9_2)) then (if (wrap64 ((wrap64 ((((rd_L5 l0 x6_1).length : Int) / 2))) + x9_2)) < ((rd_L5 l0 x6_1).length : Int) then ((spec_l04Turn.f (rd_L4 (rd_L5 l0 x6_1) (wrap64 ((wrap64 ((wrap64 ((((rd_L5 l0 x6_1).length : Int) / 2))) - 1)) - x9_2))) true).bind fun t304 => (if t304.length + (rd_L4 (rd_L5 l0 x6_1) (wrap64 ((wrap64 ((((rd_L5 l0 x6_1).length : Int) / 2))) + x9_2))).length < 5864062014805 then (if x8_2.length < 5864062014805 then (spec_l04Along.l1 k2 l0 a1 x5_1 x6_1 ((rd_L5 l0 x6_1).length : Int) (x8_2 ++ [(t304 ++ (rd_L4 (rd_L5 l0 x6_1) (wrap64 ((wrap64 ((((rd_L5 l0 x6_1).length : Int) / 2))) + x9_2))))]) (wrap64 (x9_2 + 1))) else (none)) else (none))) else (none)) else (none)) else (none)) else (none)) else ((spec_l04Turn.f (rd_L4 (rd_L5 l0 x6_1) (ji12)) true).bind fun t313 => (if t313.length + (rd_L4 (rd_L5 l0 x6_1) x9_2).length < 5864062014805 then (if x8_2.length < 5864062014805 then (spec_l04Along.l1 k2 l0 a1 x5_1 x6_1 ((rd_L5 l0 x6_1).length : Int) (x8_2 ++ [(t313 ++ (rd_L4 (rd_L5 l0 x6_1) x9_2))]) (wrap64 (x9_2 + 1))) else (none)) else (none)))) else (none)) else (none)) else (none)) else (none)) = some r := by first | (rw [hji12] at H; exact H) | (simp only [hji12] at H ⊢; exact H)
          have hji12w : (IntKind.i64.wrap ((wrap64 (((rd_L5 l0 x6_1).length : Int) - 1)) - x9_2)) = ji12 := (i64_w _).trans hji12
          by_cases c13 : 0 ≤ (ji12)
          ·rw [if_pos c13] at H
           have c13b0 : decide (0 ≤ (ji12)) = true := decide_eq_true c13
           clear c13
           by_cases c14 : (ji12) < ((rd_L5 l0 x6_1).length : Int)
           ·rw [if_pos c14] at H
            have c14b0 : decide ((ji12) < ((rd_L5 l0 x6_1).length : Int)) = true := decide_eq_true c14
            clear c14
            by_cases c15 : 0 ≤ x9_2
            ·rw [if_pos c15] at H
             have c15b0 : decide (0 ≤ x9_2) = true := decide_eq_true c15
             clear c15
             by_cases c16 : x9_2 < ((rd_L5 l0 x6_1).length : Int)
             ·rw [if_pos c16] at H
              have c16b0 : decide (x9_2 < ((rd_L5 l0 x6_1).length : Int)) = true := decide_eq_true c16
              clear c16
              by_cases c17 : a1 = 76
              ·rw [if_pos c17] at H
               have c17b0 : (a1 == 76) = true := beq_iff_eq.mpr c17
               have c17b1 : (a1 != 76) = false := bne_eq_false_iff_eq.mpr c17
               clear c17
               obtain ⟨ji18, hji18⟩ : ∃ j_ : Int, (wrap64 ((wrap64 ((wrap64 ((((rd_L5 l0 x6_1).length : Int) / 2))) - 1)) - x9_2)) = j_ := ⟨_, rfl⟩
               replace H : (if 0 ≤ (ji18) then (if (ji18) < ((rd_L5 l0 x6_1).length : Int) then (if 0 ≤ (wrap64 ((wrap64 ((((rd_L5 l0 x6_1).length : Int) / 2))) + x9_2)) then (if (wrap64 ((wrap64 ((((rd_L5 l0 x6_1).length : Int) / 2))) + x9_2)) < ((rd_L5 l0 x6_1).length : Int) then ((spec_l04Turn.f (rd_L4 (rd_L5 l0 x6_1) (ji18)) true).bind fun t304 => (if t304.length + (rd_L4 (rd_L5 l0 x6_1) (wrap64 ((wrap64 ((((rd_L5 l0 x6_1).length : Int) / 2))) + x9_2))).length < 5864062014805 then (if x8_2.length < 5864062014805 then (spec_l04Along.l1 k2 l0 a1 x5_1 x6_1 ((rd_L5 l0 x6_1).length : Int) (x8_2 ++ [(t304 ++ (rd_L4 (rd_L5 l0 x6_1) (wrap64 ((wrap64 ((((rd_L5 l0 x6_1).length : Int) / 2))) + x9_2))))]) (wrap64 (x9_2 + 1))) else (none)) else (none))) else (none)) else (none)) else (none)) else (none)) = some r := by first | (rw [hji18] at H; exact H) | (simp only [hji18] at H ⊢; exact H)
               have hji18w : (IntKind.i64.wrap ((wrap64 ((wrap64 ((((rd_L5 l0 x6_1).length : Int) / 2))) - 1)) - x9_2)) = ji18 := (i64_w _).trans hji18
               by_cases c19 : 0 ≤ (ji18)
               ·rw [if_pos c19] at H
                have c19b0 : decide (0 ≤ (ji18)) = true := decide_eq_true c19
                clear c19
                by_cases c20 : (ji18) < ((rd_L5 l0 x6_1).length : Int)
                ·rw [if_pos c20] at H
                 have c20b0 : decide ((ji18) < ((rd_L5 l0 x6_1).length : Int)) = true := decide_eq_true c20
                 clear c20
                 obtain ⟨ji21, hji21⟩ : ∃ j_ : Int, (wrap64 ((wrap64 ((((rd_L5 l0 x6_1).length : Int) / 2))) + x9_2)) = j_ := ⟨_, rfl⟩
                 replace H : (if 0 ≤ (ji21) then (if (ji21) < ((rd_L5 l0 x6_1).length : Int) then ((spec_l04Turn.f (rd_L4 (rd_L5 l0 x6_1) (ji18)) true).bind fun t304 => (if t304.length + (rd_L4 (rd_L5 l0 x6_1) (ji21)).length < 5864062014805 then (if x8_2.length < 5864062014805 then (spec_l04Along.l1 k2 l0 a1 x5_1 x6_1 ((rd_L5 l0 x6_1).length : Int) (x8_2 ++ [(t304 ++ (rd_L4 (rd_L5 l0 x6_1) (ji21)))]) (wrap64 (x9_2 + 1))) else (none)) else (none))) else (none)) else (none)) = some r := by first | (rw [hji21] at H; exact H) | (simp only [hji21] at H ⊢; exact H)
                 have hji21w : (IntKind.i64.wrap ((wrap64 ((((rd_L5 l0 x6_1).length : Int) / 2))) + x9_2)) = ji21 := (i64_w _).trans hji21
                 by_cases c22 : 0 ≤ (ji21)
                 ·rw [if_pos c22] at H
                  have c22b0 : decide (0 ≤ (ji21)) = true := decide_eq_true c22
                  clear c22
                  by_cases c23 : (ji21) < ((rd_L5 l0 x6_1).length : Int)
                  ·rw [if_pos c23] at H
                   have c23b0 : decide ((ji21) < ((rd_L5 l0 x6_1).length : Int)) = true := decide_eq_true c23
                   clear c23
                   replace H := Option.bind_eq_some_iff.mp H
                   obtain ⟨t304, A240, H⟩ := H
                   replace H : (if t304.length + (rd_L4 (rd_L5 l0 x6_1) (ji21)).length < 5864062014805 then (if x8_2.length < 5864062014805 then (spec_l04Along.l1 k2 l0 a1 x5_1 x6_1 ((rd_L5 l0 x6_1).length : Int) (x8_2 ++ [(t304 ++ (rd_L4 (rd_L5 l0 x6_1) (ji21)))]) (wrap64 (x9_2 + 1))) else (none)) else (none)) = some r := H
                   have A24 := Aside0.mk A240
                   clear A240
                   by_cases c25 : t304.length + (rd_L4 (rd_L5 l0 x6_1) (ji21)).length < 5864062014805
                   ·rw [if_pos c25] at H
                    have LMc25 := Aside0.mk c25
                    clear c25
                    obtain ⟨y307, hy307⟩ : ∃ y_ : List (S64), y_ = (t304 ++ (rd_L4 (rd_L5 l0 x6_1) (ji21))) := ⟨_, rfl⟩
                    replace H : (if x8_2.length < 5864062014805 then (spec_l04Along.l1 k2 l0 a1 x5_1 x6_1 ((rd_L5 l0 x6_1).length : Int) (x8_2 ++ [y307]) (wrap64 (x9_2 + 1))) else (none)) = some r := rh_ hy307 H
                    have Ny307 := Aside0.mk hy307
                    clear hy307
                    by_cases c26 : x8_2.length < 5864062014805
                    ·rw [if_pos c26] at H
                     have LMc26 := Aside0.mk c26
                     clear c26
                     obtain ⟨y310, hy310⟩ : ∃ y_ : List (List (S64)), y_ = (x8_2 ++ [y307]) := ⟨_, rfl⟩
                     replace H : (spec_l04Along.l1 k2 l0 a1 x5_1 x6_1 ((rd_L5 l0 x6_1).length : Int) y310 (wrap64 (x9_2 + 1))) = some r := rh_ hy310 H
                     have Ny310 := Aside0.mk hy310
                     clear hy310
                     have H' := Aside0.mk H
                     clear H
                     try go_wp2
                     replace HO_5 := a_ (Kd.R_drew HO_5.out)
                     replace HO_8 := a_ (Kd.S_drew HO_8.out)
                     replace HB := a_ (below_drew1 HB.out)
                     have p296 : 0 ≤ (x6_1 : Int) := of_decide_eq_true z77_
                     have q296 : x6_1 < (l0.length : Int) := of_decide_eq_true z77_
                     obtain ⟨ad296, A296_0, c296_0, e296, hx296_0, hl296_0, hi296_0⟩ := at_L5 HR0.out x6_1 p296 q296
                     have hw296_0 := hx296_0
                     obtain rfl : ad292 = ad296 := (by injection e296)
                     replace hx296_0 := (HB.out.cell (World.block_lt_of_cell? _ _ hx296_0)).trans hx296_0
                     have HR296_0 := Aside0.mk hi296_0
                     have HC296_0 := Aside0.mk hl296_0
                     clear hi296_0 hl296_0
                     replace p296 := eq_true p296
                     replace q296 := eq_true q296
                     have p297 : 0 ≤ ((ji12) : Int) := of_decide_eq_true z77_
                     have q297 : (ji12) < ((rd_L5 l0 x6_1).length : Int) := of_decide_eq_true z77_
                     obtain ⟨ad297, A297_0, c297_0, e297, hx297_0, hl297_0, hi297_0⟩ := at_L4 HR296_0.out (ji12) p297 q297
                     have hw297_0 := hx297_0
                     cases e297
                     replace hx297_0 := (HB.out.cell (World.block_lt_of_cell? _ _ hx297_0)).trans hx297_0
                     have HR297_0 := Aside0.mk hi297_0
                     have HC297_0 := Aside0.mk hl297_0
                     clear hi297_0 hl297_0
                     replace p297 := eq_true p297
                     replace q297 := eq_true q297
                     have p298 : 0 ≤ (x6_1 : Int) := of_decide_eq_true z77_
                     have q298 : x6_1 < (l0.length : Int) := of_decide_eq_true z77_
                     obtain ⟨ad298, A298_0, c298_0, e298, hx298_0, hl298_0, hi298_0⟩ := at_L5 HR0.out x6_1 p298 q298
                     have hw298_0 := hx298_0
                     obtain rfl : ad292 = ad298 := (by injection e298)
                     replace hx298_0 := (HB.out.cell (World.block_lt_of_cell? _ _ hx298_0)).trans hx298_0
                     have HR298_0 := Aside0.mk hi298_0
                     have HC298_0 := Aside0.mk hl298_0
                     clear hi298_0 hl298_0
                     replace p298 := eq_true p298
                     replace q298 := eq_true q298
                     have ea_ := Option.some.inj (hx296_0.symm.trans hx298_0)
                     injection ea_ with ea_ en_ ec_
                     subst ea_
                     subst ec_
                     clear en_
                     have p299 : 0 ≤ (x9_2 : Int) := of_decide_eq_true z77_
                     have q299 : x9_2 < ((rd_L5 l0 x6_1).length : Int) := of_decide_eq_true z77_
                     obtain ⟨ad299, A299_0, c299_0, e299, hx299_0, hl299_0, hi299_0⟩ := at_L4 HR298_0.out x9_2 p299 q299
                     have hw299_0 := hx299_0
                     cases e299
                     replace hx299_0 := (HB.out.cell (World.block_lt_of_cell? _ _ hx299_0)).trans hx299_0
                     have HR299_0 := Aside0.mk hi299_0
                     have HC299_0 := Aside0.mk hl299_0
                     clear hi299_0 hl299_0
                     replace p299 := eq_true p299
                     replace q299 := eq_true q299
                     refine start_ (n := 19) (S := fun w' => w'.cell? (ad292.add (x6_1).toNat) = some (.slice (some ad297) (rd_L5 l0 x6_1).length c296_0) ∧ w'.cell? (ad297.add ((ji12)).toNat) = some (.slice A297_0 (rd_L4 (rd_L5 l0 x6_1) (ji12)).length c297_0) ∧ w'.cell? (ad292.add (x6_1).toNat) = some (.slice (some ad297) (rd_L5 l0 x6_1).length c296_0) ∧ w'.cell? (ad297.add (x9_2).toNat) = some (.slice A299_0 (rd_L4 (rd_L5 l0 x6_1) x9_2).length c299_0)) (ds := []) #[false, false, false, false, false, false, false, false, false, false, false, false, false, false, false, false, false, false, false] (by kernel_rfl) rfl rfl ⟨((HB.out.cell (World.block_lt_of_cell? _ _ hw296_0)).trans hw296_0), ((HB.out.cell (World.block_lt_of_cell? _ _ hw297_0)).trans hw297_0), ((HB.out.cell (World.block_lt_of_cell? _ _ hw298_0)).trans hw298_0), ((HB.out.cell (World.block_lt_of_cell? _ _ hw299_0)).trans hw299_0)⟩ (fun hHeld => ?_); refine with_tabW spec_l04Along.tab10 spec_l04Along.bits10 (fun HT_ HW_ => ?_)
                     generalize wr.drew = w27 at HO_5 HO_8 HB HR296_0 HR297_0 HR298_0 HR299_0 hx296_0 hx297_0 hx298_0 hx299_0 hHeld ⊢
                     refine pu_ (i := 0) (N := some 31) #[true, false, false, false, false, false, false, false, false, false, false, false, false, false, false, false, false, false, false] ?_
                     refine pu_ (i := 1) (N := some 32) #[true, true, false, false, false, false, false, false, false, false, false, false, false, false, false, false, false, false, false] ?_
                     refine pu_ (i := 2) (N := some 33) #[true, true, true, false, false, false, false, false, false, false, false, false, false, false, false, false, false, false, false] ?_
                     refine pu_ (i := 4) (N := some 35) #[true, true, true, false, true, false, false, false, false, false, false, false, false, false, false, false, false, false, false] ?_
                     refine pu_ (i := 5) (N := some 36) #[true, true, true, false, true, true, false, false, false, false, false, false, false, false, false, false, false, false, false] ?_
                     refine pu_ (i := 6) (N := some 37) #[true, true, true, false, true, true, true, false, false, false, false, false, false, false, false, false, false, false, false] ?_
                     refine pu_ (i := 7) (N := some 38) #[true, true, true, false, true, true, true, true, false, false, false, false, false, false, false, false, false, false, false] ?_
                     refine pu_ (i := 10) (N := some 41) #[true, true, true, false, true, true, true, true, false, false, true, false, false, false, false, false, false, false, false] ?_
                     refine pu_ (i := 11) (N := some 42) #[true, true, true, false, true, true, true, true, false, false, true, true, false, false, false, false, false, false, false] ?_
                     refine pu_ (i := 12) (N := some 43) #[true, true, true, false, true, true, true, true, false, false, true, true, true, false, false, false, false, false, false] ?_
                     refine pu_ (i := 14) (N := some 45) #[true, true, true, false, true, true, true, true, false, false, true, true, true, false, true, false, false, false, false] ?_
                     refine tk4_ (i := 3) (N := some 34) #[true, true, true, true, true, true, true, true, false, false, true, true, true, false, true, false, false, false, false] hHeld ?_
                     refine pu_ (i := 8) (N := some 39) #[true, true, true, true, true, true, true, true, true, false, true, true, true, false, true, false, false, false, false] ?_
                     refine tk4_ (i := 9) (N := some 40) #[true, true, true, true, true, true, true, true, true, true, true, true, true, false, true, false, false, false, false] hHeld ?_
                     refine pu_ (i := 17) (N := some 10) #[true, true, true, true, true, true, true, true, true, true, true, true, true, false, true, false, false, true, false] ?_
                     refine tk4_ (i := 13) (N := some 44) #[true, true, true, true, true, true, true, true, true, true, true, true, true, true, true, false, false, true, false] hHeld ?_
                     refine pu_ (i := 15) (N := some 46) #[true, true, true, true, true, true, true, true, true, true, true, true, true, true, true, true, false, true, false] ?_
                     refine tk4_ (i := 16) (N := some 47) #[true, true, true, true, true, true, true, true, true, true, true, true, true, true, true, true, true, true, false] hHeld ?_
                     refine pu_ (i := 18) (N := some 11) #[true, true, true, true, true, true, true, true, true, true, true, true, true, true, true, true, true, true, true] ?_
                     refine done_ (done_of HT_.out (by kernel_rfl)) ?_
                     try go_wp2
                     replace HO_5 := a_ (Kd.R_drew HO_5.out)
                     replace HO_8 := a_ (Kd.S_drew HO_8.out)
                     replace HB := a_ (below_drew1 HB.out)
                     have p300 : 0 ≤ (x6_1 : Int) := of_decide_eq_true z77_
                     have q300 : x6_1 < (l0.length : Int) := of_decide_eq_true z77_
                     obtain ⟨ad300, A300_0, c300_0, e300, hx300_0, hl300_0, hi300_0⟩ := at_L5 HR0.out x6_1 p300 q300
                     have hw300_0 := hx300_0
                     obtain rfl : ad292 = ad300 := (by injection e300)
                     replace hx300_0 := (HB.out.cell (World.block_lt_of_cell? _ _ hx300_0)).trans hx300_0
                     have HR300_0 := Aside0.mk hi300_0
                     have HC300_0 := Aside0.mk hl300_0
                     clear hi300_0 hl300_0
                     replace p300 := eq_true p300
                     replace q300 := eq_true q300
                     have p301 : 0 ≤ ((ji18) : Int) := of_decide_eq_true z77_
                     have q301 : (ji18) < ((rd_L5 l0 x6_1).length : Int) := of_decide_eq_true z77_
                     obtain ⟨ad301, A301_0, c301_0, e301, hx301_0, hl301_0, hi301_0⟩ := at_L4 HR300_0.out (ji18) p301 q301
                     have hw301_0 := hx301_0
                     cases e301
                     replace hx301_0 := (HB.out.cell (World.block_lt_of_cell? _ _ hx301_0)).trans hx301_0
                     have HR301_0 := Aside0.mk hi301_0
                     have HC301_0 := Aside0.mk hl301_0
                     clear hi301_0 hl301_0
                     replace p301 := eq_true p301
                     replace q301 := eq_true q301
                     have p302 : 0 ≤ (x6_1 : Int) := of_decide_eq_true z77_
                     have q302 : x6_1 < (l0.length : Int) := of_decide_eq_true z77_
                     obtain ⟨ad302, A302_0, c302_0, e302, hx302_0, hl302_0, hi302_0⟩ := at_L5 HR0.out x6_1 p302 q302
                     have hw302_0 := hx302_0
                     obtain rfl : ad292 = ad302 := (by injection e302)
                     replace hx302_0 := (HB.out.cell (World.block_lt_of_cell? _ _ hx302_0)).trans hx302_0
                     have HR302_0 := Aside0.mk hi302_0
                     have HC302_0 := Aside0.mk hl302_0
                     clear hi302_0 hl302_0
                     replace p302 := eq_true p302
                     replace q302 := eq_true q302
                     have ea_ := Option.some.inj (hx300_0.symm.trans hx302_0)
                     injection ea_ with ea_ en_ ec_
                     subst ea_
                     subst ec_
                     clear en_
                     have p303 : 0 ≤ ((ji21) : Int) := of_decide_eq_true z77_
                     have q303 : (ji21) < ((rd_L5 l0 x6_1).length : Int) := of_decide_eq_true z77_
                     obtain ⟨ad303, A303_0, c303_0, e303, hx303_0, hl303_0, hi303_0⟩ := at_L4 HR302_0.out (ji21) p303 q303
                     have hw303_0 := hx303_0
                     cases e303
                     replace hx303_0 := (HB.out.cell (World.block_lt_of_cell? _ _ hx303_0)).trans hx303_0
                     have HR303_0 := Aside0.mk hi303_0
                     have HC303_0 := Aside0.mk hl303_0
                     clear hi303_0 hl303_0
                     replace p303 := eq_true p303
                     replace q303 := eq_true q303
                     refine start_ (n := 23) (S := fun w' => w'.cell? (ad292.add (x6_1).toNat) = some (.slice (some ad301) (rd_L5 l0 x6_1).length c300_0) ∧ w'.cell? (ad301.add ((ji18)).toNat) = some (.slice A301_0 (rd_L4 (rd_L5 l0 x6_1) (ji18)).length c301_0) ∧ w'.cell? (ad292.add (x6_1).toNat) = some (.slice (some ad301) (rd_L5 l0 x6_1).length c300_0) ∧ w'.cell? (ad301.add ((ji21)).toNat) = some (.slice A303_0 (rd_L4 (rd_L5 l0 x6_1) (ji21)).length c303_0)) (ds := []) #[false, false, false, false, false, false, false, false, false, false, false, false, false, false, false, false, false, false, false, false, false, false, false] (by kernel_rfl) rfl rfl ⟨((HB.out.cell (World.block_lt_of_cell? _ _ hw300_0)).trans hw300_0), ((HB.out.cell (World.block_lt_of_cell? _ _ hw301_0)).trans hw301_0), ((HB.out.cell (World.block_lt_of_cell? _ _ hw302_0)).trans hw302_0), ((HB.out.cell (World.block_lt_of_cell? _ _ hw303_0)).trans hw303_0)⟩ (fun hHeld => ?_); refine with_tabW spec_l04Along.tab12 spec_l04Along.bits12 (fun HT_ HW_ => ?_)
                     generalize w27.drew = w28 at HO_5 HO_8 HB HR300_0 HR301_0 HR302_0 HR303_0 hx300_0 hx301_0 hx302_0 hx303_0 hHeld ⊢
                     refine pu_ (i := 0) (N := some 50) #[true, false, false, false, false, false, false, false, false, false, false, false, false, false, false, false, false, false, false, false, false, false, false] ?_
                     refine pu_ (i := 1) (N := some 51) #[true, true, false, false, false, false, false, false, false, false, false, false, false, false, false, false, false, false, false, false, false, false, false] ?_
                     refine pu_ (i := 2) (N := some 52) #[true, true, true, false, false, false, false, false, false, false, false, false, false, false, false, false, false, false, false, false, false, false, false] ?_
                     refine pu_ (i := 4) (N := some 54) #[true, true, true, false, true, false, false, false, false, false, false, false, false, false, false, false, false, false, false, false, false, false, false] ?_
                     refine pu_ (i := 5) (N := some 55) #[true, true, true, false, true, true, false, false, false, false, false, false, false, false, false, false, false, false, false, false, false, false, false] ?_
                     refine pu_ (i := 6) (N := some 56) #[true, true, true, false, true, true, true, false, false, false, false, false, false, false, false, false, false, false, false, false, false, false, false] ?_
                     refine pu_ (i := 7) (N := some 57) #[true, true, true, false, true, true, true, true, false, false, false, false, false, false, false, false, false, false, false, false, false, false, false] ?_
                     refine pu_ (i := 8) (N := some 58) #[true, true, true, false, true, true, true, true, true, false, false, false, false, false, false, false, false, false, false, false, false, false, false] ?_
                     refine pu_ (i := 11) (N := some 61) #[true, true, true, false, true, true, true, true, true, false, false, true, false, false, false, false, false, false, false, false, false, false, false] ?_
                     refine pu_ (i := 12) (N := some 62) #[true, true, true, false, true, true, true, true, true, false, false, true, true, false, false, false, false, false, false, false, false, false, false] ?_
                     refine pu_ (i := 13) (N := some 63) #[true, true, true, false, true, true, true, true, true, false, false, true, true, true, false, false, false, false, false, false, false, false, false] ?_
                     refine pu_ (i := 15) (N := some 65) #[true, true, true, false, true, true, true, true, true, false, false, true, true, true, false, true, false, false, false, false, false, false, false] ?_
                     refine pu_ (i := 16) (N := some 66) #[true, true, true, false, true, true, true, true, true, false, false, true, true, true, false, true, true, false, false, false, false, false, false] ?_
                     refine pu_ (i := 17) (N := some 67) #[true, true, true, false, true, true, true, true, true, false, false, true, true, true, false, true, true, true, false, false, false, false, false] ?_
                     refine pu_ (i := 18) (N := some 68) #[true, true, true, false, true, true, true, true, true, false, false, true, true, true, false, true, true, true, true, false, false, false, false] ?_
                     refine tk4_ (i := 3) (N := some 53) #[true, true, true, true, true, true, true, true, true, false, false, true, true, true, false, true, true, true, true, false, false, false, false] hHeld ?_
                     refine pu_ (i := 9) (N := some 59) #[true, true, true, true, true, true, true, true, true, true, false, true, true, true, false, true, true, true, true, false, false, false, false] ?_
                     refine tk4_ (i := 10) (N := some 60) #[true, true, true, true, true, true, true, true, true, true, true, true, true, true, false, true, true, true, true, false, false, false, false] hHeld ?_
                     refine pu_ (i := 21) (N := some 10) #[true, true, true, true, true, true, true, true, true, true, true, true, true, true, false, true, true, true, true, false, false, true, false] ?_
                     refine tk4_ (i := 14) (N := some 64) #[true, true, true, true, true, true, true, true, true, true, true, true, true, true, true, true, true, true, true, false, false, true, false] hHeld ?_
                     refine pu_ (i := 19) (N := some 69) #[true, true, true, true, true, true, true, true, true, true, true, true, true, true, true, true, true, true, true, true, false, true, false] ?_
                     refine tk4_ (i := 20) (N := some 70) #[true, true, true, true, true, true, true, true, true, true, true, true, true, true, true, true, true, true, true, true, true, true, false] hHeld ?_
                     refine pu_ (i := 22) (N := some 11) #[true, true, true, true, true, true, true, true, true, true, true, true, true, true, true, true, true, true, true, true, true, true, true] ?_
                     refine done_ (done_of HT_.out (by kernel_rfl)) ?_
                     try go_wp2_with (first | ((with_reducible refine gate_callee (f := 115) rfl ?_); refine goesL_ (some 73) rfl rfl Tryz.func115 (by kernel_rfl) rfl #[.slice A301_0 (rd_L4 (rd_L5 l0 x6_1) (ji18)).length c301_0, .bool true] rfl (by (try simp only [List.map_toArray, List.map_cons, List.map_nil]); first | done | (simp only [hji18]; rfl) | rfl | (simp only [List.length_drop, List.length_take]; rfl)) ?_; (with_reducible refine (spec_l04Turn.calls _ _ (rd_L4 (rd_L5 l0 x6_1) (ji18)) true t304 _ ?side1 ?side2 A24.out).mono ?_); (case side1 => exact kc_ (Kd.C_below HR301_0.out HB.out)); (case side2 => exact HC301_0.out); rintro e w29 ⟨v305, rfl, ho0, hb⟩; refine ⟨_, rfl, ?_⟩; replace HO_5 := a_ (Kd.R_elder' (ra_ HO_5.out) (Kd.R_base ho0) hb); replace HO_8 := a_ (Kd.S_elder' z66_ (Kd.R_base ho0) hb); have HO306 := a_ (Kd.R_lower ho0 (below_size z33_)); replace HB := a_ (below_step z33_ hb); (try clear hb); (try clear hb2); (try clear hk); (try clear hi); (try clear ho0)) | ((with_reducible refine gate_builtin (b := .append) (xs := #[.tmp 73, .tmp 74]) rfl ?_); at_builtin; refine Kd.R_append_rows k64 (w0 := w) w.heap.size rfl (.tmp 73) (.tmp 74) 61 64 (.agg #[(.int .i64 0), (.int .i64 0), (.bool false), (.bool false)]) 24 rfl Tryz.underlying61 info64 rfl (by decide) (by omega) v305 t304 (rd_L4 (rd_L5 l0 x6_1) (ji21)) _ _ _ (fun _ => True) (fun _ => False) rfl rfl ?aO ?aR (fun _ _ h => h) (fun _ h => h.elim) ?aF ?aB ?aS ?aL ?_; (case aR => exact kc_ (Kd.C_below HR303_0.out HB.out)); (case aB => exact z33_); (case aF => exact (fun _ _ => trivial)); (case aO => exact (ra_ HO306.out)); (case aS => exact (below_size z33_)); (case aL => have := LMc25.out; omega); intro v308 w30 ho hb hg hat; rw [← Ny307.out] at ho; replace HO_5 := a_ (Kd.R_after (ok := (fun k_ => some k_ ≠ (u8 : Value).ownBlock)) (ra_ HO_5.out) hg hat); replace HO_8 := a_ (Kd.S_after (ok := (fun _ => True)) z66_ hg hat); replace HB := a_ (hb); have HO309 := a_ (ho); clear HO306; clear ho hb hg hat; obtain ⟨Ao32, co32, eo32⟩ := Kd.R_slice HO309.out; subst eo32) | ((with_reducible refine gate_builtin (b := .append) (xs := #[.tmp 71, .tmp 76]) rfl ?_); at_builtin; refine Kd.S_append (Kd.slice 64 k64) (w0 := w) w.heap.size rfl (.tmp 71) (.tmp 76) 96 61 (.slice none 0 0) 24 rfl Tryz.underlying96 info61 rfl (by decide) (by omega) u8 x8_2 y307 [.slice Ao32 y307.length co32] (fun _ => True) (fun k_ => some k_ = (.slice Ao32 y307.length co32 : Value).ownBlock) rfl rfl ?aP (fun k_ hk_ => ((Kd.R_mono (ok' := fun k_ => ((fun _ => True)) k_ ∧ some k_ ≠ (u8 : Value).ownBlock) (Kd.R_apart' (HO309.out) (Kd.S_typed HO_8.out) (by decide)) (fun k_ hk => ⟨trivial, hk.2⟩))).1 k_ hk_.symm) ?aF ?aO ?aB ?aS ?aL ?_; (case aP => exact Kd.M_row (Kd.R_mono (Kd.R_tight rfl (Kd.R_mono (ok' := fun k_ => ((fun _ => True)) k_ ∧ some k_ ≠ (u8 : Value).ownBlock) (Kd.R_apart' (HO309.out) (Kd.S_typed HO_8.out) (by decide)) (fun k_ hk => ⟨trivial, hk.2⟩))) (fun _ h_ => h_))); (case aB => exact z33_); (case aF => exact (fun _ _ => trivial)); (case aO => exact (by (with_reducible repeat (first | apply Kd.S_alloc | apply Kd.S_drewN | apply Kd.S_drew)); exact Kd.S_mono HO_8.out (fun k_ hk => ⟨trivial, fun e_ => hk.2 e_⟩))); (case aS => exact (below_size z33_)); (case aL => have := LMc26.out; omega); intro v311 w31 ho hb hg hat; rw [← Ny310.out] at ho; replace HO_5 := a_ (Kd.R_after (ok := (fun k_ => nb_ k_ Ao32 y307.length co32)) (rc_ (h := by exact Kd.R_mono HO_5.out (fun _ hk => ⟨hk.2, hk.1⟩))) hg hat); replace HB := a_ (hb); have HO312 := a_ (ho); clear HO309; clear HO_8; clear ho hb hg hat))
                     go_roundg k2
                     case measure => have := HK1.out; have := HK2.out; omega
                     case rel => exact ⟨(y310), (wrap64 (x9_2 + 1)), z78_, H', ⟨z79_⟩, ⟨z37_⟩, ⟨by (with_reducible repeat (first | apply Kd.S_alloc | apply Kd.S_drewN | apply Kd.S_drew)); exact HO312.out⟩, ⟨z33_⟩⟩
                    ·rw [if_neg c26] at H
                     exact absurd H (by simp)
                   ·rw [if_neg c25] at H
                    exact absurd H (by simp)
                  ·rw [if_neg c23] at H
                   exact absurd H (by simp)
                 ·rw [if_neg c22] at H
                  exact absurd H (by simp)
                ·rw [if_neg c20] at H
                 exact absurd H (by simp)
               ·rw [if_neg c19] at H
                exact absurd H (by simp)
              ·rw [if_neg c17] at H
               have c17b0 : (a1 == 76) = false := beq_eq_false_iff_ne.mpr c17
               have c17b1 : (a1 != 76) = true := bne_iff_ne.mpr c17
               replace H := Option.bind_eq_some_iff.mp H
               obtain ⟨t313, A330, H⟩ := H
               replace H : (if t313.length + (rd_L4 (rd_L5 l0 x6_1) x9_2).length < 5864062014805 then (if x8_2.length < 5864062014805 then (spec_l04Along.l1 k2 l0 a1 x5_1 x6_1 ((rd_L5 l0 x6_1).length : Int) (x8_2 ++ [(t313 ++ (rd_L4 (rd_L5 l0 x6_1) x9_2))]) (wrap64 (x9_2 + 1))) else (none)) else (none)) = some r := H
               have A33 := Aside0.mk A330
               clear A330
               by_cases c34 : t313.length + (rd_L4 (rd_L5 l0 x6_1) x9_2).length < 5864062014805
               ·rw [if_pos c34] at H
                have LMc34 := Aside0.mk c34
                clear c34
                obtain ⟨y316, hy316⟩ : ∃ y_ : List (S64), y_ = (t313 ++ (rd_L4 (rd_L5 l0 x6_1) x9_2)) := ⟨_, rfl⟩
                replace H : (if x8_2.length < 5864062014805 then (spec_l04Along.l1 k2 l0 a1 x5_1 x6_1 ((rd_L5 l0 x6_1).length : Int) (x8_2 ++ [y316]) (wrap64 (x9_2 + 1))) else (none)) = some r := rh_ hy316 H
                have Ny316 := Aside0.mk hy316
                clear hy316
                by_cases c35 : x8_2.length < 5864062014805
                ·rw [if_pos c35] at H
                 have LMc35 := Aside0.mk c35
                 clear c35
                 obtain ⟨y319, hy319⟩ : ∃ y_ : List (List (S64)), y_ = (x8_2 ++ [y316]) := ⟨_, rfl⟩
                 replace H : (spec_l04Along.l1 k2 l0 a1 x5_1 x6_1 ((rd_L5 l0 x6_1).length : Int) y319 (wrap64 (x9_2 + 1))) = some r := rh_ hy319 H
                 have Ny319 := Aside0.mk hy319
                 clear hy319
                 have H' := Aside0.mk H
                 clear H
                 try go_wp2
                 replace HO_5 := a_ (Kd.R_drew HO_5.out)
                 replace HO_8 := a_ (Kd.S_drew HO_8.out)
                 replace HB := a_ (below_drew1 HB.out)
                 have p296 : 0 ≤ (x6_1 : Int) := of_decide_eq_true z77_
                 have q296 : x6_1 < (l0.length : Int) := of_decide_eq_true z77_
                 obtain ⟨ad296, A296_0, c296_0, e296, hx296_0, hl296_0, hi296_0⟩ := at_L5 HR0.out x6_1 p296 q296
                 have hw296_0 := hx296_0
                 obtain rfl : ad292 = ad296 := (by injection e296)
                 replace hx296_0 := (HB.out.cell (World.block_lt_of_cell? _ _ hx296_0)).trans hx296_0
                 have HR296_0 := Aside0.mk hi296_0
                 have HC296_0 := Aside0.mk hl296_0
                 clear hi296_0 hl296_0
                 replace p296 := eq_true p296
                 replace q296 := eq_true q296
                 have p297 : 0 ≤ ((ji12) : Int) := of_decide_eq_true z77_
                 have q297 : (ji12) < ((rd_L5 l0 x6_1).length : Int) := of_decide_eq_true z77_
                 obtain ⟨ad297, A297_0, c297_0, e297, hx297_0, hl297_0, hi297_0⟩ := at_L4 HR296_0.out (ji12) p297 q297
                 have hw297_0 := hx297_0
                 cases e297
                 replace hx297_0 := (HB.out.cell (World.block_lt_of_cell? _ _ hx297_0)).trans hx297_0
                 have HR297_0 := Aside0.mk hi297_0
                 have HC297_0 := Aside0.mk hl297_0
                 clear hi297_0 hl297_0
                 replace p297 := eq_true p297
                 replace q297 := eq_true q297
                 have p298 : 0 ≤ (x6_1 : Int) := of_decide_eq_true z77_
                 have q298 : x6_1 < (l0.length : Int) := of_decide_eq_true z77_
                 obtain ⟨ad298, A298_0, c298_0, e298, hx298_0, hl298_0, hi298_0⟩ := at_L5 HR0.out x6_1 p298 q298
                 have hw298_0 := hx298_0
                 obtain rfl : ad292 = ad298 := (by injection e298)
                 replace hx298_0 := (HB.out.cell (World.block_lt_of_cell? _ _ hx298_0)).trans hx298_0
                 have HR298_0 := Aside0.mk hi298_0
                 have HC298_0 := Aside0.mk hl298_0
                 clear hi298_0 hl298_0
                 replace p298 := eq_true p298
                 replace q298 := eq_true q298
                 have ea_ := Option.some.inj (hx296_0.symm.trans hx298_0)
                 injection ea_ with ea_ en_ ec_
                 subst ea_
                 subst ec_
                 clear en_
                 have p299 : 0 ≤ (x9_2 : Int) := of_decide_eq_true z77_
                 have q299 : x9_2 < ((rd_L5 l0 x6_1).length : Int) := of_decide_eq_true z77_
                 obtain ⟨ad299, A299_0, c299_0, e299, hx299_0, hl299_0, hi299_0⟩ := at_L4 HR298_0.out x9_2 p299 q299
                 have hw299_0 := hx299_0
                 cases e299
                 replace hx299_0 := (HB.out.cell (World.block_lt_of_cell? _ _ hx299_0)).trans hx299_0
                 have HR299_0 := Aside0.mk hi299_0
                 have HC299_0 := Aside0.mk hl299_0
                 clear hi299_0 hl299_0
                 replace p299 := eq_true p299
                 replace q299 := eq_true q299
                 refine start_ (n := 19) (S := fun w' => w'.cell? (ad292.add (x6_1).toNat) = some (.slice (some ad297) (rd_L5 l0 x6_1).length c296_0) ∧ w'.cell? (ad297.add ((ji12)).toNat) = some (.slice A297_0 (rd_L4 (rd_L5 l0 x6_1) (ji12)).length c297_0) ∧ w'.cell? (ad292.add (x6_1).toNat) = some (.slice (some ad297) (rd_L5 l0 x6_1).length c296_0) ∧ w'.cell? (ad297.add (x9_2).toNat) = some (.slice A299_0 (rd_L4 (rd_L5 l0 x6_1) x9_2).length c299_0)) (ds := []) #[false, false, false, false, false, false, false, false, false, false, false, false, false, false, false, false, false, false, false] (by kernel_rfl) rfl rfl ⟨((HB.out.cell (World.block_lt_of_cell? _ _ hw296_0)).trans hw296_0), ((HB.out.cell (World.block_lt_of_cell? _ _ hw297_0)).trans hw297_0), ((HB.out.cell (World.block_lt_of_cell? _ _ hw298_0)).trans hw298_0), ((HB.out.cell (World.block_lt_of_cell? _ _ hw299_0)).trans hw299_0)⟩ (fun hHeld => ?_); refine with_tabW spec_l04Along.tab10 spec_l04Along.bits10 (fun HT_ HW_ => ?_)
                 generalize wr.drew = w36 at HO_5 HO_8 HB HR296_0 HR297_0 HR298_0 HR299_0 hx296_0 hx297_0 hx298_0 hx299_0 hHeld ⊢
                 refine pu_ (i := 0) (N := some 31) #[true, false, false, false, false, false, false, false, false, false, false, false, false, false, false, false, false, false, false] ?_
                 refine pu_ (i := 1) (N := some 32) #[true, true, false, false, false, false, false, false, false, false, false, false, false, false, false, false, false, false, false] ?_
                 refine pu_ (i := 2) (N := some 33) #[true, true, true, false, false, false, false, false, false, false, false, false, false, false, false, false, false, false, false] ?_
                 refine pu_ (i := 4) (N := some 35) #[true, true, true, false, true, false, false, false, false, false, false, false, false, false, false, false, false, false, false] ?_
                 refine pu_ (i := 5) (N := some 36) #[true, true, true, false, true, true, false, false, false, false, false, false, false, false, false, false, false, false, false] ?_
                 refine pu_ (i := 6) (N := some 37) #[true, true, true, false, true, true, true, false, false, false, false, false, false, false, false, false, false, false, false] ?_
                 refine pu_ (i := 7) (N := some 38) #[true, true, true, false, true, true, true, true, false, false, false, false, false, false, false, false, false, false, false] ?_
                 refine pu_ (i := 10) (N := some 41) #[true, true, true, false, true, true, true, true, false, false, true, false, false, false, false, false, false, false, false] ?_
                 refine pu_ (i := 11) (N := some 42) #[true, true, true, false, true, true, true, true, false, false, true, true, false, false, false, false, false, false, false] ?_
                 refine pu_ (i := 12) (N := some 43) #[true, true, true, false, true, true, true, true, false, false, true, true, true, false, false, false, false, false, false] ?_
                 refine pu_ (i := 14) (N := some 45) #[true, true, true, false, true, true, true, true, false, false, true, true, true, false, true, false, false, false, false] ?_
                 refine tk4_ (i := 3) (N := some 34) #[true, true, true, true, true, true, true, true, false, false, true, true, true, false, true, false, false, false, false] hHeld ?_
                 refine pu_ (i := 8) (N := some 39) #[true, true, true, true, true, true, true, true, true, false, true, true, true, false, true, false, false, false, false] ?_
                 refine tk4_ (i := 9) (N := some 40) #[true, true, true, true, true, true, true, true, true, true, true, true, true, false, true, false, false, false, false] hHeld ?_
                 refine pu_ (i := 17) (N := some 10) #[true, true, true, true, true, true, true, true, true, true, true, true, true, false, true, false, false, true, false] ?_
                 refine tk4_ (i := 13) (N := some 44) #[true, true, true, true, true, true, true, true, true, true, true, true, true, true, true, false, false, true, false] hHeld ?_
                 refine pu_ (i := 15) (N := some 46) #[true, true, true, true, true, true, true, true, true, true, true, true, true, true, true, true, false, true, false] ?_
                 refine tk4_ (i := 16) (N := some 47) #[true, true, true, true, true, true, true, true, true, true, true, true, true, true, true, true, true, true, false] hHeld ?_
                 refine pu_ (i := 18) (N := some 11) #[true, true, true, true, true, true, true, true, true, true, true, true, true, true, true, true, true, true, true] ?_
                 refine done_ (done_of HT_.out (by kernel_rfl)) ?_
                 try go_wp2_with (first | ((with_reducible refine gate_callee (f := 115) rfl ?_); refine goesL_ (some 73) rfl rfl Tryz.func115 (by kernel_rfl) rfl #[.slice A297_0 (rd_L4 (rd_L5 l0 x6_1) (ji12)).length c297_0, .bool true] rfl (by (try simp only [List.map_toArray, List.map_cons, List.map_nil]); first | done | (simp only [hji12]; rfl) | rfl | (simp only [List.length_drop, List.length_take]; rfl)) ?_; (with_reducible refine (spec_l04Turn.calls _ _ (rd_L4 (rd_L5 l0 x6_1) (ji12)) true t313 _ ?side1 ?side2 A33.out).mono ?_); (case side1 => exact kc_ (Kd.C_below HR297_0.out HB.out)); (case side2 => exact HC297_0.out); rintro e w37 ⟨v314, rfl, ho0, hb⟩; refine ⟨_, rfl, ?_⟩; replace HO_5 := a_ (Kd.R_elder' (ra_ HO_5.out) (Kd.R_base ho0) hb); replace HO_8 := a_ (Kd.S_elder' z66_ (Kd.R_base ho0) hb); have HO315 := a_ (Kd.R_lower ho0 (below_size z33_)); replace HB := a_ (below_step z33_ hb); (try clear hb); (try clear hb2); (try clear hk); (try clear hi); (try clear ho0)) | ((with_reducible refine gate_builtin (b := .append) (xs := #[.tmp 73, .tmp 74]) rfl ?_); at_builtin; refine Kd.R_append_rows k64 (w0 := w) w.heap.size rfl (.tmp 73) (.tmp 74) 61 64 (.agg #[(.int .i64 0), (.int .i64 0), (.bool false), (.bool false)]) 24 rfl Tryz.underlying61 info64 rfl (by decide) (by omega) v314 t313 (rd_L4 (rd_L5 l0 x6_1) x9_2) _ _ _ (fun _ => True) (fun _ => False) rfl rfl ?aO ?aR (fun _ _ h => h) (fun _ h => h.elim) ?aF ?aB ?aS ?aL ?_; (case aR => exact kc_ (Kd.C_below HR299_0.out HB.out)); (case aB => exact z33_); (case aF => exact (fun _ _ => trivial)); (case aO => exact (ra_ HO315.out)); (case aS => exact (below_size z33_)); (case aL => have := LMc34.out; omega); intro v317 w38 ho hb hg hat; rw [← Ny316.out] at ho; replace HO_5 := a_ (Kd.R_after (ok := (fun k_ => some k_ ≠ (u8 : Value).ownBlock)) (ra_ HO_5.out) hg hat); replace HO_8 := a_ (Kd.S_after (ok := (fun _ => True)) z66_ hg hat); replace HB := a_ (hb); have HO318 := a_ (ho); clear HO315; clear ho hb hg hat; obtain ⟨Ao40, co40, eo40⟩ := Kd.R_slice HO318.out; subst eo40) | ((with_reducible refine gate_builtin (b := .append) (xs := #[.tmp 71, .tmp 76]) rfl ?_); at_builtin; refine Kd.S_append (Kd.slice 64 k64) (w0 := w) w.heap.size rfl (.tmp 71) (.tmp 76) 96 61 (.slice none 0 0) 24 rfl Tryz.underlying96 info61 rfl (by decide) (by omega) u8 x8_2 y316 [.slice Ao40 y316.length co40] (fun _ => True) (fun k_ => some k_ = (.slice Ao40 y316.length co40 : Value).ownBlock) rfl rfl ?aP (fun k_ hk_ => ((Kd.R_mono (ok' := fun k_ => ((fun _ => True)) k_ ∧ some k_ ≠ (u8 : Value).ownBlock) (Kd.R_apart' (HO318.out) (Kd.S_typed HO_8.out) (by decide)) (fun k_ hk => ⟨trivial, hk.2⟩))).1 k_ hk_.symm) ?aF ?aO ?aB ?aS ?aL ?_; (case aP => exact Kd.M_row (Kd.R_mono (Kd.R_tight rfl (Kd.R_mono (ok' := fun k_ => ((fun _ => True)) k_ ∧ some k_ ≠ (u8 : Value).ownBlock) (Kd.R_apart' (HO318.out) (Kd.S_typed HO_8.out) (by decide)) (fun k_ hk => ⟨trivial, hk.2⟩))) (fun _ h_ => h_))); (case aB => exact z33_); (case aF => exact (fun _ _ => trivial)); (case aO => exact (by (with_reducible repeat (first | apply Kd.S_alloc | apply Kd.S_drewN | apply Kd.S_drew)); exact Kd.S_mono HO_8.out (fun k_ hk => ⟨trivial, fun e_ => hk.2 e_⟩))); (case aS => exact (below_size z33_)); (case aL => have := LMc35.out; omega); intro v320 w39 ho hb hg hat; rw [← Ny319.out] at ho; replace HO_5 := a_ (Kd.R_after (ok := (fun k_ => nb_ k_ Ao40 y316.length co40)) (rc_ (h := by exact Kd.R_mono HO_5.out (fun _ hk => ⟨hk.2, hk.1⟩))) hg hat); replace HB := a_ (hb); have HO321 := a_ (ho); clear HO318; clear HO_8; clear ho hb hg hat))
                 go_roundg k2
                 case measure => have := HK1.out; have := HK2.out; omega
                 case rel => exact ⟨(y319), (wrap64 (x9_2 + 1)), z78_, H', ⟨z79_⟩, ⟨z37_⟩, ⟨by (with_reducible repeat (first | apply Kd.S_alloc | apply Kd.S_drewN | apply Kd.S_drew)); exact HO321.out⟩, ⟨z33_⟩⟩
                ·rw [if_neg c35] at H
                 exact absurd H (by simp)
               ·rw [if_neg c34] at H
                exact absurd H (by simp)
             ·rw [if_neg c16] at H
              exact absurd H (by simp)
            ·rw [if_neg c15] at H
             exact absurd H (by simp)
           ·rw [if_neg c14] at H
            exact absurd H (by simp)
          ·rw [if_neg c13] at H
           exact absurd H (by simp)
         ·rw [if_neg c11] at H
          exact absurd H (by simp)
        ·rw [if_neg c10] at H
         exact absurd H (by simp)
       ·rw [if_neg c9] at H
        have c9b0 : decide (x9_2 < (wrap64 ((((rd_L5 l0 x6_1).length : Int) / 2)))) = false := decide_eq_false c9
        clear c9
        by_cases c41 : x5_1.length < 5864062014805
        ·rw [if_pos c41] at H
         have LMc41 := Aside0.mk c41
         clear c41
         obtain ⟨y322, hy322⟩ : ∃ y_ : List (List (List (S64))), y_ = (x5_1 ++ [x8_2]) := ⟨_, rfl⟩
         replace H : (spec_l04Along.l0 k2 l0 a1 y322 (wrap64 (x6_1 + 1))) = some r := rh_ hy322 H
         have Ny322 := Aside0.mk hy322
         clear hy322
         have H' := Aside0.mk H
         clear H
         obtain ⟨Ao43, co43, eo43⟩ := Kd.S_slice HO_8.out
         subst eo43
         go_wp2_with (first | ((with_reducible refine gate_builtin (b := .append) (xs := #[.tmp 78, .tmp 80]) rfl ?_); at_builtin; refine Kd.R_append (Kd.slice 61 (Kd.slice 64 k64)) (w0 := w) w.heap.size rfl (.tmp 78) (.tmp 80) 95 96 (.slice none 0 0) 24 rfl Tryz.underlying95 info96 rfl (by decide) (by omega) u5 x5_1 x8_2 [.slice Ao43 x8_2.length co43] (fun _ => True) (fun k_ => ((fun _ => True)) k_ ∧ some k_ ≠ (u5 : Value).ownBlock) rfl rfl ?aP (fun _ hk => hk) ?aF ?aO ?aB ?aS ?aL ?_; (case aP => exact Kd.M_row (Kd.R_mono (Kd.R_apart' ((Kd.S_R HO_8.out)) (Kd.R_typed HO_5.out) (by decide)) (fun k_ hk => ⟨trivial, hk.2⟩))); (case aB => exact z33_); (case aF => exact (fun _ _ => trivial)); (case aO => exact (rc_ (h := by exact Kd.R_mono HO_5.out (fun _ hk => trivial)))); (case aS => exact (below_size z33_)); (case aL => have := LMc41.out; omega); intro v323 w42 ho hb hg hat; rw [← Ny322.out] at ho; replace HB := a_ (hb); have HO324 := a_ (ho); clear HO_5; clear HO_8; clear ho hb hg hat))
         go_roundg k2
         case measure => have := HK1.out; have := HK2.out; omega
         case rel => exact ⟨(y322), (wrap64 (x6_1 + 1)), z78_, H', ⟨z79_⟩, ⟨by (with_reducible repeat (first | apply Kd.R_alloc | apply Kd.R_drewN | apply Kd.R_drew)); exact HO324.out⟩, ⟨z33_⟩⟩
        ·rw [if_neg c41] at H
         exact absurd H (by simp)
    ·rw [if_neg c6] at H
     exact absurd H (by simp)
   ·rw [if_neg c5] at H
    have c5b0 : decide (x6_1 < (l0.length : Int)) = false := decide_eq_false c5
    clear c5
    obtain rfl := Option.some.inj H
    go_wp2
    go_ret
    exact ⟨_, z34_, z65_, z33_⟩

end Go.Proofs.YtkpidjmhdagkfaaGreatDoor.QFnExactReadForm
-- halved
