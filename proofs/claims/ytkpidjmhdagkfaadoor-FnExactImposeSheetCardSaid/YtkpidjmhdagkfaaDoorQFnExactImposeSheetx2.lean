-- Written by own_print.py of this session's repo over the kit's print (its output, turned at some places).
import Derived.Test.YtkpidjmhdagkfaaDoorQFnExactImposeSheetx0
import Derived.Test.YtkpidjmhdagkfaaDoorQFnExactImposeSheetx1
namespace Go.Proofs.YtkpidjmhdagkfaaDoor.QFnExactImposeSheet
open Go.RowKit Go.Proofs.YtkpidjmhdagkfaaDoorW.PrintWords Go.Proofs.YtkpidjmhdagkfaaDoorW.PrintLast Go.Proofs.YtkpidjmhdagkfaaDoorW.PrintMore
attribute [local go_sem] max2_int min2_int max_two min_two max_three min_three max_four min_four   -- for this text's walks alone
set_option linter.unusedVariables false
set_option linter.unusedSimpArgs false

/-! ### spec_l04Along: function 29 -/
mutual
def spec_l04Along.l0 : Nat → List (List (List (S35))) → Int → List (List (List (S35))) → Int → Option ((List (List (List (S35)))))
 | 0, _, _, _, _ => none
 | k + 1, x0, x1, x5, x6 => if x6 < (x0.length : Int) then (if 0 ≤ x6 then (spec_l04Along.l1 k x0 x1 x5 x6 ((rd_L4 x0 x6).length : Int) (([] : List (List (S35)))) 0) else (none)) else (some x5)
def spec_l04Along.l1 : Nat → List (List (List (S35))) → Int → List (List (List (S35))) → Int → Int → List (List (S35)) → Int → Option ((List (List (List (S35)))))
 | 0, _, _, _, _, _, _, _ => none
 | k + 1, x0, x1, x5, x6, x7, x8, x9 => if x9 < (wrap64 (Int.tdiv x7 2)) then (if 0 ≤ x6 then (if x6 < (x0.length : Int) then (if 0 ≤ (wrap64 ((wrap64 (x7 - 1)) - x9)) then (if (wrap64 ((wrap64 (x7 - 1)) - x9)) < ((rd_L4 x0 x6).length : Int) then (if 0 ≤ x9 then (if x9 < ((rd_L4 x0 x6).length : Int) then (if x1 = 76 then (if 0 ≤ (wrap64 ((wrap64 ((wrap64 (Int.tdiv x7 2)) - 1)) - x9)) then (if (wrap64 ((wrap64 ((wrap64 (Int.tdiv x7 2)) - 1)) - x9)) < ((rd_L4 x0 x6).length : Int) then (if 0 ≤ (wrap64 ((wrap64 (Int.tdiv x7 2)) + x9)) then (if (wrap64 ((wrap64 (Int.tdiv x7 2)) + x9)) < ((rd_L4 x0 x6).length : Int) then ((spec_l04Turn.f (rd_L3 (rd_L4 x0 x6) (wrap64 ((wrap64 ((wrap64 (Int.tdiv x7 2)) - 1)) - x9))) true).bind fun t141 => (if t141.length + (rd_L3 (rd_L4 x0 x6) (wrap64 ((wrap64 (Int.tdiv x7 2)) + x9))).length < 5864062014805 then (if x8.length < 5864062014805 then (spec_l04Along.l1 k x0 x1 x5 x6 x7 (x8 ++ [(t141 ++ (rd_L3 (rd_L4 x0 x6) (wrap64 ((wrap64 (Int.tdiv x7 2)) + x9))))]) (wrap64 (x9 + 1))) else (none)) else (none))) else (none)) else (none)) else (none)) else (none)) else ((spec_l04Turn.f (rd_L3 (rd_L4 x0 x6) (wrap64 ((wrap64 (x7 - 1)) - x9))) true).bind fun t150 => (if t150.length + (rd_L3 (rd_L4 x0 x6) x9).length < 5864062014805 then (if x8.length < 5864062014805 then (spec_l04Along.l1 k x0 x1 x5 x6 x7 (x8 ++ [(t150 ++ (rd_L3 (rd_L4 x0 x6) x9))]) (wrap64 (x9 + 1))) else (none)) else (none)))) else (none)) else (none)) else (none)) else (none)) else (none)) else (none)) else (if x5.length < 5864062014805 then (spec_l04Along.l0 k x0 x1 (x5 ++ [x8]) (wrap64 (x6 + 1))) else (none))
end
def spec_l04Along.f (k : Nat) (l0 : List (List (List (S35)))) (a1 : Int) : Option ((List (List (List (S35))))) := spec_l04Along.l0 k l0 a1 (([] : List (List (List (S35))))) 0
theorem spec_l04Along.mono_l : ∀ k, (∀ y0 y1 y2 y3, LeO (spec_l04Along.l0 k y0 y1 y2 y3) (spec_l04Along.l0 (k + 1) y0 y1 y2 y3)) ∧ (∀ y0 y1 y2 y3 y4 y5 y6, LeO (spec_l04Along.l1 k y0 y1 y2 y3 y4 y5 y6) (spec_l04Along.l1 (k + 1) y0 y1 y2 y3 y4 y5 y6))
 | 0 => ⟨fun _ _ _ _ r h => by simp [spec_l04Along.l0] at h, fun _ _ _ _ _ _ _ r h => by simp [spec_l04Along.l1] at h⟩
 | k + 1 => by
  obtain ⟨ih0, ih1⟩ := spec_l04Along.mono_l k
  refine ⟨?_, ?_⟩
  ·intro y0 y1 y2 y3
   unfold spec_l04Along.l0
   repeat' first
   | (with_reducible exact ih0 _ _ _ _)
   | (with_reducible exact ih1 _ _ _ _ _ _ _)
   | (with_reducible exact LeO.refl _)
   | (with_reducible exact LeO.none _)
   | (with_reducible refine LeO.ite ?_ ?_)
   | (with_reducible refine LeO.bind ?_ (fun _ => ?_))
   | exact ih0 _ _ _ _
   | exact ih1 _ _ _ _ _ _ _
   | exact LeO.none _
   | refine LeO.ite ?_ ?_
   | refine LeO.bind ?_ (fun _ => ?_)
  ·intro y0 y1 y2 y3 y4 y5 y6
   unfold spec_l04Along.l1
   repeat' first
   | (with_reducible exact ih0 _ _ _ _)
   | (with_reducible exact ih1 _ _ _ _ _ _ _)
   | (with_reducible exact LeO.refl _)
   | (with_reducible exact LeO.none _)
   | (with_reducible refine LeO.ite ?_ ?_)
   | (with_reducible refine LeO.bind ?_ (fun _ => ?_))
   | exact ih0 _ _ _ _
   | exact ih1 _ _ _ _ _ _ _
   | exact LeO.none _
   | refine LeO.ite ?_ ?_
   | refine LeO.bind ?_ (fun _ => ?_)
theorem spec_l04Along.mono : ∀ a0 a1 k, LeO (spec_l04Along.f k a0 a1) (spec_l04Along.f (k + 1) a0 a1) := by
 intro a0 a1 k
 obtain ⟨ih0, ih1⟩ := spec_l04Along.mono_l k
 unfold spec_l04Along.f
 repeat' first
   | (with_reducible exact ih0 _ _ _ _)
   | (with_reducible exact ih1 _ _ _ _ _ _ _)
   | (with_reducible exact LeO.refl _)
   | (with_reducible exact LeO.none _)
   | (with_reducible refine LeO.ite ?_ ?_)
   | (with_reducible refine LeO.bind ?_ (fun _ => ?_))
   | exact ih0 _ _ _ _
   | exact ih1 _ _ _ _ _ _ _
   | exact LeO.none _
   | refine LeO.ite ?_ ?_
   | refine LeO.bind ?_ (fun _ => ?_)
def spec_l04Along.T10 : Bool × List (List Nat × List Nat) := (true, [([], []), ([], []), ([0, 1], [0, 1]), ([2], [2]), ([], []), ([4], [4]), ([], []), ([5, 6], [5, 6]), ([3, 7], [3, 7]), ([8], [8]), ([], []), ([], []), ([10, 11], [10, 11]), ([12], [12]), ([], []), ([13, 14], [13, 14]), ([15], [15]), ([9, 0, 1, 2, 3, 4, 5, 6, 7, 8, 9], [9]), ([16, 17, 0, 1, 2, 3, 4, 5, 6, 7, 8, 9, 10, 11, 12, 13, 14, 15, 16, 17], [16])])
def spec_l04Along.B10 : List Nat := [0, 0, 3, 7, 0, 16, 0, 112, 255, 511, 0, 0, 3072, 7168, 0, 31744, 64512, 1023, 262143]
theorem spec_l04Along.tab10 : rtab .any (opsOf Tryd.f29 10) = spec_l04Along.T10 := by kernel_rfl
theorem spec_l04Along.bits10 : waitsOk spec_l04Along.T10.2 spec_l04Along.B10 = true := by kernel_rfl
def spec_l04Along.T12 : Bool × List (List Nat × List Nat) := (true, [([], []), ([], []), ([0, 1], [0, 1]), ([2], [2]), ([], []), ([4], [4]), ([5], [5]), ([], []), ([6, 7], [6, 7]), ([3, 8], [3, 8]), ([9], [9]), ([], []), ([], []), ([11, 12], [11, 12]), ([13], [13]), ([], []), ([15], [15]), ([], []), ([16, 17], [16, 17]), ([14, 18], [14, 18]), ([19], [19]), ([10, 0, 1, 2, 3, 4, 5, 6, 7, 8, 9, 10], [10]), ([20, 21, 0, 1, 2, 3, 4, 5, 6, 7, 8, 9, 10, 11, 12, 13, 14, 15, 16, 17, 18, 19, 20, 21], [20])])
def spec_l04Along.B12 : List Nat := [0, 0, 3, 7, 0, 16, 48, 0, 240, 511, 1023, 0, 0, 6144, 14336, 0, 32768, 0, 229376, 522240, 1046528, 2047, 4194303]
theorem spec_l04Along.tab12 : rtab .any (opsOf Tryd.f29 12) = spec_l04Along.T12 := by kernel_rfl
theorem spec_l04Along.bits12 : waitsOk spec_l04Along.T12.2 spec_l04Along.B12 = true := by kernel_rfl
set_option maxHeartbeats 8000000 in
set_option maxRecDepth 100000 in
theorem spec_l04Along.calls (k : Nat) (A0 : Option Addr) (c0 : Nat) (l0 : List (List (List (S35)))) (a1 : Int) (r : List (List (List (S35)))) (w : World) (hr0 : Kd.C (Kd.slice 32 (Kd.slice 35 k35)) w A0 l0.length l0) (hc0 : l0.length ≤ c0) (h : spec_l04Along.f k l0 a1 = some r) :
  Calls Tryd.prog 29 #[.slice A0 l0.length c0, .int .u8 a1] w fun e w' => ∃ v0_ : Value, e = .returned (v0_) ∧ Kd.R (Kd.slice 32 (Kd.slice 35 k35)) 43 w' w.heap.size (fun _ => True) v0_ r ∧ Below w.heap.size w w' := by
 have HR0 := a_ hr0
 have HC0 := a_ hc0
 clear hr0 hc0
 have HB := a_ (Below.refl w.heap.size w)
 have H : (spec_l04Along.l0 k l0 a1 (([] : List (List (List (S35))))) 0) = some r := h
 clear h
 obtain ⟨y126, hy126⟩ : ∃ y_ : List (List (List (S35))), y_ = (([] : List (List (List (S35))))) := ⟨_, rfl⟩
 replace H : (spec_l04Along.l0 k l0 a1 y126 0) = some r := rh_ hy126 H
 have Ny126 := a_ hy126
 clear hy126
 have H' := a_ H
 clear H
 go_enter Tryd.func29, Tryd.ntmps29
 go_wp2_with (first | ((with_reducible refine gate_dst (N := 12) rfl ?_); refine Kd.R_lit (Kd.slice 32 (Kd.slice 35 k35)) _ 43 ?hg (N := 12) ?hd (xs := ([] : List (List (List (S35))))) (inner := []) (ok := fun _ => True) (okp := fun _ => True) ?hr ?hp (fun _ hk => hk) trivial (Below.refl _ _) (Nat.le_refl _) (by simp) ?_; (case hd => rfl); (case hg => rfl); (case hr => first | (go_simp; done) | (go_simp; rfl)); (case hp => exact (Reps.none _ _)); intro v127 w3 ho4 hb hg_ hnew_; clear hg_ hnew_; (first | rw [← Ny126.out] at ho4 | (simp only [Int.reduceToNat] at ho4; rw [← Ny126.out] at ho4)); have HO128 := a_ (Kd.R_lower ho4 (below_size z23_)); replace HB := bst_ z23_ hb; clear hb ho4))
 go_loopg [5, 6] k (fun kq v5 v6 w' => ∃ (x5_1 : List (List (List (S35)))) (x6_1 : Int), v6 = .int .i64 x6_1 ∧ Aside0 (spec_l04Along.l0 kq l0 a1 x5_1 x6_1 = some r) ∧ Aside0 (kq ≤ k) ∧ Aside0 (Kd.R (Kd.slice 32 (Kd.slice 35 k35)) 43 w' w.heap.size (fun _ => True) v5 x5_1) ∧ Aside0 (Below w.heap.size w w'))
 case atStart => exact ⟨(y126), (0), z48_, H', ⟨Nat.le_refl _⟩, ⟨by (with_reducible repeat (first | apply Kd.R_alloc | apply Kd.R_drewN | apply Kd.R_drew)); exact HO128.out⟩, ⟨z23_⟩⟩
 case round =>
  clear H'
  obtain ⟨x5_1, x6_1, rfl, HA, HK1, HO_5, HB⟩ := hrel
  cases gk with
  | zero => exact absurd HA.out (by simp [spec_l04Along.l0])
  | succ k1 =>
   have H := HA.out
   clear HA
   simp only [spec_l04Along.l0] at H
   by_cases c5 : x6_1 < (l0.length : Int)
   ·rw [if_pos c5] at H
    have c5b0 : decide (x6_1 < (l0.length : Int)) = true := decide_eq_true c5
    clear c5
    by_cases c6 : 0 ≤ x6_1
    ·rw [if_pos c6] at H
     have c6b0 : decide (0 ≤ x6_1) = true := decide_eq_true c6
     clear c6
     obtain ⟨y130, hy130⟩ : ∃ y_ : List (List (S35)), y_ = (([] : List (List (S35)))) := ⟨_, rfl⟩
     replace H : (spec_l04Along.l1 k1 l0 a1 x5_1 x6_1 ((rd_L4 l0 x6_1).length : Int) y130 0) = some r := rh_ hy130 H
     have Ny130 := a_ hy130
     clear hy130
     have H' := a_ H
     clear H
     have p129 : 0 ≤ (x6_1 : Int) := of_decide_eq_true z47_
     have q129 : x6_1 < (l0.length : Int) := of_decide_eq_true z47_
     obtain ⟨ad129, A129_0, c129_0, e129, hx129_0, hl129_0, hi129_0⟩ := at_L4 HR0.out x6_1 p129 q129
     cases e129
     replace hx129_0 := (HB.out.cell (World.block_lt_of_cell? _ _ hx129_0)).trans hx129_0
     have HR129_0 := a_ hi129_0
     have HC129_0 := a_ hl129_0
     clear hi129_0 hl129_0
     replace p129 := eq_true p129
     replace q129 := eq_true q129
     go_wp2_with (first | ((with_reducible refine gate_dst (N := 24) rfl ?_); refine Kd.S_lit (Kd.slice 35 k35) _ 32 ?hg (N := 24) ?hd (xs := ([] : List (List (S35)))) (inner := []) (ok := fun _ => True) (okp := fun _ => True) ?hr ?hp (fun _ hk => hk) trivial (Below.refl _ _) (Nat.le_refl _) (by simp) ?_; (case hd => rfl); (case hg => rfl); (case hr => first | (go_simp; done) | (go_simp; rfl)); (case hp => exact (Reps.none _ _)); intro v131 w7 ho8 hb hg_ hnew_; clear hg_ hnew_; (first | rw [← Ny130.out] at ho8 | (simp only [Int.reduceToNat] at ho8; rw [← Ny130.out] at ho8)); replace HO_5 := a_ (Kd.R_elder' (ra_ HO_5.out) (Kd.S_base ho8) hb); have HO132 := a_ (Kd.S_lower ho8 (below_size z23_)); replace HB := bst_ z23_ hb; clear hb ho8))
     go_loopg [8, 9] k1 (fun kq v8 v9 w' => ∃ (x8_2 : List (List (S35))) (x9_2 : Int), v9 = .int .i64 x9_2 ∧ Aside0 (spec_l04Along.l1 kq l0 a1 x5_1 x6_1 ((rd_L4 l0 x6_1).length : Int) x8_2 x9_2 = some r) ∧ Aside0 (kq ≤ k1) ∧ Aside0 (Kd.R (Kd.slice 32 (Kd.slice 35 k35)) 43 w' w.heap.size (fun k_ => some k_ ≠ (v8 : Value).ownBlock) u5 x5_1) ∧ Aside0 (Kd.S (Kd.slice 35 k35) 32 w' w.heap.size (fun _ => True) v8 x8_2) ∧ Aside0 (Below w.heap.size w w'))
     case atStart => exact ⟨(y130), (0), z48_, H', ⟨Nat.le_refl _⟩, ⟨z28_⟩, ⟨by (with_reducible repeat (first | apply Kd.S_alloc | apply Kd.S_drewN | apply Kd.S_drew)); exact HO132.out⟩, ⟨z23_⟩⟩
     case round =>
      clear H'
      try clear c5b0; try clear c6b0; try clear hx129_0; try clear p129; try clear q129
      obtain ⟨x8_2, x9_2, rfl, HA, HK2, HO_5, HO_8, HB⟩ := hrel
      cases gk with
      | zero => exact absurd HA.out (by simp [spec_l04Along.l1])
      | succ k2 =>
       have H := HA.out
       clear HA
       simp only [spec_l04Along.l1] at H
       (try simp only [show ∀ (n_ : Nat) (k_ : Int), Int.tdiv (n_ : Int) k_ = (n_ : Int) / k_ from fun n_ k_ => Int.tdiv_eq_ediv_of_nonneg (Int.natCast_nonneg n_), show ∀ (n_ : Nat) (k_ : Int), Int.tmod (n_ : Int) k_ = (n_ : Int) % k_ from fun n_ k_ => Int.tmod_eq_emod_of_nonneg (Int.natCast_nonneg n_)] at H)
       by_cases c9 : x9_2 < (wrap64 ((((rd_L4 l0 x6_1).length : Int) / 2)))
       ·rw [if_pos c9] at H
        have c9b0 : decide (x9_2 < (wrap64 ((((rd_L4 l0 x6_1).length : Int) / 2)))) = true := decide_eq_true c9
        clear c9
        by_cases c10 : 0 ≤ x6_1
        ·rw [if_pos c10] at H
         have c10b0 : decide (0 ≤ x6_1) = true := decide_eq_true c10
         clear c10
         by_cases c11 : x6_1 < (l0.length : Int)
         ·rw [if_pos c11] at H
          have c11b0 : decide (x6_1 < (l0.length : Int)) = true := decide_eq_true c11
          clear c11
          obtain ⟨ji12, hji12⟩ : ∃ j_ : Int, (wrap64 ((wrap64 (((rd_L4 l0 x6_1).length : Int) - 1)) - x9_2)) = j_ := ⟨_, rfl⟩
          replace H : (if 0 ≤ (ji12) then (if (ji12) < ((rd_L4 l0 x6_1).length : Int) then (if 0 ≤ x9_2 then (if x9_2 < ((rd_L4 l0 x6_1).length : Int) then (if a1 = 76 then (if 0 ≤ (wrap64 ((wrap64 ((wrap64 ((((rd_L4 l0 x6_1).length : Int) / 2))) - 1)) - x9_2)) then (if (wrap64 ((wrap64 ((wrap64 ((((rd_L4 l0 x6_1).length : Int) / 2))) - 1)) - x9_2)) < ((rd_L4 l0 x6_1).length : Int) then (if 0 ≤ (wrap64 ((wrap64 ((((rd_L4 l0 x6_1).length : Int) / 2))) + x9_2)) then (if (wrap64 ((wrap64 ((((rd_L4 l0 x6_1).length : Int) / 2))) + x9_2)) < ((rd_L4 l0 x6_1).length : Int) then ((spec_l04Turn.f (rd_L3 (rd_L4 l0 x6_1) (wrap64 ((wrap64 ((wrap64 ((((rd_L4 l0 x6_1).length : Int) / 2))) - 1)) - x9_2))) true).bind fun t141 => (if t141.length + (rd_L3 (rd_L4 l0 x6_1) (wrap64 ((wrap64 ((((rd_L4 l0 x6_1).length : Int) / 2))) + x9_2))).length < 5864062014805 then (if x8_2.length < 5864062014805 then (spec_l04Along.l1 k2 l0 a1 x5_1 x6_1 ((rd_L4 l0 x6_1).length : Int) (x8_2 ++ [(t141 ++ (rd_L3 (rd_L4 l0 x6_1) (wrap64 ((wrap64 ((((rd_L4 l0 x6_1).length : Int) / 2))) + x9_2))))]) (wrap64 (x9_2 + 1))) else (none)) else (none))) else (none)) else (none)) else (none)) else (none)) else ((spec_l04Turn.f (rd_L3 (rd_L4 l0 x6_1) (ji12)) true).bind fun t150 => (if t150.length + (rd_L3 (rd_L4 l0 x6_1) x9_2).length < 5864062014805 then (if x8_2.length < 5864062014805 then (spec_l04Along.l1 k2 l0 a1 x5_1 x6_1 ((rd_L4 l0 x6_1).length : Int) (x8_2 ++ [(t150 ++ (rd_L3 (rd_L4 l0 x6_1) x9_2))]) (wrap64 (x9_2 + 1))) else (none)) else (none)))) else (none)) else (none)) else (none)) else (none)) = some r := by first | (rw [hji12] at H; exact H) | (simp only [hji12] at H ⊢; exact H)
          have hji12w : (IntKind.i64.wrap ((wrap64 (((rd_L4 l0 x6_1).length : Int) - 1)) - x9_2)) = ji12 := (i64_w _).trans hji12
          by_cases c13 : 0 ≤ (ji12)
          ·rw [if_pos c13] at H
           have c13b0 : decide (0 ≤ (ji12)) = true := decide_eq_true c13
           clear c13
           by_cases c14 : (ji12) < ((rd_L4 l0 x6_1).length : Int)
           ·rw [if_pos c14] at H
            have c14b0 : decide ((ji12) < ((rd_L4 l0 x6_1).length : Int)) = true := decide_eq_true c14
            clear c14
            by_cases c15 : 0 ≤ x9_2
            ·rw [if_pos c15] at H
             have c15b0 : decide (0 ≤ x9_2) = true := decide_eq_true c15
             clear c15
             by_cases c16 : x9_2 < ((rd_L4 l0 x6_1).length : Int)
             ·rw [if_pos c16] at H
              have c16b0 : decide (x9_2 < ((rd_L4 l0 x6_1).length : Int)) = true := decide_eq_true c16
              clear c16
              by_cases c17 : a1 = 76
              ·rw [if_pos c17] at H
               have c17b0 : (a1 == 76) = true := beq_iff_eq.mpr c17
               have c17b1 : (a1 != 76) = false := bne_eq_false_iff_eq.mpr c17
               clear c17
               obtain ⟨ji18, hji18⟩ : ∃ j_ : Int, (wrap64 ((wrap64 ((wrap64 ((((rd_L4 l0 x6_1).length : Int) / 2))) - 1)) - x9_2)) = j_ := ⟨_, rfl⟩
               replace H : (if 0 ≤ (ji18) then (if (ji18) < ((rd_L4 l0 x6_1).length : Int) then (if 0 ≤ (wrap64 ((wrap64 ((((rd_L4 l0 x6_1).length : Int) / 2))) + x9_2)) then (if (wrap64 ((wrap64 ((((rd_L4 l0 x6_1).length : Int) / 2))) + x9_2)) < ((rd_L4 l0 x6_1).length : Int) then ((spec_l04Turn.f (rd_L3 (rd_L4 l0 x6_1) (ji18)) true).bind fun t141 => (if t141.length + (rd_L3 (rd_L4 l0 x6_1) (wrap64 ((wrap64 ((((rd_L4 l0 x6_1).length : Int) / 2))) + x9_2))).length < 5864062014805 then (if x8_2.length < 5864062014805 then (spec_l04Along.l1 k2 l0 a1 x5_1 x6_1 ((rd_L4 l0 x6_1).length : Int) (x8_2 ++ [(t141 ++ (rd_L3 (rd_L4 l0 x6_1) (wrap64 ((wrap64 ((((rd_L4 l0 x6_1).length : Int) / 2))) + x9_2))))]) (wrap64 (x9_2 + 1))) else (none)) else (none))) else (none)) else (none)) else (none)) else (none)) = some r := by first | (rw [hji18] at H; exact H) | (simp only [hji18] at H ⊢; exact H)
               have hji18w : (IntKind.i64.wrap ((wrap64 ((wrap64 ((((rd_L4 l0 x6_1).length : Int) / 2))) - 1)) - x9_2)) = ji18 := (i64_w _).trans hji18
               by_cases c19 : 0 ≤ (ji18)
               ·rw [if_pos c19] at H
                have c19b0 : decide (0 ≤ (ji18)) = true := decide_eq_true c19
                clear c19
                by_cases c20 : (ji18) < ((rd_L4 l0 x6_1).length : Int)
                ·rw [if_pos c20] at H
                 have c20b0 : decide ((ji18) < ((rd_L4 l0 x6_1).length : Int)) = true := decide_eq_true c20
                 clear c20
                 obtain ⟨ji21, hji21⟩ : ∃ j_ : Int, (wrap64 ((wrap64 ((((rd_L4 l0 x6_1).length : Int) / 2))) + x9_2)) = j_ := ⟨_, rfl⟩
                 replace H : (if 0 ≤ (ji21) then (if (ji21) < ((rd_L4 l0 x6_1).length : Int) then ((spec_l04Turn.f (rd_L3 (rd_L4 l0 x6_1) (ji18)) true).bind fun t141 => (if t141.length + (rd_L3 (rd_L4 l0 x6_1) (ji21)).length < 5864062014805 then (if x8_2.length < 5864062014805 then (spec_l04Along.l1 k2 l0 a1 x5_1 x6_1 ((rd_L4 l0 x6_1).length : Int) (x8_2 ++ [(t141 ++ (rd_L3 (rd_L4 l0 x6_1) (ji21)))]) (wrap64 (x9_2 + 1))) else (none)) else (none))) else (none)) else (none)) = some r := by first | (rw [hji21] at H; exact H) | (simp only [hji21] at H ⊢; exact H)
                 have hji21w : (IntKind.i64.wrap ((wrap64 ((((rd_L4 l0 x6_1).length : Int) / 2))) + x9_2)) = ji21 := (i64_w _).trans hji21
                 by_cases c22 : 0 ≤ (ji21)
                 ·rw [if_pos c22] at H
                  have c22b0 : decide (0 ≤ (ji21)) = true := decide_eq_true c22
                  clear c22
                  by_cases c23 : (ji21) < ((rd_L4 l0 x6_1).length : Int)
                  ·rw [if_pos c23] at H
                   have c23b0 : decide ((ji21) < ((rd_L4 l0 x6_1).length : Int)) = true := decide_eq_true c23
                   clear c23
                   replace H := Option.bind_eq_some_iff.mp H
                   obtain ⟨t141, A240, H⟩ := H
                   replace H : (if t141.length + (rd_L3 (rd_L4 l0 x6_1) (ji21)).length < 5864062014805 then (if x8_2.length < 5864062014805 then (spec_l04Along.l1 k2 l0 a1 x5_1 x6_1 ((rd_L4 l0 x6_1).length : Int) (x8_2 ++ [(t141 ++ (rd_L3 (rd_L4 l0 x6_1) (ji21)))]) (wrap64 (x9_2 + 1))) else (none)) else (none)) = some r := H
                   have A24 := a_ A240
                   clear A240
                   by_cases c25 : t141.length + (rd_L3 (rd_L4 l0 x6_1) (ji21)).length < 5864062014805
                   ·rw [if_pos c25] at H
                    have LMc25 := a_ c25
                    clear c25
                    obtain ⟨y144, hy144⟩ : ∃ y_ : List (S35), y_ = (t141 ++ (rd_L3 (rd_L4 l0 x6_1) (ji21))) := ⟨_, rfl⟩
                    replace H : (if x8_2.length < 5864062014805 then (spec_l04Along.l1 k2 l0 a1 x5_1 x6_1 ((rd_L4 l0 x6_1).length : Int) (x8_2 ++ [y144]) (wrap64 (x9_2 + 1))) else (none)) = some r := rh_ hy144 H
                    have Ny144 := a_ hy144
                    clear hy144
                    by_cases c26 : x8_2.length < 5864062014805
                    ·rw [if_pos c26] at H
                     have LMc26 := a_ c26
                     clear c26
                     obtain ⟨y147, hy147⟩ : ∃ y_ : List (List (S35)), y_ = (x8_2 ++ [y144]) := ⟨_, rfl⟩
                     replace H : (spec_l04Along.l1 k2 l0 a1 x5_1 x6_1 ((rd_L4 l0 x6_1).length : Int) y147 (wrap64 (x9_2 + 1))) = some r := rh_ hy147 H
                     have Ny147 := a_ hy147
                     clear hy147
                     have H' := a_ H
                     clear H
                     try go_wp2
                     replace HO_5 := a_ (Kd.R_drew HO_5.out)
                     replace HO_8 := a_ (Kd.S_drew HO_8.out)
                     replace HB := a_ (below_drew1 HB.out)
                     have p133 : 0 ≤ (x6_1 : Int) := of_decide_eq_true z47_
                     have q133 : x6_1 < (l0.length : Int) := of_decide_eq_true z47_
                     obtain ⟨ad133, A133_0, c133_0, e133, hx133_0, hl133_0, hi133_0⟩ := at_L4 HR0.out x6_1 p133 q133
                     have hw133_0 := hx133_0
                     obtain rfl : ad129 = ad133 := (by injection e133)
                     replace hx133_0 := (HB.out.cell (World.block_lt_of_cell? _ _ hx133_0)).trans hx133_0
                     have HR133_0 := a_ hi133_0
                     have HC133_0 := a_ hl133_0
                     clear hi133_0 hl133_0
                     replace p133 := eq_true p133
                     replace q133 := eq_true q133
                     have p134 : 0 ≤ ((ji12) : Int) := of_decide_eq_true z47_
                     have q134 : (ji12) < ((rd_L4 l0 x6_1).length : Int) := of_decide_eq_true z47_
                     obtain ⟨ad134, A134_0, c134_0, e134, hx134_0, hl134_0, hi134_0⟩ := at_L3 HR133_0.out (ji12) p134 q134
                     have hw134_0 := hx134_0
                     cases e134
                     replace hx134_0 := (HB.out.cell (World.block_lt_of_cell? _ _ hx134_0)).trans hx134_0
                     have HR134_0 := a_ hi134_0
                     have HC134_0 := a_ hl134_0
                     clear hi134_0 hl134_0
                     replace p134 := eq_true p134
                     replace q134 := eq_true q134
                     have p135 : 0 ≤ (x6_1 : Int) := of_decide_eq_true z47_
                     have q135 : x6_1 < (l0.length : Int) := of_decide_eq_true z47_
                     obtain ⟨ad135, A135_0, c135_0, e135, hx135_0, hl135_0, hi135_0⟩ := at_L4 HR0.out x6_1 p135 q135
                     have hw135_0 := hx135_0
                     obtain rfl : ad129 = ad135 := (by injection e135)
                     replace hx135_0 := (HB.out.cell (World.block_lt_of_cell? _ _ hx135_0)).trans hx135_0
                     have HR135_0 := a_ hi135_0
                     have HC135_0 := a_ hl135_0
                     clear hi135_0 hl135_0
                     replace p135 := eq_true p135
                     replace q135 := eq_true q135
                     have ea_ := Option.some.inj (hx133_0.symm.trans hx135_0)
                     injection ea_ with ea_ en_ ec_
                     subst ea_
                     subst ec_
                     clear en_
                     have p136 : 0 ≤ (x9_2 : Int) := of_decide_eq_true z47_
                     have q136 : x9_2 < ((rd_L4 l0 x6_1).length : Int) := of_decide_eq_true z47_
                     obtain ⟨ad136, A136_0, c136_0, e136, hx136_0, hl136_0, hi136_0⟩ := at_L3 HR135_0.out x9_2 p136 q136
                     have hw136_0 := hx136_0
                     cases e136
                     replace hx136_0 := (HB.out.cell (World.block_lt_of_cell? _ _ hx136_0)).trans hx136_0
                     have HR136_0 := a_ hi136_0
                     have HC136_0 := a_ hl136_0
                     clear hi136_0 hl136_0
                     replace p136 := eq_true p136
                     replace q136 := eq_true q136
                     refine start_ (n := 19) (S := fun w' => w'.cell? (ad129.add (x6_1).toNat) = some (.slice (some ad134) (rd_L4 l0 x6_1).length c133_0) ∧ w'.cell? (ad134.add ((ji12)).toNat) = some (.slice A134_0 (rd_L3 (rd_L4 l0 x6_1) (ji12)).length c134_0) ∧ w'.cell? (ad129.add (x6_1).toNat) = some (.slice (some ad134) (rd_L4 l0 x6_1).length c133_0) ∧ w'.cell? (ad134.add (x9_2).toNat) = some (.slice A136_0 (rd_L3 (rd_L4 l0 x6_1) x9_2).length c136_0)) (ds := []) #[false, false, false, false, false, false, false, false, false, false, false, false, false, false, false, false, false, false, false] (by kernel_rfl) rfl rfl ⟨((HB.out.cell (World.block_lt_of_cell? _ _ hw133_0)).trans hw133_0), ((HB.out.cell (World.block_lt_of_cell? _ _ hw134_0)).trans hw134_0), ((HB.out.cell (World.block_lt_of_cell? _ _ hw135_0)).trans hw135_0), ((HB.out.cell (World.block_lt_of_cell? _ _ hw136_0)).trans hw136_0)⟩ (fun hHeld => ?_); refine with_tabW spec_l04Along.tab10 spec_l04Along.bits10 (fun HT_ HW_ => ?_)
                     generalize wr.drew = w27 at HO_5 HO_8 HB HR133_0 HR134_0 HR135_0 HR136_0 hx133_0 hx134_0 hx135_0 hx136_0 hHeld ⊢
                     refine pv_ (i := 0) (N := some 31) ?_
                     refine pv_ (i := 1) (N := some 32) ?_
                     refine pv_ (i := 2) (N := some 33) ?_
                     refine pv_ (i := 4) (N := some 35) ?_
                     refine pv_ (i := 5) (N := some 36) ?_
                     refine pv_ (i := 6) (N := some 37) ?_
                     refine pv_ (i := 7) (N := some 38) ?_
                     refine pv_ (i := 10) (N := some 41) ?_
                     refine pv_ (i := 11) (N := some 42) ?_
                     refine pv_ (i := 12) (N := some 43) ?_
                     refine pv_ (i := 14) (N := some 45) ?_
                     refine tl4_ (i := 3) (N := some 34) hHeld ?_
                     refine pv_ (i := 8) (N := some 39) ?_
                     refine tl4_ (i := 9) (N := some 40) hHeld ?_
                     refine pv_ (i := 17) (N := some 10) ?_
                     refine tl4_ (i := 13) (N := some 44) hHeld ?_
                     refine pv_ (i := 15) (N := some 46) ?_
                     refine tl4_ (i := 16) (N := some 47) hHeld ?_
                     refine pv_ (i := 18) (N := some 11) ?_
                     refine done_ (done_of HT_.out (by kernel_rfl)) ?_
                     try go_wp2
                     replace HO_5 := a_ (Kd.R_drew HO_5.out)
                     replace HO_8 := a_ (Kd.S_drew HO_8.out)
                     replace HB := a_ (below_drew1 HB.out)
                     have p137 : 0 ≤ (x6_1 : Int) := of_decide_eq_true z47_
                     have q137 : x6_1 < (l0.length : Int) := of_decide_eq_true z47_
                     obtain ⟨ad137, A137_0, c137_0, e137, hx137_0, hl137_0, hi137_0⟩ := at_L4 HR0.out x6_1 p137 q137
                     have hw137_0 := hx137_0
                     obtain rfl : ad129 = ad137 := (by injection e137)
                     replace hx137_0 := (HB.out.cell (World.block_lt_of_cell? _ _ hx137_0)).trans hx137_0
                     have HR137_0 := a_ hi137_0
                     have HC137_0 := a_ hl137_0
                     clear hi137_0 hl137_0
                     replace p137 := eq_true p137
                     replace q137 := eq_true q137
                     have p138 : 0 ≤ ((ji18) : Int) := of_decide_eq_true z47_
                     have q138 : (ji18) < ((rd_L4 l0 x6_1).length : Int) := of_decide_eq_true z47_
                     obtain ⟨ad138, A138_0, c138_0, e138, hx138_0, hl138_0, hi138_0⟩ := at_L3 HR137_0.out (ji18) p138 q138
                     have hw138_0 := hx138_0
                     cases e138
                     replace hx138_0 := (HB.out.cell (World.block_lt_of_cell? _ _ hx138_0)).trans hx138_0
                     have HR138_0 := a_ hi138_0
                     have HC138_0 := a_ hl138_0
                     clear hi138_0 hl138_0
                     replace p138 := eq_true p138
                     replace q138 := eq_true q138
                     have p139 : 0 ≤ (x6_1 : Int) := of_decide_eq_true z47_
                     have q139 : x6_1 < (l0.length : Int) := of_decide_eq_true z47_
                     obtain ⟨ad139, A139_0, c139_0, e139, hx139_0, hl139_0, hi139_0⟩ := at_L4 HR0.out x6_1 p139 q139
                     have hw139_0 := hx139_0
                     obtain rfl : ad129 = ad139 := (by injection e139)
                     replace hx139_0 := (HB.out.cell (World.block_lt_of_cell? _ _ hx139_0)).trans hx139_0
                     have HR139_0 := a_ hi139_0
                     have HC139_0 := a_ hl139_0
                     clear hi139_0 hl139_0
                     replace p139 := eq_true p139
                     replace q139 := eq_true q139
                     have ea_ := Option.some.inj (hx137_0.symm.trans hx139_0)
                     injection ea_ with ea_ en_ ec_
                     subst ea_
                     subst ec_
                     clear en_
                     have p140 : 0 ≤ ((ji21) : Int) := of_decide_eq_true z47_
                     have q140 : (ji21) < ((rd_L4 l0 x6_1).length : Int) := of_decide_eq_true z47_
                     obtain ⟨ad140, A140_0, c140_0, e140, hx140_0, hl140_0, hi140_0⟩ := at_L3 HR139_0.out (ji21) p140 q140
                     have hw140_0 := hx140_0
                     cases e140
                     replace hx140_0 := (HB.out.cell (World.block_lt_of_cell? _ _ hx140_0)).trans hx140_0
                     have HR140_0 := a_ hi140_0
                     have HC140_0 := a_ hl140_0
                     clear hi140_0 hl140_0
                     replace p140 := eq_true p140
                     replace q140 := eq_true q140
                     refine start_ (n := 23) (S := fun w' => w'.cell? (ad129.add (x6_1).toNat) = some (.slice (some ad138) (rd_L4 l0 x6_1).length c137_0) ∧ w'.cell? (ad138.add ((ji18)).toNat) = some (.slice A138_0 (rd_L3 (rd_L4 l0 x6_1) (ji18)).length c138_0) ∧ w'.cell? (ad129.add (x6_1).toNat) = some (.slice (some ad138) (rd_L4 l0 x6_1).length c137_0) ∧ w'.cell? (ad138.add ((ji21)).toNat) = some (.slice A140_0 (rd_L3 (rd_L4 l0 x6_1) (ji21)).length c140_0)) (ds := []) #[false, false, false, false, false, false, false, false, false, false, false, false, false, false, false, false, false, false, false, false, false, false, false] (by kernel_rfl) rfl rfl ⟨((HB.out.cell (World.block_lt_of_cell? _ _ hw137_0)).trans hw137_0), ((HB.out.cell (World.block_lt_of_cell? _ _ hw138_0)).trans hw138_0), ((HB.out.cell (World.block_lt_of_cell? _ _ hw139_0)).trans hw139_0), ((HB.out.cell (World.block_lt_of_cell? _ _ hw140_0)).trans hw140_0)⟩ (fun hHeld => ?_); refine with_tabW spec_l04Along.tab12 spec_l04Along.bits12 (fun HT_ HW_ => ?_)
                     generalize w27.drew = w28 at HO_5 HO_8 HB HR137_0 HR138_0 HR139_0 HR140_0 hx137_0 hx138_0 hx139_0 hx140_0 hHeld ⊢
                     refine pv_ (i := 0) (N := some 50) ?_
                     refine pv_ (i := 1) (N := some 51) ?_
                     refine pv_ (i := 2) (N := some 52) ?_
                     refine pv_ (i := 4) (N := some 54) ?_
                     refine pv_ (i := 5) (N := some 55) ?_
                     refine pv_ (i := 6) (N := some 56) ?_
                     refine pv_ (i := 7) (N := some 57) ?_
                     refine pv_ (i := 8) (N := some 58) ?_
                     refine pv_ (i := 11) (N := some 61) ?_
                     refine pv_ (i := 12) (N := some 62) ?_
                     refine pv_ (i := 13) (N := some 63) ?_
                     refine pv_ (i := 15) (N := some 65) ?_
                     refine pv_ (i := 16) (N := some 66) ?_
                     refine pv_ (i := 17) (N := some 67) ?_
                     refine pv_ (i := 18) (N := some 68) ?_
                     refine tl4_ (i := 3) (N := some 53) hHeld ?_
                     refine pv_ (i := 9) (N := some 59) ?_
                     refine tl4_ (i := 10) (N := some 60) hHeld ?_
                     refine pv_ (i := 21) (N := some 10) ?_
                     refine tl4_ (i := 14) (N := some 64) hHeld ?_
                     refine pv_ (i := 19) (N := some 69) ?_
                     refine tl4_ (i := 20) (N := some 70) hHeld ?_
                     refine pv_ (i := 22) (N := some 11) ?_
                     refine done_ (done_of HT_.out (by kernel_rfl)) ?_
                     try go_wp2_with (first | ((with_reducible refine gate_callee (f := 38) rfl ?_); refine goesL_ (some 73) rfl rfl Tryd.func38 (by kernel_rfl) rfl #[.slice A138_0 (rd_L3 (rd_L4 l0 x6_1) (ji18)).length c138_0, .bool true] rfl (by (try simp only [List.map_toArray, List.map_cons, List.map_nil]); first | done | (simp only [hji18]; rfl) | rfl | (simp only [List.length_drop, List.length_take]; rfl)) ?_; (with_reducible refine (spec_l04Turn.calls _ _ (rd_L3 (rd_L4 l0 x6_1) (ji18)) true t141 _ ?side1 ?side2 A24.out).mono ?_); (case side1 => exact kc_ (Kd.C_below HR138_0.out HB.out)); (case side2 => exact HC138_0.out); rintro e w29 ⟨v142, rfl, ho0, hb⟩; refine ⟨_, rfl, ?_⟩; replace HO_5 := a_ (Kd.R_elder' (ra_ HO_5.out) (Kd.R_base ho0) hb); replace HO_8 := a_ (Kd.S_elder' z40_ (Kd.R_base ho0) hb); have HO143 := a_ (Kd.R_lower ho0 (below_size z23_)); replace HB := bst_ z23_ hb; (try clear hb); (try clear hb2); (try clear hk); (try clear hi); (try clear ho0)) | ((with_reducible refine gate_builtin (b := .append) (xs := #[.tmp 73, .tmp 74]) rfl ?_); at_builtin; refine Kd.R_append_rows k35 (w0 := w) w.heap.size rfl (.tmp 73) (.tmp 74) 32 35 (.agg #[(.int .i64 0), (.int .i64 0), (.bool false), (.bool false)]) 24 rfl Tryd.underlying32 info35 rfl (by decide) (by omega) v142 t141 (rd_L3 (rd_L4 l0 x6_1) (ji21)) _ _ _ (fun _ => True) (fun _ => False) rfl rfl ?aO ?aR (fun _ _ h => h) (fun _ h => h.elim) ?aF ?aB ?aS ?aL ?_; (case aR => exact kc_ (Kd.C_below HR140_0.out HB.out)); (case aB => exact z23_); (case aF => exact (fun _ _ => trivial)); (case aO => exact (ra_ HO143.out)); (case aS => exact (below_size z23_)); (case aL => have := LMc25.out; omega); intro v145 w30 ho hb hg hat; rw [← Ny144.out] at ho; replace HO_5 := a_ (Kd.R_after (ok := (fun k_ => some k_ ≠ (u8 : Value).ownBlock)) (ra_ HO_5.out) hg hat); replace HO_8 := a_ (Kd.S_after (ok := (fun _ => True)) z40_ hg hat); replace HB := a_ (hb); have HO146 := a_ (ho); clear HO143; clear ho hb hg hat; obtain ⟨Ao32, co32, eo32⟩ := Kd.R_slice HO146.out; subst eo32) | ((with_reducible refine gate_builtin (b := .append) (xs := #[.tmp 71, .tmp 76]) rfl ?_); at_builtin; refine Kd.S_append (Kd.slice 35 k35) (w0 := w) w.heap.size rfl (.tmp 71) (.tmp 76) 43 32 (.slice none 0 0) 24 rfl Tryd.underlying43 info32 rfl (by decide) (by omega) u8 x8_2 y144 [.slice Ao32 y144.length co32] (fun _ => True) (fun k_ => some k_ = (.slice Ao32 y144.length co32 : Value).ownBlock) rfl rfl ?aP (fun k_ hk_ => ((Kd.R_mono (ok' := fun k_ => ((fun _ => True)) k_ ∧ some k_ ≠ (u8 : Value).ownBlock) (Kd.R_apart' (HO146.out) (Kd.S_typed HO_8.out) (by decide)) (fun k_ hk => ⟨trivial, hk.2⟩))).1 k_ hk_.symm) ?aF ?aO ?aB ?aS ?aL ?_; (case aP => exact Kd.M_row (Kd.R_mono (Kd.R_tight rfl (Kd.R_mono (ok' := fun k_ => ((fun _ => True)) k_ ∧ some k_ ≠ (u8 : Value).ownBlock) (Kd.R_apart' (HO146.out) (Kd.S_typed HO_8.out) (by decide)) (fun k_ hk => ⟨trivial, hk.2⟩))) (fun _ h_ => h_))); (case aB => exact z23_); (case aF => exact (fun _ _ => trivial)); (case aO => exact (by (with_reducible repeat (first | apply Kd.S_alloc | apply Kd.S_drewN | apply Kd.S_drew)); exact Kd.S_mono HO_8.out (fun k_ hk => ⟨trivial, fun e_ => hk.2 e_⟩))); (case aS => exact (below_size z23_)); (case aL => have := LMc26.out; omega); intro v148 w31 ho hb hg hat; rw [← Ny147.out] at ho; replace HO_5 := a_ (Kd.R_after (ok := (fun k_ => nb_ k_ Ao32 y144.length co32)) (rc_ (h := by exact Kd.R_mono HO_5.out (fun _ hk => ⟨hk.2, hk.1⟩))) hg hat); replace HB := a_ (hb); have HO149 := a_ (ho); clear HO146; clear HO_8; clear ho hb hg hat))
                     go_roundg k2
                     case measure => have := HK1.out; have := HK2.out; omega
                     case rel => exact ⟨(y147), (wrap64 (x9_2 + 1)), z48_, H', ⟨z49_⟩, ⟨z28_⟩, ⟨by (with_reducible repeat (first | apply Kd.S_alloc | apply Kd.S_drewN | apply Kd.S_drew)); exact HO149.out⟩, ⟨z23_⟩⟩
                    ·rw [if_neg c26] at H
                     exact absurd H (by simp)
                   ·rw [if_neg c25] at H
                    exact absurd H (by simp)
                  ·rw [if_neg c23] at H
                   exact absurd H (by simp)
                 ·rw [if_neg c22] at H
                  exact absurd H (by simp)
                ·rw [if_neg c20] at H
                 exact absurd H (by simp)
               ·rw [if_neg c19] at H
                exact absurd H (by simp)
              ·rw [if_neg c17] at H
               have c17b0 : (a1 == 76) = false := beq_eq_false_iff_ne.mpr c17
               have c17b1 : (a1 != 76) = true := bne_iff_ne.mpr c17
               replace H := Option.bind_eq_some_iff.mp H
               obtain ⟨t150, A330, H⟩ := H
               replace H : (if t150.length + (rd_L3 (rd_L4 l0 x6_1) x9_2).length < 5864062014805 then (if x8_2.length < 5864062014805 then (spec_l04Along.l1 k2 l0 a1 x5_1 x6_1 ((rd_L4 l0 x6_1).length : Int) (x8_2 ++ [(t150 ++ (rd_L3 (rd_L4 l0 x6_1) x9_2))]) (wrap64 (x9_2 + 1))) else (none)) else (none)) = some r := H
               have A33 := a_ A330
               clear A330
               by_cases c34 : t150.length + (rd_L3 (rd_L4 l0 x6_1) x9_2).length < 5864062014805
               ·rw [if_pos c34] at H
                have LMc34 := a_ c34
                clear c34
                obtain ⟨y153, hy153⟩ : ∃ y_ : List (S35), y_ = (t150 ++ (rd_L3 (rd_L4 l0 x6_1) x9_2)) := ⟨_, rfl⟩
                replace H : (if x8_2.length < 5864062014805 then (spec_l04Along.l1 k2 l0 a1 x5_1 x6_1 ((rd_L4 l0 x6_1).length : Int) (x8_2 ++ [y153]) (wrap64 (x9_2 + 1))) else (none)) = some r := rh_ hy153 H
                have Ny153 := a_ hy153
                clear hy153
                by_cases c35 : x8_2.length < 5864062014805
                ·rw [if_pos c35] at H
                 have LMc35 := a_ c35
                 clear c35
                 obtain ⟨y156, hy156⟩ : ∃ y_ : List (List (S35)), y_ = (x8_2 ++ [y153]) := ⟨_, rfl⟩
                 replace H : (spec_l04Along.l1 k2 l0 a1 x5_1 x6_1 ((rd_L4 l0 x6_1).length : Int) y156 (wrap64 (x9_2 + 1))) = some r := rh_ hy156 H
                 have Ny156 := a_ hy156
                 clear hy156
                 have H' := a_ H
                 clear H
                 try go_wp2
                 replace HO_5 := a_ (Kd.R_drew HO_5.out)
                 replace HO_8 := a_ (Kd.S_drew HO_8.out)
                 replace HB := a_ (below_drew1 HB.out)
                 have p133 : 0 ≤ (x6_1 : Int) := of_decide_eq_true z47_
                 have q133 : x6_1 < (l0.length : Int) := of_decide_eq_true z47_
                 obtain ⟨ad133, A133_0, c133_0, e133, hx133_0, hl133_0, hi133_0⟩ := at_L4 HR0.out x6_1 p133 q133
                 have hw133_0 := hx133_0
                 obtain rfl : ad129 = ad133 := (by injection e133)
                 replace hx133_0 := (HB.out.cell (World.block_lt_of_cell? _ _ hx133_0)).trans hx133_0
                 have HR133_0 := a_ hi133_0
                 have HC133_0 := a_ hl133_0
                 clear hi133_0 hl133_0
                 replace p133 := eq_true p133
                 replace q133 := eq_true q133
                 have p134 : 0 ≤ ((ji12) : Int) := of_decide_eq_true z47_
                 have q134 : (ji12) < ((rd_L4 l0 x6_1).length : Int) := of_decide_eq_true z47_
                 obtain ⟨ad134, A134_0, c134_0, e134, hx134_0, hl134_0, hi134_0⟩ := at_L3 HR133_0.out (ji12) p134 q134
                 have hw134_0 := hx134_0
                 cases e134
                 replace hx134_0 := (HB.out.cell (World.block_lt_of_cell? _ _ hx134_0)).trans hx134_0
                 have HR134_0 := a_ hi134_0
                 have HC134_0 := a_ hl134_0
                 clear hi134_0 hl134_0
                 replace p134 := eq_true p134
                 replace q134 := eq_true q134
                 have p135 : 0 ≤ (x6_1 : Int) := of_decide_eq_true z47_
                 have q135 : x6_1 < (l0.length : Int) := of_decide_eq_true z47_
                 obtain ⟨ad135, A135_0, c135_0, e135, hx135_0, hl135_0, hi135_0⟩ := at_L4 HR0.out x6_1 p135 q135
                 have hw135_0 := hx135_0
                 obtain rfl : ad129 = ad135 := (by injection e135)
                 replace hx135_0 := (HB.out.cell (World.block_lt_of_cell? _ _ hx135_0)).trans hx135_0
                 have HR135_0 := a_ hi135_0
                 have HC135_0 := a_ hl135_0
                 clear hi135_0 hl135_0
                 replace p135 := eq_true p135
                 replace q135 := eq_true q135
                 have ea_ := Option.some.inj (hx133_0.symm.trans hx135_0)
                 injection ea_ with ea_ en_ ec_
                 subst ea_
                 subst ec_
                 clear en_
                 have p136 : 0 ≤ (x9_2 : Int) := of_decide_eq_true z47_
                 have q136 : x9_2 < ((rd_L4 l0 x6_1).length : Int) := of_decide_eq_true z47_
                 obtain ⟨ad136, A136_0, c136_0, e136, hx136_0, hl136_0, hi136_0⟩ := at_L3 HR135_0.out x9_2 p136 q136
                 have hw136_0 := hx136_0
                 cases e136
                 replace hx136_0 := (HB.out.cell (World.block_lt_of_cell? _ _ hx136_0)).trans hx136_0
                 have HR136_0 := a_ hi136_0
                 have HC136_0 := a_ hl136_0
                 clear hi136_0 hl136_0
                 replace p136 := eq_true p136
                 replace q136 := eq_true q136
                 refine start_ (n := 19) (S := fun w' => w'.cell? (ad129.add (x6_1).toNat) = some (.slice (some ad134) (rd_L4 l0 x6_1).length c133_0) ∧ w'.cell? (ad134.add ((ji12)).toNat) = some (.slice A134_0 (rd_L3 (rd_L4 l0 x6_1) (ji12)).length c134_0) ∧ w'.cell? (ad129.add (x6_1).toNat) = some (.slice (some ad134) (rd_L4 l0 x6_1).length c133_0) ∧ w'.cell? (ad134.add (x9_2).toNat) = some (.slice A136_0 (rd_L3 (rd_L4 l0 x6_1) x9_2).length c136_0)) (ds := []) #[false, false, false, false, false, false, false, false, false, false, false, false, false, false, false, false, false, false, false] (by kernel_rfl) rfl rfl ⟨((HB.out.cell (World.block_lt_of_cell? _ _ hw133_0)).trans hw133_0), ((HB.out.cell (World.block_lt_of_cell? _ _ hw134_0)).trans hw134_0), ((HB.out.cell (World.block_lt_of_cell? _ _ hw135_0)).trans hw135_0), ((HB.out.cell (World.block_lt_of_cell? _ _ hw136_0)).trans hw136_0)⟩ (fun hHeld => ?_); refine with_tabW spec_l04Along.tab10 spec_l04Along.bits10 (fun HT_ HW_ => ?_)
                 generalize wr.drew = w36 at HO_5 HO_8 HB HR133_0 HR134_0 HR135_0 HR136_0 hx133_0 hx134_0 hx135_0 hx136_0 hHeld ⊢
                 refine pv_ (i := 0) (N := some 31) ?_
                 refine pv_ (i := 1) (N := some 32) ?_
                 refine pv_ (i := 2) (N := some 33) ?_
                 refine pv_ (i := 4) (N := some 35) ?_
                 refine pv_ (i := 5) (N := some 36) ?_
                 refine pv_ (i := 6) (N := some 37) ?_
                 refine pv_ (i := 7) (N := some 38) ?_
                 refine pv_ (i := 10) (N := some 41) ?_
                 refine pv_ (i := 11) (N := some 42) ?_
                 refine pv_ (i := 12) (N := some 43) ?_
                 refine pv_ (i := 14) (N := some 45) ?_
                 refine tl4_ (i := 3) (N := some 34) hHeld ?_
                 refine pv_ (i := 8) (N := some 39) ?_
                 refine tl4_ (i := 9) (N := some 40) hHeld ?_
                 refine pv_ (i := 17) (N := some 10) ?_
                 refine tl4_ (i := 13) (N := some 44) hHeld ?_
                 refine pv_ (i := 15) (N := some 46) ?_
                 refine tl4_ (i := 16) (N := some 47) hHeld ?_
                 refine pv_ (i := 18) (N := some 11) ?_
                 refine done_ (done_of HT_.out (by kernel_rfl)) ?_
                 try go_wp2_with (first | ((with_reducible refine gate_callee (f := 38) rfl ?_); refine goesL_ (some 73) rfl rfl Tryd.func38 (by kernel_rfl) rfl #[.slice A134_0 (rd_L3 (rd_L4 l0 x6_1) (ji12)).length c134_0, .bool true] rfl (by (try simp only [List.map_toArray, List.map_cons, List.map_nil]); first | done | (simp only [hji12]; rfl) | rfl | (simp only [List.length_drop, List.length_take]; rfl)) ?_; (with_reducible refine (spec_l04Turn.calls _ _ (rd_L3 (rd_L4 l0 x6_1) (ji12)) true t150 _ ?side1 ?side2 A33.out).mono ?_); (case side1 => exact kc_ (Kd.C_below HR134_0.out HB.out)); (case side2 => exact HC134_0.out); rintro e w37 ⟨v151, rfl, ho0, hb⟩; refine ⟨_, rfl, ?_⟩; replace HO_5 := a_ (Kd.R_elder' (ra_ HO_5.out) (Kd.R_base ho0) hb); replace HO_8 := a_ (Kd.S_elder' z40_ (Kd.R_base ho0) hb); have HO152 := a_ (Kd.R_lower ho0 (below_size z23_)); replace HB := bst_ z23_ hb; (try clear hb); (try clear hb2); (try clear hk); (try clear hi); (try clear ho0)) | ((with_reducible refine gate_builtin (b := .append) (xs := #[.tmp 73, .tmp 74]) rfl ?_); at_builtin; refine Kd.R_append_rows k35 (w0 := w) w.heap.size rfl (.tmp 73) (.tmp 74) 32 35 (.agg #[(.int .i64 0), (.int .i64 0), (.bool false), (.bool false)]) 24 rfl Tryd.underlying32 info35 rfl (by decide) (by omega) v151 t150 (rd_L3 (rd_L4 l0 x6_1) x9_2) _ _ _ (fun _ => True) (fun _ => False) rfl rfl ?aO ?aR (fun _ _ h => h) (fun _ h => h.elim) ?aF ?aB ?aS ?aL ?_; (case aR => exact kc_ (Kd.C_below HR136_0.out HB.out)); (case aB => exact z23_); (case aF => exact (fun _ _ => trivial)); (case aO => exact (ra_ HO152.out)); (case aS => exact (below_size z23_)); (case aL => have := LMc34.out; omega); intro v154 w38 ho hb hg hat; rw [← Ny153.out] at ho; replace HO_5 := a_ (Kd.R_after (ok := (fun k_ => some k_ ≠ (u8 : Value).ownBlock)) (ra_ HO_5.out) hg hat); replace HO_8 := a_ (Kd.S_after (ok := (fun _ => True)) z40_ hg hat); replace HB := a_ (hb); have HO155 := a_ (ho); clear HO152; clear ho hb hg hat; obtain ⟨Ao40, co40, eo40⟩ := Kd.R_slice HO155.out; subst eo40) | ((with_reducible refine gate_builtin (b := .append) (xs := #[.tmp 71, .tmp 76]) rfl ?_); at_builtin; refine Kd.S_append (Kd.slice 35 k35) (w0 := w) w.heap.size rfl (.tmp 71) (.tmp 76) 43 32 (.slice none 0 0) 24 rfl Tryd.underlying43 info32 rfl (by decide) (by omega) u8 x8_2 y153 [.slice Ao40 y153.length co40] (fun _ => True) (fun k_ => some k_ = (.slice Ao40 y153.length co40 : Value).ownBlock) rfl rfl ?aP (fun k_ hk_ => ((Kd.R_mono (ok' := fun k_ => ((fun _ => True)) k_ ∧ some k_ ≠ (u8 : Value).ownBlock) (Kd.R_apart' (HO155.out) (Kd.S_typed HO_8.out) (by decide)) (fun k_ hk => ⟨trivial, hk.2⟩))).1 k_ hk_.symm) ?aF ?aO ?aB ?aS ?aL ?_; (case aP => exact Kd.M_row (Kd.R_mono (Kd.R_tight rfl (Kd.R_mono (ok' := fun k_ => ((fun _ => True)) k_ ∧ some k_ ≠ (u8 : Value).ownBlock) (Kd.R_apart' (HO155.out) (Kd.S_typed HO_8.out) (by decide)) (fun k_ hk => ⟨trivial, hk.2⟩))) (fun _ h_ => h_))); (case aB => exact z23_); (case aF => exact (fun _ _ => trivial)); (case aO => exact (by (with_reducible repeat (first | apply Kd.S_alloc | apply Kd.S_drewN | apply Kd.S_drew)); exact Kd.S_mono HO_8.out (fun k_ hk => ⟨trivial, fun e_ => hk.2 e_⟩))); (case aS => exact (below_size z23_)); (case aL => have := LMc35.out; omega); intro v157 w39 ho hb hg hat; rw [← Ny156.out] at ho; replace HO_5 := a_ (Kd.R_after (ok := (fun k_ => nb_ k_ Ao40 y153.length co40)) (rc_ (h := by exact Kd.R_mono HO_5.out (fun _ hk => ⟨hk.2, hk.1⟩))) hg hat); replace HB := a_ (hb); have HO158 := a_ (ho); clear HO155; clear HO_8; clear ho hb hg hat))
                 go_roundg k2
                 case measure => have := HK1.out; have := HK2.out; omega
                 case rel => exact ⟨(y156), (wrap64 (x9_2 + 1)), z48_, H', ⟨z49_⟩, ⟨z28_⟩, ⟨by (with_reducible repeat (first | apply Kd.S_alloc | apply Kd.S_drewN | apply Kd.S_drew)); exact HO158.out⟩, ⟨z23_⟩⟩
                ·rw [if_neg c35] at H
                 exact absurd H (by simp)
               ·rw [if_neg c34] at H
                exact absurd H (by simp)
             ·rw [if_neg c16] at H
              exact absurd H (by simp)
            ·rw [if_neg c15] at H
             exact absurd H (by simp)
           ·rw [if_neg c14] at H
            exact absurd H (by simp)
          ·rw [if_neg c13] at H
           exact absurd H (by simp)
         ·rw [if_neg c11] at H
          exact absurd H (by simp)
        ·rw [if_neg c10] at H
         exact absurd H (by simp)
       ·rw [if_neg c9] at H
        have c9b0 : decide (x9_2 < (wrap64 ((((rd_L4 l0 x6_1).length : Int) / 2)))) = false := decide_eq_false c9
        clear c9
        by_cases c41 : x5_1.length < 5864062014805
        ·rw [if_pos c41] at H
         have LMc41 := a_ c41
         clear c41
         obtain ⟨y159, hy159⟩ : ∃ y_ : List (List (List (S35))), y_ = (x5_1 ++ [x8_2]) := ⟨_, rfl⟩
         replace H : (spec_l04Along.l0 k2 l0 a1 y159 (wrap64 (x6_1 + 1))) = some r := rh_ hy159 H
         have Ny159 := a_ hy159
         clear hy159
         have H' := a_ H
         clear H
         obtain ⟨Ao43, co43, eo43⟩ := Kd.S_slice HO_8.out
         subst eo43
         go_wp2_with (first | ((with_reducible refine gate_builtin (b := .append) (xs := #[.tmp 78, .tmp 80]) rfl ?_); at_builtin; refine Kd.R_append (Kd.slice 32 (Kd.slice 35 k35)) (w0 := w) w.heap.size rfl (.tmp 78) (.tmp 80) 42 43 (.slice none 0 0) 24 rfl Tryd.underlying42 info43 rfl (by decide) (by omega) u5 x5_1 x8_2 [.slice Ao43 x8_2.length co43] (fun _ => True) (fun k_ => ((fun _ => True)) k_ ∧ some k_ ≠ (u5 : Value).ownBlock) rfl rfl ?aP (fun _ hk => hk) ?aF ?aO ?aB ?aS ?aL ?_; (case aP => exact Kd.M_row (Kd.R_mono (Kd.R_apart' ((Kd.S_R HO_8.out)) (Kd.R_typed HO_5.out) (by decide)) (fun k_ hk => ⟨trivial, hk.2⟩))); (case aB => exact z23_); (case aF => exact (fun _ _ => trivial)); (case aO => exact (rc_ (h := by exact Kd.R_mono HO_5.out (fun _ hk => trivial)))); (case aS => exact (below_size z23_)); (case aL => have := LMc41.out; omega); intro v160 w42 ho hb hg hat; rw [← Ny159.out] at ho; replace HB := a_ (hb); have HO161 := a_ (ho); clear HO_5; clear HO_8; clear ho hb hg hat))
         go_roundg k2
         case measure => have := HK1.out; have := HK2.out; omega
         case rel => exact ⟨(y159), (wrap64 (x6_1 + 1)), z48_, H', ⟨z49_⟩, ⟨by (with_reducible repeat (first | apply Kd.R_alloc | apply Kd.R_drewN | apply Kd.R_drew)); exact HO161.out⟩, ⟨z23_⟩⟩
        ·rw [if_neg c41] at H
         exact absurd H (by simp)
    ·rw [if_neg c6] at H
     exact absurd H (by simp)
   ·rw [if_neg c5] at H
    have c5b0 : decide (x6_1 < (l0.length : Int)) = false := decide_eq_false c5
    clear c5
    obtain rfl := Option.some.inj H
    go_wp2
    go_ret
    exact ⟨_, z24_, by (with_reducible repeat (first | apply Kd.R_alloc | apply Kd.R_drewN | apply Kd.R_drew)); exact HO_5.out, z23_⟩

end Go.Proofs.YtkpidjmhdagkfaaDoor.QFnExactImposeSheet
-- halved
