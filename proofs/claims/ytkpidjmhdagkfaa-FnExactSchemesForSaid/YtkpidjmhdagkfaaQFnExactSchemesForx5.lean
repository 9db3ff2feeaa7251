-- Written by own_print.py of this session's repo over the kit's print (its output, turned at some places).
import Derived.Test.YtkpidjmhdagkfaaQFnExactSchemesForx0
import Derived.Test.YtkpidjmhdagkfaaQFnExactSchemesForx4
namespace Go.Proofs.Ytkpidjmhdagkfaa.QFnExactSchemesFor
open Go.RowKit Go.Proofs.YtkpidjmhdagkfaaW.PrintWords Go.Proofs.YtkpidjmhdagkfaaW.PrintLast Go.Proofs.YtkpidjmhdagkfaaW.PrintMore
attribute [local go_sem] max2_int min2_int max_two min_two max_three min_three max_four min_four   -- for this text's walks alone
set_option linter.unusedVariables false
set_option linter.unusedSimpArgs false

/-! ### spec_l04Along: function 107 -/
mutual
def spec_l04Along.l0 : Nat → List (List (List (S102))) → Int → List (List (List (S102))) → Int → Option ((List (List (List (S102)))))
 | 0, _, _, _, _ => none
 | k + 1, x0, x1, x5, x6 => if x6 < (x0.length : Int) then (if 0 ≤ x6 then (spec_l04Along.l1 k x0 x1 x5 x6 ((rd_L5 x0 x6).length : Int) (([] : List (List (S102)))) 0) else (none)) else (some x5)
def spec_l04Along.l1 : Nat → List (List (List (S102))) → Int → List (List (List (S102))) → Int → Int → List (List (S102)) → Int → Option ((List (List (List (S102)))))
 | 0, _, _, _, _, _, _, _ => none
 | k + 1, x0, x1, x5, x6, x7, x8, x9 => if x9 < (wrap64 (Int.tdiv x7 2)) then (if 0 ≤ x6 then (if x6 < (x0.length : Int) then (if 0 ≤ (wrap64 ((wrap64 (x7 - 1)) - x9)) then (if (wrap64 ((wrap64 (x7 - 1)) - x9)) < ((rd_L5 x0 x6).length : Int) then (if 0 ≤ x9 then (if x9 < ((rd_L5 x0 x6).length : Int) then (if x1 = 76 then (if 0 ≤ (wrap64 ((wrap64 ((wrap64 (Int.tdiv x7 2)) - 1)) - x9)) then (if (wrap64 ((wrap64 ((wrap64 (Int.tdiv x7 2)) - 1)) - x9)) < ((rd_L5 x0 x6).length : Int) then (if 0 ≤ (wrap64 ((wrap64 (Int.tdiv x7 2)) + x9)) then (if (wrap64 ((wrap64 (Int.tdiv x7 2)) + x9)) < ((rd_L5 x0 x6).length : Int) then ((spec_l04Turn.f (rd_L4 (rd_L5 x0 x6) (wrap64 ((wrap64 ((wrap64 (Int.tdiv x7 2)) - 1)) - x9))) true).bind fun t245 => (if t245.length + (rd_L4 (rd_L5 x0 x6) (wrap64 ((wrap64 (Int.tdiv x7 2)) + x9))).length < 5864062014805 then (if x8.length < 5864062014805 then (spec_l04Along.l1 k x0 x1 x5 x6 x7 (x8 ++ [(t245 ++ (rd_L4 (rd_L5 x0 x6) (wrap64 ((wrap64 (Int.tdiv x7 2)) + x9))))]) (wrap64 (x9 + 1))) else (none)) else (none))) else (none)) else (none)) else (none)) else (none)) else ((spec_l04Turn.f (rd_L4 (rd_L5 x0 x6) (wrap64 ((wrap64 (x7 - 1)) - x9))) true).bind fun t254 => (if t254.length + (rd_L4 (rd_L5 x0 x6) x9).length < 5864062014805 then (if x8.length < 5864062014805 then (spec_l04Along.l1 k x0 x1 x5 x6 x7 (x8 ++ [(t254 ++ (rd_L4 (rd_L5 x0 x6) x9))]) (wrap64 (x9 + 1))) else (none)) else (none)))) else (none)) else (none)) else (none)) else (none)) else (none)) else (none)) else (if x5.length < 5864062014805 then (spec_l04Along.l0 k x0 x1 (x5 ++ [x8]) (wrap64 (x6 + 1))) else (none))
end
def spec_l04Along.f (k : Nat) (l0 : List (List (List (S102)))) (a1 : Int) : Option ((List (List (List (S102))))) := spec_l04Along.l0 k l0 a1 (([] : List (List (List (S102))))) 0
theorem spec_l04Along.mono_l : ∀ k, (∀ y0 y1 y2 y3, LeO (spec_l04Along.l0 k y0 y1 y2 y3) (spec_l04Along.l0 (k + 1) y0 y1 y2 y3)) ∧ (∀ y0 y1 y2 y3 y4 y5 y6, LeO (spec_l04Along.l1 k y0 y1 y2 y3 y4 y5 y6) (spec_l04Along.l1 (k + 1) y0 y1 y2 y3 y4 y5 y6))
 | 0 => ⟨fun _ _ _ _ r h => by simp [spec_l04Along.l0] at h, fun _ _ _ _ _ _ _ r h => by simp [spec_l04Along.l1] at h⟩
 | k + 1 => by
  obtain ⟨ih0, ih1⟩ := spec_l04Along.mono_l k
  refine ⟨?_, ?_⟩
  ·intro y0 y1 y2 y3
   unfold spec_l04Along.l0
   repeat' first
   | (with_reducible exact ih0 _ _ _ _)
   | (with_reducible exact ih1 _ _ _ _ _ _ _)
   | (with_reducible exact LeO.refl _)
   | (with_reducible exact LeO.none _)
   | (with_reducible refine LeO.ite ?_ ?_)
   | (with_reducible refine LeO.bind ?_ (fun _ => ?_))
   | exact ih0 _ _ _ _
   | exact ih1 _ _ _ _ _ _ _
   | exact LeO.none _
   | refine LeO.ite ?_ ?_
   | refine LeO.bind ?_ (fun _ => ?_)
  ·intro y0 y1 y2 y3 y4 y5 y6
   unfold spec_l04Along.l1
   repeat' first
   | (with_reducible exact ih0 _ _ _ _)
   | (with_reducible exact ih1 _ _ _ _ _ _ _)
   | (with_reducible exact LeO.refl _)
   | (with_reducible exact LeO.none _)
   | (with_reducible refine LeO.ite ?_ ?_)
   | (with_reducible refine LeO.bind ?_ (fun _ => ?_))
   | exact ih0 _ _ _ _
   | exact ih1 _ _ _ _ _ _ _
   | exact LeO.none _
   | refine LeO.ite ?_ ?_
   | refine LeO.bind ?_ (fun _ => ?_)
theorem spec_l04Along.mono : ∀ a0 a1 k, LeO (spec_l04Along.f k a0 a1) (spec_l04Along.f (k + 1) a0 a1) := by
 intro a0 a1 k
 obtain ⟨ih0, ih1⟩ := spec_l04Along.mono_l k
 unfold spec_l04Along.f
 repeat' first
   | (with_reducible exact ih0 _ _ _ _)
   | (with_reducible exact ih1 _ _ _ _ _ _ _)
   | (with_reducible exact LeO.refl _)
   | (with_reducible exact LeO.none _)
   | (with_reducible refine LeO.ite ?_ ?_)
   | (with_reducible refine LeO.bind ?_ (fun _ => ?_))
   | exact ih0 _ _ _ _
   | exact ih1 _ _ _ _ _ _ _
   | exact LeO.none _
   | refine LeO.ite ?_ ?_
   | refine LeO.bind ?_ (fun _ => ?_)
def spec_l04Along.T10 : Bool × List (List Nat × List Nat) := (true, [([], []), ([], []), ([0, 1], [0, 1]), ([2], [2]), ([], []), ([4], [4]), ([], []), ([5, 6], [5, 6]), ([3, 7], [3, 7]), ([8], [8]), ([], []), ([], []), ([10, 11], [10, 11]), ([12], [12]), ([], []), ([13, 14], [13, 14]), ([15], [15]), ([9, 0, 1, 2, 3, 4, 5, 6, 7, 8, 9], [9]), ([16, 17, 0, 1, 2, 3, 4, 5, 6, 7, 8, 9, 10, 11, 12, 13, 14, 15, 16, 17], [16])])
def spec_l04Along.B10 : List Nat := [0, 0, 3, 7, 0, 16, 0, 112, 255, 511, 0, 0, 3072, 7168, 0, 31744, 64512, 1023, 262143]
theorem spec_l04Along.tab10 : rtab .any (opsOf Try.f107 10) = spec_l04Along.T10 := by kernel_rfl
theorem spec_l04Along.bits10 : waitsOk spec_l04Along.T10.2 spec_l04Along.B10 = true := by kernel_rfl
def spec_l04Along.T12 : Bool × List (List Nat × List Nat) := (true, [([], []), ([], []), ([0, 1], [0, 1]), ([2], [2]), ([], []), ([4], [4]), ([5], [5]), ([], []), ([6, 7], [6, 7]), ([3, 8], [3, 8]), ([9], [9]), ([], []), ([], []), ([11, 12], [11, 12]), ([13], [13]), ([], []), ([15], [15]), ([], []), ([16, 17], [16, 17]), ([14, 18], [14, 18]), ([19], [19]), ([10, 0, 1, 2, 3, 4, 5, 6, 7, 8, 9, 10], [10]), ([20, 21, 0, 1, 2, 3, 4, 5, 6, 7, 8, 9, 10, 11, 12, 13, 14, 15, 16, 17, 18, 19, 20, 21], [20])])
def spec_l04Along.B12 : List Nat := [0, 0, 3, 7, 0, 16, 48, 0, 240, 511, 1023, 0, 0, 6144, 14336, 0, 32768, 0, 229376, 522240, 1046528, 2047, 4194303]
theorem spec_l04Along.tab12 : rtab .any (opsOf Try.f107 12) = spec_l04Along.T12 := by kernel_rfl
theorem spec_l04Along.bits12 : waitsOk spec_l04Along.T12.2 spec_l04Along.B12 = true := by kernel_rfl
set_option maxHeartbeats 8000000 in
set_option maxRecDepth 100000 in
theorem spec_l04Along.calls (k : Nat) (A0 : Option Addr) (c0 : Nat) (l0 : List (List (List (S102)))) (a1 : Int) (r : List (List (List (S102)))) (w : World) (hr0 : Kd.C (Kd.slice 99 (Kd.slice 102 k102)) w A0 l0.length l0) (hc0 : l0.length ≤ c0) (h : spec_l04Along.f k l0 a1 = some r) :
  Calls Try.prog 107 #[.slice A0 l0.length c0, .int .u8 a1] w fun e w' => ∃ v0_ : Value, e = .returned (v0_) ∧ Kd.R (Kd.slice 99 (Kd.slice 102 k102)) 121 w' w.heap.size (fun _ => True) v0_ r ∧ Below w.heap.size w w' := by
 have HR0 := Aside0.mk hr0
 have HC0 := Aside0.mk hc0
 clear hr0 hc0
 have HB := a_ (Below.refl w.heap.size w)
 have H : (spec_l04Along.l0 k l0 a1 (([] : List (List (List (S102))))) 0) = some r := h
 clear h
 obtain ⟨y230, hy230⟩ : ∃ y_ : List (List (List (S102))), y_ = (([] : List (List (List (S102))))) := ⟨_, rfl⟩
 replace H : (spec_l04Along.l0 k l0 a1 y230 0) = some r := rh_ hy230 H
 have Ny230 := Aside0.mk hy230
 clear hy230
 have H' := Aside0.mk H
 clear H
 go_enter Try.func107, Try.ntmps107
 go_wp2_with (first | ((with_reducible refine gate_dst (N := 12) rfl ?_); refine Kd.R_lit (Kd.slice 99 (Kd.slice 102 k102)) _ 121 ?hg (N := 12) ?hd (xs := ([] : List (List (List (S102))))) (inner := []) (ok := fun _ => True) (okp := fun _ => True) ?hr ?hp (fun _ hk => hk) trivial (Below.refl _ _) (Nat.le_refl _) (by simp) ?_; (case hd => rfl); (case hg => rfl); (case hr => first | (go_simp; done) | (go_simp; rfl)); (case hp => exact (Reps.none _ _)); intro v231 w3 ho4 hb hg_ hnew_; clear hg_ hnew_; (first | rw [← Ny230.out] at ho4 | (simp only [Int.reduceToNat] at ho4; rw [← Ny230.out] at ho4)); have HO232 := a_ (Kd.R_lower ho4 (below_size z31_)); replace HB := a_ (below_step z31_ hb); clear hb ho4))
 go_loopg [5, 6] k (fun kq v5 v6 w' => ∃ (x5_1 : List (List (List (S102)))) (x6_1 : Int), v6 = .int .i64 x6_1 ∧ Aside0 (spec_l04Along.l0 kq l0 a1 x5_1 x6_1 = some r) ∧ Aside0 (kq ≤ k) ∧ Aside0 (Kd.R (Kd.slice 99 (Kd.slice 102 k102)) 121 w' w.heap.size (fun _ => True) v5 x5_1) ∧ Aside0 (Below w.heap.size w w'))
 case atStart => exact ⟨(y230), (0), z81_, H', ⟨Nat.le_refl _⟩, ⟨by (with_reducible repeat (first | apply Kd.R_alloc | apply Kd.R_drewN | apply Kd.R_drew)); exact HO232.out⟩, ⟨z31_⟩⟩
 case round =>
  clear H'
  obtain ⟨x5_1, x6_1, rfl, HA, HK1, HO_5, HB⟩ := hrel
  cases gk with
  | zero => exact absurd HA.out (by simp [spec_l04Along.l0])
  | succ k1 =>
   have H := HA.out
   clear HA
   simp only [spec_l04Along.l0] at H
   by_cases c5 : x6_1 < (l0.length : Int)
   ·rw [if_pos c5] at H
    have c5b0 : decide (x6_1 < (l0.length : Int)) = true := decide_eq_true c5
    clear c5
    by_cases c6 : 0 ≤ x6_1
    ·rw [if_pos c6] at H
     have c6b0 : decide (0 ≤ x6_1) = true := decide_eq_true c6
     clear c6
     obtain ⟨y234, hy234⟩ : ∃ y_ : List (List (S102)), y_ = (([] : List (List (S102)))) := ⟨_, rfl⟩
     replace H : (spec_l04Along.l1 k1 l0 a1 x5_1 x6_1 ((rd_L5 l0 x6_1).length : Int) y234 0) = some r := rh_ hy234 H
     have Ny234 := Aside0.mk hy234
     clear hy234
     have H' := Aside0.mk H
     clear H
     have p233 : 0 ≤ (x6_1 : Int) := of_decide_eq_true z80_
     have q233 : x6_1 < (l0.length : Int) := of_decide_eq_true z80_
     obtain ⟨ad233, A233_0, c233_0, e233, hx233_0, hl233_0, hi233_0⟩ := at_L5 HR0.out x6_1 p233 q233
     cases e233
     replace hx233_0 := (HB.out.cell (World.block_lt_of_cell? _ _ hx233_0)).trans hx233_0
     have HR233_0 := Aside0.mk hi233_0
     have HC233_0 := Aside0.mk hl233_0
     clear hi233_0 hl233_0
     replace p233 := eq_true p233
     replace q233 := eq_true q233
     go_wp2_with (first | ((with_reducible refine gate_dst (N := 24) rfl ?_); refine Kd.S_lit (Kd.slice 102 k102) _ 99 ?hg (N := 24) ?hd (xs := ([] : List (List (S102)))) (inner := []) (ok := fun _ => True) (okp := fun _ => True) ?hr ?hp (fun _ hk => hk) trivial (Below.refl _ _) (Nat.le_refl _) (by simp) ?_; (case hd => rfl); (case hg => rfl); (case hr => first | (go_simp; done) | (go_simp; rfl)); (case hp => exact (Reps.none _ _)); intro v235 w7 ho8 hb hg_ hnew_; clear hg_ hnew_; (first | rw [← Ny234.out] at ho8 | (simp only [Int.reduceToNat] at ho8; rw [← Ny234.out] at ho8)); replace HO_5 := a_ (Kd.R_elder' (ra_ HO_5.out) (Kd.S_base ho8) hb); have HO236 := a_ (Kd.S_lower ho8 (below_size z31_)); replace HB := a_ (below_step z31_ hb); clear hb ho8))
     go_loopg [8, 9] k1 (fun kq v8 v9 w' => ∃ (x8_2 : List (List (S102))) (x9_2 : Int), v9 = .int .i64 x9_2 ∧ Aside0 (spec_l04Along.l1 kq l0 a1 x5_1 x6_1 ((rd_L5 l0 x6_1).length : Int) x8_2 x9_2 = some r) ∧ Aside0 (kq ≤ k1) ∧ Aside0 (Kd.R (Kd.slice 99 (Kd.slice 102 k102)) 121 w' w.heap.size (fun k_ => some k_ ≠ (v8 : Value).ownBlock) u5 x5_1) ∧ Aside0 (Kd.S (Kd.slice 102 k102) 99 w' w.heap.size (fun _ => True) v8 x8_2) ∧ Aside0 (Below w.heap.size w w'))
     case atStart => exact ⟨(y234), (0), z81_, H', ⟨Nat.le_refl _⟩, ⟨z36_⟩, ⟨by (with_reducible repeat (first | apply Kd.S_alloc | apply Kd.S_drewN | apply Kd.S_drew)); exact HO236.out⟩, ⟨z31_⟩⟩
     case round =>
      clear H'
      try clear c5b0; try clear c6b0; try clear hx233_0; try clear p233; try clear q233
      obtain ⟨x8_2, x9_2, rfl, HA, HK2, HO_5, HO_8, HB⟩ := hrel
      cases gk with
      | zero => exact absurd HA.out (by simp [spec_l04Along.l1])
      | succ k2 =>
       have H := HA.out
       clear HA
       simp only [spec_l04Along.l1] at H
       (try simp only [show ∀ (n_ : Nat) (k_ : Int), Int.tdiv (n_ : Int) k_ = (n_ : Int) / k_ from fun n_ k_ => Int.tdiv_eq_ediv_of_nonneg (Int.natCast_nonneg n_), show ∀ (n_ : Nat) (k_ : Int), Int.tmod (n_ : Int) k_ = (n_ : Int) % k_ from fun n_ k_ => Int.tmod_eq_emod_of_nonneg (Int.natCast_nonneg n_)] at H)
       by_cases c9 : x9_2 < (wrap64 ((((rd_L5 l0 x6_1).length : Int) / 2)))
       ·rw [if_pos c9] at H
        have c9b0 : decide (x9_2 < (wrap64 ((((rd_L5 l0 x6_1).length : Int) / 2)))) = true := decide_eq_true c9
        clear c9
        by_cases c10 : 0 ≤ x6_1
        ·rw [if_pos c10] at H
         have c10b0 : decide (0 ≤ x6_1) = true := decide_eq_true c10
         clear c10
         by_cases c11 : x6_1 < (l0.length : Int)
         ·rw [if_pos c11] at H
          have c11b0 : decide (x6_1 < (l0.length : Int)) = true := decide_eq_true c11
          clear c11
          obtain ⟨ji12, hji12⟩ : ∃ j_ : Int, (wrap64 ((wrap64 (((rd_L5 l0 x6_1).length : Int) - 1)) - x9_2)) = j_ := ⟨_, rfl⟩
          replace H : (if 0 ≤ (ji12) then (if (ji12) < ((rd_L5 l0 x6_1).length : Int) then (if 0 ≤ x9_2 then (if x9_2 < ((rd_L5 l0 x6_1).length : Int) then (if a1 = 76 then (if 0 ≤ (wrap64 ((wrap64 ((wrap64 ((((rd_L5 l0 x6_1).length : Int) / 2))) - 1)) - x9_2)) then (if (wrap64 ((wrap64 ((wrap64 ((((rd_L5 l0 x6_1).length : Int) / 2))) - 1)) - x9_2)) < ((rd_L5 l0 x6_1).length : Int) then (if 0 ≤ (wrap64 ((wrap64 ((((rd_L5 l0 x6_1).length : Int) / 2))) + x9_2)) then (if (wrap64 ((wrap64 ((((rd_L5 l0 x6_1).length : Int) / 2))) + x9_2)) < ((rd_L5 l0 x6_1).length : Int) then ((spec_l04Turn.f (rd_L4 (rd_L5 l0 x6_1) (wrap64 ((wrap64 ((wrap64 ((((rd_L5 l0 x6_1).length : Int) / 2))) - 1)) - x9_2))) true).bind fun t245 => (if t245.length + (rd_L4 (rd_L5 l0 x6_1) (wrap64 ((wrap64 ((((rd_L5 l0 x6_1).length : Int) / 2))) + x9_2))).length < 5864062014805 then (if x8_2.length < 5864062014805 then (spec_l04Along.l1 k2 l0 a1 x5_1 x6_1 ((rd_L5 l0 x6_1).length : Int) (x8_2 ++ [(t245 ++ (rd_L4 (rd_L5 l0 x6_1) (wrap64 ((wrap64 ((((rd_L5 l0 x6_1).length : Int) / 2))) + x9_2))))]) (wrap64 (x9_2 + 1))) else (none)) else (none))) else (none)) else (none)) else (none)) else (none)) else ((spec_l04Turn.f (rd_L4 (rd_L5 l0 x6_1) (ji12)) true).bind fun t254 => (if t254.length + (rd_L4 (rd_L5 l0 x6_1) x9_2).length < 5864062014805 then (if x8_2.length < 5864062014805 then (spec_l04Along.l1 k2 l0 a1 x5_1 x6_1 ((rd_L5 l0 x6_1).length : Int) (x8_2 ++ [(t254 ++ (rd_L4 (rd_L5 l0 x6_1) x9_2))]) (wrap64 (x9_2 + 1))) else (none)) else (none)))) else (none)) else (none)) else (none)) else (none)) = some r := by first | (rw [hji12] at H; exact H) | (simp only [hji12] at H ⊢; exact H)
          have hji12w : (IntKind.i64.wrap ((wrap64 (((rd_L5 l0 x6_1).length : Int) - 1)) - x9_2)) = ji12 := (i64_w _).trans hji12
          by_cases c13 : 0 ≤ (ji12)
          ·rw [if_pos c13] at H
           have c13b0 : decide (0 ≤ (ji12)) = true := decide_eq_true c13
           clear c13
           by_cases c14 : (ji12) < ((rd_L5 l0 x6_1).length : Int)
           ·rw [if_pos c14] at H
            have c14b0 : decide ((ji12) < ((rd_L5 l0 x6_1).length : Int)) = true := decide_eq_true c14
            clear c14
            by_cases c15 : 0 ≤ x9_2
            ·rw [if_pos c15] at H
             have c15b0 : decide (0 ≤ x9_2) = true := decide_eq_true c15
             clear c15
             by_cases c16 : x9_2 < ((rd_L5 l0 x6_1).length : Int)
             ·rw [if_pos c16] at H
              have c16b0 : decide (x9_2 < ((rd_L5 l0 x6_1).length : Int)) = true := decide_eq_true c16
              clear c16
              by_cases c17 : a1 = 76
              ·rw [if_pos c17] at H
               have c17b0 : (a1 == 76) = true := beq_iff_eq.mpr c17
               have c17b1 : (a1 != 76) = false := bne_eq_false_iff_eq.mpr c17
               clear c17
               obtain ⟨ji18, hji18⟩ : ∃ j_ : Int, (wrap64 ((wrap64 ((wrap64 ((((rd_L5 l0 x6_1).length : Int) / 2))) - 1)) - x9_2)) = j_ := ⟨_, rfl⟩
               replace H : (if 0 ≤ (ji18) then (if (ji18) < ((rd_L5 l0 x6_1).length : Int) then (if 0 ≤ (wrap64 ((wrap64 ((((rd_L5 l0 x6_1).length : Int) / 2))) + x9_2)) then (if (wrap64 ((wrap64 ((((rd_L5 l0 x6_1).length : Int) / 2))) + x9_2)) < ((rd_L5 l0 x6_1).length : Int) then ((spec_l04Turn.f (rd_L4 (rd_L5 l0 x6_1) (ji18)) true).bind fun t245 => (if t245.length + (rd_L4 (rd_L5 l0 x6_1) (wrap64 ((wrap64 ((((rd_L5 l0 x6_1).length : Int) / 2))) + x9_2))).length < 5864062014805 then (if x8_2.length < 5864062014805 then (spec_l04Along.l1 k2 l0 a1 x5_1 x6_1 ((rd_L5 l0 x6_1).length : Int) (x8_2 ++ [(t245 ++ (rd_L4 (rd_L5 l0 x6_1) (wrap64 ((wrap64 ((((rd_L5 l0 x6_1).length : Int) / 2))) + x9_2))))]) (wrap64 (x9_2 + 1))) else (none)) else (none))) else (none)) else (none)) else (none)) else (none)) = some r := by first | (rw [hji18] at H; exact H) | (simp only [hji18] at H ⊢; exact H)
               have hji18w : (IntKind.i64.wrap ((wrap64 ((wrap64 ((((rd_L5 l0 x6_1).length : Int) / 2))) - 1)) - x9_2)) = ji18 := (i64_w _).trans hji18
               by_cases c19 : 0 ≤ (ji18)
               ·rw [if_pos c19] at H
                have c19b0 : decide (0 ≤ (ji18)) = true := decide_eq_true c19
                clear c19
                by_cases c20 : (ji18) < ((rd_L5 l0 x6_1).length : Int)
                ·rw [if_pos c20] at H
                 have c20b0 : decide ((ji18) < ((rd_L5 l0 x6_1).length : Int)) = true := decide_eq_true c20
                 clear c20
                 obtain ⟨ji21, hji21⟩ : ∃ j_ : Int, (wrap64 ((wrap64 ((((rd_L5 l0 x6_1).length : Int) / 2))) + x9_2)) = j_ := ⟨_, rfl⟩
                 replace H : (if 0 ≤ (ji21) then (if (ji21) < ((rd_L5 l0 x6_1).length : Int) then ((spec_l04Turn.f (rd_L4 (rd_L5 l0 x6_1) (ji18)) true).bind fun t245 => (if t245.length + (rd_L4 (rd_L5 l0 x6_1) (ji21)).length < 5864062014805 then (if x8_2.length < 5864062014805 then (spec_l04Along.l1 k2 l0 a1 x5_1 x6_1 ((rd_L5 l0 x6_1).length : Int) (x8_2 ++ [(t245 ++ (rd_L4 (rd_L5 l0 x6_1) (ji21)))]) (wrap64 (x9_2 + 1))) else (none)) else (none))) else (none)) else (none)) = some r := by first | (rw [hji21] at H; exact H) | (simp only [hji21] at H ⊢; exact H)
                 have hji21w : (IntKind.i64.wrap ((wrap64 ((((rd_L5 l0 x6_1).length : Int) / 2))) + x9_2)) = ji21 := (i64_w _).trans hji21
                 by_cases c22 : 0 ≤ (ji21)
                 ·rw [if_pos c22] at H
                  have c22b0 : decide (0 ≤ (ji21)) = true := decide_eq_true c22
                  clear c22
                  by_cases c23 : (ji21) < ((rd_L5 l0 x6_1).length : Int)
                  ·rw [if_pos c23] at H
                   have c23b0 : decide ((ji21) < ((rd_L5 l0 x6_1).length : Int)) = true := decide_eq_true c23
                   clear c23
                   replace H := Option.bind_eq_some_iff.mp H
                   obtain ⟨t245, A240, H⟩ := H
                   replace H : (if t245.length + (rd_L4 (rd_L5 l0 x6_1) (ji21)).length < 5864062014805 then (if x8_2.length < 5864062014805 then (spec_l04Along.l1 k2 l0 a1 x5_1 x6_1 ((rd_L5 l0 x6_1).length : Int) (x8_2 ++ [(t245 ++ (rd_L4 (rd_L5 l0 x6_1) (ji21)))]) (wrap64 (x9_2 + 1))) else (none)) else (none)) = some r := H
                   have A24 := Aside0.mk A240
                   clear A240
                   by_cases c25 : t245.length + (rd_L4 (rd_L5 l0 x6_1) (ji21)).length < 5864062014805
                   ·rw [if_pos c25] at H
                    have LMc25 := Aside0.mk c25
                    clear c25
                    obtain ⟨y248, hy248⟩ : ∃ y_ : List (S102), y_ = (t245 ++ (rd_L4 (rd_L5 l0 x6_1) (ji21))) := ⟨_, rfl⟩
                    replace H : (if x8_2.length < 5864062014805 then (spec_l04Along.l1 k2 l0 a1 x5_1 x6_1 ((rd_L5 l0 x6_1).length : Int) (x8_2 ++ [y248]) (wrap64 (x9_2 + 1))) else (none)) = some r := rh_ hy248 H
                    have Ny248 := Aside0.mk hy248
                    clear hy248
                    by_cases c26 : x8_2.length < 5864062014805
                    ·rw [if_pos c26] at H
                     have LMc26 := Aside0.mk c26
                     clear c26
                     obtain ⟨y251, hy251⟩ : ∃ y_ : List (List (S102)), y_ = (x8_2 ++ [y248]) := ⟨_, rfl⟩
                     replace H : (spec_l04Along.l1 k2 l0 a1 x5_1 x6_1 ((rd_L5 l0 x6_1).length : Int) y251 (wrap64 (x9_2 + 1))) = some r := rh_ hy251 H
                     have Ny251 := Aside0.mk hy251
                     clear hy251
                     have H' := Aside0.mk H
                     clear H
                     try go_wp2
                     replace HO_5 := a_ (Kd.R_drew HO_5.out)
                     replace HO_8 := a_ (Kd.S_drew HO_8.out)
                     replace HB := a_ (below_drew1 HB.out)
                     have p237 : 0 ≤ (x6_1 : Int) := of_decide_eq_true z80_
                     have q237 : x6_1 < (l0.length : Int) := of_decide_eq_true z80_
                     obtain ⟨ad237, A237_0, c237_0, e237, hx237_0, hl237_0, hi237_0⟩ := at_L5 HR0.out x6_1 p237 q237
                     have hw237_0 := hx237_0
                     obtain rfl : ad233 = ad237 := (by injection e237)
                     replace hx237_0 := (HB.out.cell (World.block_lt_of_cell? _ _ hx237_0)).trans hx237_0
                     have HR237_0 := Aside0.mk hi237_0
                     have HC237_0 := Aside0.mk hl237_0
                     clear hi237_0 hl237_0
                     replace p237 := eq_true p237
                     replace q237 := eq_true q237
                     have p238 : 0 ≤ ((ji12) : Int) := of_decide_eq_true z80_
                     have q238 : (ji12) < ((rd_L5 l0 x6_1).length : Int) := of_decide_eq_true z80_
                     obtain ⟨ad238, A238_0, c238_0, e238, hx238_0, hl238_0, hi238_0⟩ := at_L4 HR237_0.out (ji12) p238 q238
                     have hw238_0 := hx238_0
                     cases e238
                     replace hx238_0 := (HB.out.cell (World.block_lt_of_cell? _ _ hx238_0)).trans hx238_0
                     have HR238_0 := Aside0.mk hi238_0
                     have HC238_0 := Aside0.mk hl238_0
                     clear hi238_0 hl238_0
                     replace p238 := eq_true p238
                     replace q238 := eq_true q238
                     have p239 : 0 ≤ (x6_1 : Int) := of_decide_eq_true z80_
                     have q239 : x6_1 < (l0.length : Int) := of_decide_eq_true z80_
                     obtain ⟨ad239, A239_0, c239_0, e239, hx239_0, hl239_0, hi239_0⟩ := at_L5 HR0.out x6_1 p239 q239
                     have hw239_0 := hx239_0
                     obtain rfl : ad233 = ad239 := (by injection e239)
                     replace hx239_0 := (HB.out.cell (World.block_lt_of_cell? _ _ hx239_0)).trans hx239_0
                     have HR239_0 := Aside0.mk hi239_0
                     have HC239_0 := Aside0.mk hl239_0
                     clear hi239_0 hl239_0
                     replace p239 := eq_true p239
                     replace q239 := eq_true q239
                     have ea_ := Option.some.inj (hx237_0.symm.trans hx239_0)
                     injection ea_ with ea_ en_ ec_
                     subst ea_
                     subst ec_
                     clear en_
                     have p240 : 0 ≤ (x9_2 : Int) := of_decide_eq_true z80_
                     have q240 : x9_2 < ((rd_L5 l0 x6_1).length : Int) := of_decide_eq_true z80_
                     obtain ⟨ad240, A240_0, c240_0, e240, hx240_0, hl240_0, hi240_0⟩ := at_L4 HR239_0.out x9_2 p240 q240
                     have hw240_0 := hx240_0
                     cases e240
                     replace hx240_0 := (HB.out.cell (World.block_lt_of_cell? _ _ hx240_0)).trans hx240_0
                     have HR240_0 := Aside0.mk hi240_0
                     have HC240_0 := Aside0.mk hl240_0
                     clear hi240_0 hl240_0
                     replace p240 := eq_true p240
                     replace q240 := eq_true q240
                     refine start_ (n := 19) (S := fun w' => w'.cell? (ad233.add (x6_1).toNat) = some (.slice (some ad238) (rd_L5 l0 x6_1).length c237_0) ∧ w'.cell? (ad238.add ((ji12)).toNat) = some (.slice A238_0 (rd_L4 (rd_L5 l0 x6_1) (ji12)).length c238_0) ∧ w'.cell? (ad233.add (x6_1).toNat) = some (.slice (some ad238) (rd_L5 l0 x6_1).length c237_0) ∧ w'.cell? (ad238.add (x9_2).toNat) = some (.slice A240_0 (rd_L4 (rd_L5 l0 x6_1) x9_2).length c240_0)) (ds := []) #[false, false, false, false, false, false, false, false, false, false, false, false, false, false, false, false, false, false, false] (by kernel_rfl) rfl rfl ⟨((HB.out.cell (World.block_lt_of_cell? _ _ hw237_0)).trans hw237_0), ((HB.out.cell (World.block_lt_of_cell? _ _ hw238_0)).trans hw238_0), ((HB.out.cell (World.block_lt_of_cell? _ _ hw239_0)).trans hw239_0), ((HB.out.cell (World.block_lt_of_cell? _ _ hw240_0)).trans hw240_0)⟩ (fun hHeld => ?_); refine with_tabW spec_l04Along.tab10 spec_l04Along.bits10 (fun HT_ HW_ => ?_)
                     generalize wr.drew = w27 at HO_5 HO_8 HB HR237_0 HR238_0 HR239_0 HR240_0 hx237_0 hx238_0 hx239_0 hx240_0 hHeld ⊢
                     refine pu_ (i := 0) (N := some 31) #[true, false, false, false, false, false, false, false, false, false, false, false, false, false, false, false, false, false, false] ?_
                     refine pu_ (i := 1) (N := some 32) #[true, true, false, false, false, false, false, false, false, false, false, false, false, false, false, false, false, false, false] ?_
                     refine pu_ (i := 2) (N := some 33) #[true, true, true, false, false, false, false, false, false, false, false, false, false, false, false, false, false, false, false] ?_
                     refine pu_ (i := 4) (N := some 35) #[true, true, true, false, true, false, false, false, false, false, false, false, false, false, false, false, false, false, false] ?_
                     refine pu_ (i := 5) (N := some 36) #[true, true, true, false, true, true, false, false, false, false, false, false, false, false, false, false, false, false, false] ?_
                     refine pu_ (i := 6) (N := some 37) #[true, true, true, false, true, true, true, false, false, false, false, false, false, false, false, false, false, false, false] ?_
                     refine pu_ (i := 7) (N := some 38) #[true, true, true, false, true, true, true, true, false, false, false, false, false, false, false, false, false, false, false] ?_
                     refine pu_ (i := 10) (N := some 41) #[true, true, true, false, true, true, true, true, false, false, true, false, false, false, false, false, false, false, false] ?_
                     refine pu_ (i := 11) (N := some 42) #[true, true, true, false, true, true, true, true, false, false, true, true, false, false, false, false, false, false, false] ?_
                     refine pu_ (i := 12) (N := some 43) #[true, true, true, false, true, true, true, true, false, false, true, true, true, false, false, false, false, false, false] ?_
                     refine pu_ (i := 14) (N := some 45) #[true, true, true, false, true, true, true, true, false, false, true, true, true, false, true, false, false, false, false] ?_
                     refine tk4_ (i := 3) (N := some 34) #[true, true, true, true, true, true, true, true, false, false, true, true, true, false, true, false, false, false, false] hHeld ?_
                     refine pu_ (i := 8) (N := some 39) #[true, true, true, true, true, true, true, true, true, false, true, true, true, false, true, false, false, false, false] ?_
                     refine tk4_ (i := 9) (N := some 40) #[true, true, true, true, true, true, true, true, true, true, true, true, true, false, true, false, false, false, false] hHeld ?_
                     refine pu_ (i := 17) (N := some 10) #[true, true, true, true, true, true, true, true, true, true, true, true, true, false, true, false, false, true, false] ?_
                     refine tk4_ (i := 13) (N := some 44) #[true, true, true, true, true, true, true, true, true, true, true, true, true, true, true, false, false, true, false] hHeld ?_
                     refine pu_ (i := 15) (N := some 46) #[true, true, true, true, true, true, true, true, true, true, true, true, true, true, true, true, false, true, false] ?_
                     refine tk4_ (i := 16) (N := some 47) #[true, true, true, true, true, true, true, true, true, true, true, true, true, true, true, true, true, true, false] hHeld ?_
                     refine pu_ (i := 18) (N := some 11) #[true, true, true, true, true, true, true, true, true, true, true, true, true, true, true, true, true, true, true] ?_
                     refine done_ (done_of HT_.out (by kernel_rfl)) ?_
                     try go_wp2
                     replace HO_5 := a_ (Kd.R_drew HO_5.out)
                     replace HO_8 := a_ (Kd.S_drew HO_8.out)
                     replace HB := a_ (below_drew1 HB.out)
                     have p241 : 0 ≤ (x6_1 : Int) := of_decide_eq_true z80_
                     have q241 : x6_1 < (l0.length : Int) := of_decide_eq_true z80_
                     obtain ⟨ad241, A241_0, c241_0, e241, hx241_0, hl241_0, hi241_0⟩ := at_L5 HR0.out x6_1 p241 q241
                     have hw241_0 := hx241_0
                     obtain rfl : ad233 = ad241 := (by injection e241)
                     replace hx241_0 := (HB.out.cell (World.block_lt_of_cell? _ _ hx241_0)).trans hx241_0
                     have HR241_0 := Aside0.mk hi241_0
                     have HC241_0 := Aside0.mk hl241_0
                     clear hi241_0 hl241_0
                     replace p241 := eq_true p241
                     replace q241 := eq_true q241
                     have p242 : 0 ≤ ((ji18) : Int) := of_decide_eq_true z80_
                     have q242 : (ji18) < ((rd_L5 l0 x6_1).length : Int) := of_decide_eq_true z80_
                     obtain ⟨ad242, A242_0, c242_0, e242, hx242_0, hl242_0, hi242_0⟩ := at_L4 HR241_0.out (ji18) p242 q242
                     have hw242_0 := hx242_0
                     cases e242
                     replace hx242_0 := (HB.out.cell (World.block_lt_of_cell? _ _ hx242_0)).trans hx242_0
                     have HR242_0 := Aside0.mk hi242_0
                     have HC242_0 := Aside0.mk hl242_0
                     clear hi242_0 hl242_0
                     replace p242 := eq_true p242
                     replace q242 := eq_true q242
                     have p243 : 0 ≤ (x6_1 : Int) := of_decide_eq_true z80_
                     have q243 : x6_1 < (l0.length : Int) := of_decide_eq_true z80_
                     obtain ⟨ad243, A243_0, c243_0, e243, hx243_0, hl243_0, hi243_0⟩ := at_L5 HR0.out x6_1 p243 q243
                     have hw243_0 := hx243_0
                     obtain rfl : ad233 = ad243 := (by injection e243)
                     replace hx243_0 := (HB.out.cell (World.block_lt_of_cell? _ _ hx243_0)).trans hx243_0
                     have HR243_0 := Aside0.mk hi243_0
                     have HC243_0 := Aside0.mk hl243_0
                     clear hi243_0 hl243_0
                     replace p243 := eq_true p243
                     replace q243 := eq_true q243
                     have ea_ := Option.some.inj (hx241_0.symm.trans hx243_0)
                     injection ea_ with ea_ en_ ec_
                     subst ea_
                     subst ec_
                     clear en_
                     have p244 : 0 ≤ ((ji21) : Int) := of_decide_eq_true z80_
                     have q244 : (ji21) < ((rd_L5 l0 x6_1).length : Int) := of_decide_eq_true z80_
                     obtain ⟨ad244, A244_0, c244_0, e244, hx244_0, hl244_0, hi244_0⟩ := at_L4 HR243_0.out (ji21) p244 q244
                     have hw244_0 := hx244_0
                     cases e244
                     replace hx244_0 := (HB.out.cell (World.block_lt_of_cell? _ _ hx244_0)).trans hx244_0
                     have HR244_0 := Aside0.mk hi244_0
                     have HC244_0 := Aside0.mk hl244_0
                     clear hi244_0 hl244_0
                     replace p244 := eq_true p244
                     replace q244 := eq_true q244
                     refine start_ (n := 23) (S := fun w' => w'.cell? (ad233.add (x6_1).toNat) = some (.slice (some ad242) (rd_L5 l0 x6_1).length c241_0) ∧ w'.cell? (ad242.add ((ji18)).toNat) = some (.slice A242_0 (rd_L4 (rd_L5 l0 x6_1) (ji18)).length c242_0) ∧ w'.cell? (ad233.add (x6_1).toNat) = some (.slice (some ad242) (rd_L5 l0 x6_1).length c241_0) ∧ w'.cell? (ad242.add ((ji21)).toNat) = some (.slice A244_0 (rd_L4 (rd_L5 l0 x6_1) (ji21)).length c244_0)) (ds := []) #[false, false, false, false, false, false, false, false, false, false, false, false, false, false, false, false, false, false, false, false, false, false, false] (by kernel_rfl) rfl rfl ⟨((HB.out.cell (World.block_lt_of_cell? _ _ hw241_0)).trans hw241_0), ((HB.out.cell (World.block_lt_of_cell? _ _ hw242_0)).trans hw242_0), ((HB.out.cell (World.block_lt_of_cell? _ _ hw243_0)).trans hw243_0), ((HB.out.cell (World.block_lt_of_cell? _ _ hw244_0)).trans hw244_0)⟩ (fun hHeld => ?_); refine with_tabW spec_l04Along.tab12 spec_l04Along.bits12 (fun HT_ HW_ => ?_)
                     generalize w27.drew = w28 at HO_5 HO_8 HB HR241_0 HR242_0 HR243_0 HR244_0 hx241_0 hx242_0 hx243_0 hx244_0 hHeld ⊢
                     refine pu_ (i := 0) (N := some 50) #[true, false, false, false, false, false, false, false, false, false, false, false, false, false, false, false, false, false, false, false, false, false, false] ?_
                     refine pu_ (i := 1) (N := some 51) #[true, true, false, false, false, false, false, false, false, false, false, false, false, false, false, false, false, false, false, false, false, false, false] ?_
                     refine pu_ (i := 2) (N := some 52) #[true, true, true, false, false, false, false, false, false, false, false, false, false, false, false, false, false, false, false, false, false, false, false] ?_
                     refine pu_ (i := 4) (N := some 54) #[true, true, true, false, true, false, false, false, false, false, false, false, false, false, false, false, false, false, false, false, false, false, false] ?_
                     refine pu_ (i := 5) (N := some 55) #[true, true, true, false, true, true, false, false, false, false, false, false, false, false, false, false, false, false, false, false, false, false, false] ?_
                     refine pu_ (i := 6) (N := some 56) #[true, true, true, false, true, true, true, false, false, false, false, false, false, false, false, false, false, false, false, false, false, false, false] ?_
                     refine pu_ (i := 7) (N := some 57) #[true, true, true, false, true, true, true, true, false, false, false, false, false, false, false, false, false, false, false, false, false, false, false] ?_
                     refine pu_ (i := 8) (N := some 58) #[true, true, true, false, true, true, true, true, true, false, false, false, false, false, false, false, false, false, false, false, false, false, false] ?_
                     refine pu_ (i := 11) (N := some 61) #[true, true, true, false, true, true, true, true, true, false, false, true, false, false, false, false, false, false, false, false, false, false, false] ?_
                     refine pu_ (i := 12) (N := some 62) #[true, true, true, false, true, true, true, true, true, false, false, true, true, false, false, false, false, false, false, false, false, false, false] ?_
                     refine pu_ (i := 13) (N := some 63) #[true, true, true, false, true, true, true, true, true, false, false, true, true, true, false, false, false, false, false, false, false, false, false] ?_
                     refine pu_ (i := 15) (N := some 65) #[true, true, true, false, true, true, true, true, true, false, false, true, true, true, false, true, false, false, false, false, false, false, false] ?_
                     refine pu_ (i := 16) (N := some 66) #[true, true, true, false, true, true, true, true, true, false, false, true, true, true, false, true, true, false, false, false, false, false, false] ?_
                     refine pu_ (i := 17) (N := some 67) #[true, true, true, false, true, true, true, true, true, false, false, true, true, true, false, true, true, true, false, false, false, false, false] ?_
                     refine pu_ (i := 18) (N := some 68) #[true, true, true, false, true, true, true, true, true, false, false, true, true, true, false, true, true, true, true, false, false, false, false] ?_
                     refine tk4_ (i := 3) (N := some 53) #[true, true, true, true, true, true, true, true, true, false, false, true, true, true, false, true, true, true, true, false, false, false, false] hHeld ?_
                     refine pu_ (i := 9) (N := some 59) #[true, true, true, true, true, true, true, true, true, true, false, true, true, true, false, true, true, true, true, false, false, false, false] ?_
                     refine tk4_ (i := 10) (N := some 60) #[true, true, true, true, true, true, true, true, true, true, true, true, true, true, false, true, true, true, true, false, false, false, false] hHeld ?_
                     refine pu_ (i := 21) (N := some 10) #[true, true, true, true, true, true, true, true, true, true, true, true, true, true, false, true, true, true, true, false, false, true, false] ?_
                     refine tk4_ (i := 14) (N := some 64) #[true, true, true, true, true, true, true, true, true, true, true, true, true, true, true, true, true, true, true, false, false, true, false] hHeld ?_
                     refine pu_ (i := 19) (N := some 69) #[true, true, true, true, true, true, true, true, true, true, true, true, true, true, true, true, true, true, true, true, false, true, false] ?_
                     refine tk4_ (i := 20) (N := some 70) #[true, true, true, true, true, true, true, true, true, true, true, true, true, true, true, true, true, true, true, true, true, true, false] hHeld ?_
                     refine pu_ (i := 22) (N := some 11) #[true, true, true, true, true, true, true, true, true, true, true, true, true, true, true, true, true, true, true, true, true, true, true] ?_
                     refine done_ (done_of HT_.out (by kernel_rfl)) ?_
                     try go_wp2_with (first | ((with_reducible refine gate_callee (f := 116) rfl ?_); refine goesL_ (some 73) rfl rfl Try.func116 (by kernel_rfl) rfl #[.slice A242_0 (rd_L4 (rd_L5 l0 x6_1) (ji18)).length c242_0, .bool true] rfl (by (try simp only [List.map_toArray, List.map_cons, List.map_nil]); first | done | (simp only [hji18]; rfl) | rfl | (simp only [List.length_drop, List.length_take]; rfl)) ?_; (with_reducible refine (spec_l04Turn.calls _ _ (rd_L4 (rd_L5 l0 x6_1) (ji18)) true t245 _ ?side1 ?side2 A24.out).mono ?_); (case side1 => exact kc_ (Kd.C_below HR242_0.out HB.out)); (case side2 => exact HC242_0.out); rintro e w29 ⟨v246, rfl, ho0, hb⟩; refine ⟨_, rfl, ?_⟩; replace HO_5 := a_ (Kd.R_elder' (ra_ HO_5.out) (Kd.R_base ho0) hb); replace HO_8 := a_ (Kd.S_elder' z68_ (Kd.R_base ho0) hb); have HO247 := a_ (Kd.R_lower ho0 (below_size z31_)); replace HB := a_ (below_step z31_ hb); (try clear hb); (try clear hb2); (try clear hk); (try clear hi); (try clear ho0)) | ((with_reducible refine gate_builtin (b := .append) (xs := #[.tmp 73, .tmp 74]) rfl ?_); at_builtin; refine Kd.R_append_rows k102 (w0 := w) w.heap.size rfl (.tmp 73) (.tmp 74) 99 102 (.agg #[(.int .i64 0), (.int .i64 0), (.bool false), (.bool false)]) 24 rfl Try.underlying99 info102 rfl (by decide) (by omega) v246 t245 (rd_L4 (rd_L5 l0 x6_1) (ji21)) _ _ _ (fun _ => True) (fun _ => False) rfl rfl ?aO ?aR (fun _ _ h => h) (fun _ h => h.elim) ?aF ?aB ?aS ?aL ?_; (case aR => exact kc_ (Kd.C_below HR244_0.out HB.out)); (case aB => exact z31_); (case aF => exact (fun _ _ => trivial)); (case aO => exact (ra_ HO247.out)); (case aS => exact (below_size z31_)); (case aL => have := LMc25.out; omega); intro v249 w30 ho hb hg hat; rw [← Ny248.out] at ho; replace HO_5 := a_ (Kd.R_after (ok := (fun k_ => some k_ ≠ (u8 : Value).ownBlock)) (ra_ HO_5.out) hg hat); replace HO_8 := a_ (Kd.S_after (ok := (fun _ => True)) z68_ hg hat); replace HB := a_ (hb); have HO250 := a_ (ho); clear HO247; clear ho hb hg hat; obtain ⟨Ao32, co32, eo32⟩ := Kd.R_slice HO250.out; subst eo32) | ((with_reducible refine gate_builtin (b := .append) (xs := #[.tmp 71, .tmp 76]) rfl ?_); at_builtin; refine Kd.S_append (Kd.slice 102 k102) (w0 := w) w.heap.size rfl (.tmp 71) (.tmp 76) 121 99 (.slice none 0 0) 24 rfl Try.underlying121 info99 rfl (by decide) (by omega) u8 x8_2 y248 [.slice Ao32 y248.length co32] (fun _ => True) (fun k_ => some k_ = (.slice Ao32 y248.length co32 : Value).ownBlock) rfl rfl ?aP (fun k_ hk_ => ((Kd.R_mono (ok' := fun k_ => ((fun _ => True)) k_ ∧ some k_ ≠ (u8 : Value).ownBlock) (Kd.R_apart' (HO250.out) (Kd.S_typed HO_8.out) (by decide)) (fun k_ hk => ⟨trivial, hk.2⟩))).1 k_ hk_.symm) ?aF ?aO ?aB ?aS ?aL ?_; (case aP => exact Kd.M_row (Kd.R_mono (Kd.R_tight rfl (Kd.R_mono (ok' := fun k_ => ((fun _ => True)) k_ ∧ some k_ ≠ (u8 : Value).ownBlock) (Kd.R_apart' (HO250.out) (Kd.S_typed HO_8.out) (by decide)) (fun k_ hk => ⟨trivial, hk.2⟩))) (fun _ h_ => h_))); (case aB => exact z31_); (case aF => exact (fun _ _ => trivial)); (case aO => exact (by (with_reducible repeat (first | apply Kd.S_alloc | apply Kd.S_drewN | apply Kd.S_drew)); exact Kd.S_mono HO_8.out (fun k_ hk => ⟨trivial, fun e_ => hk.2 e_⟩))); (case aS => exact (below_size z31_)); (case aL => have := LMc26.out; omega); intro v252 w31 ho hb hg hat; rw [← Ny251.out] at ho; replace HO_5 := a_ (Kd.R_after (ok := (fun k_ => nb_ k_ Ao32 y248.length co32)) (rc_ (h := by exact Kd.R_mono HO_5.out (fun _ hk => ⟨hk.2, hk.1⟩))) hg hat); replace HB := a_ (hb); have HO253 := a_ (ho); clear HO250; clear HO_8; clear ho hb hg hat))
                     go_roundg k2
                     case measure => have := HK1.out; have := HK2.out; omega
                     case rel => exact ⟨(y251), (wrap64 (x9_2 + 1)), z81_, H', ⟨z83_⟩, ⟨z36_⟩, ⟨by (with_reducible repeat (first | apply Kd.S_alloc | apply Kd.S_drewN | apply Kd.S_drew)); exact HO253.out⟩, ⟨z31_⟩⟩
                    ·rw [if_neg c26] at H
                     exact absurd H (by simp)
                   ·rw [if_neg c25] at H
                    exact absurd H (by simp)
                  ·rw [if_neg c23] at H
                   exact absurd H (by simp)
                 ·rw [if_neg c22] at H
                  exact absurd H (by simp)
                ·rw [if_neg c20] at H
                 exact absurd H (by simp)
               ·rw [if_neg c19] at H
                exact absurd H (by simp)
              ·rw [if_neg c17] at H
               have c17b0 : (a1 == 76) = false := beq_eq_false_iff_ne.mpr c17
               have c17b1 : (a1 != 76) = true := bne_iff_ne.mpr c17
               replace H := Option.bind_eq_some_iff.mp H
               obtain ⟨t254, A330, H⟩ := H
               replace H : (if t254.length + (rd_L4 (rd_L5 l0 x6_1) x9_2).length < 5864062014805 then (if x8_2.length < 5864062014805 then (spec_l04Along.l1 k2 l0 a1 x5_1 x6_1 ((rd_L5 l0 x6_1).length : Int) (x8_2 ++ [(t254 ++ (rd_L4 (rd_L5 l0 x6_1) x9_2))]) (wrap64 (x9_2 + 1))) else (none)) else (none)) = some r := H
               have A33 := Aside0.mk A330
               clear A330
               by_cases c34 : t254.length + (rd_L4 (rd_L5 l0 x6_1) x9_2).length < 5864062014805
               ·rw [if_pos c34] at H
                have LMc34 := Aside0.mk c34
                clear c34
                obtain ⟨y257, hy257⟩ : ∃ y_ : List (S102), y_ = (t254 ++ (rd_L4 (rd_L5 l0 x6_1) x9_2)) := ⟨_, rfl⟩
                replace H : (if x8_2.length < 5864062014805 then (spec_l04Along.l1 k2 l0 a1 x5_1 x6_1 ((rd_L5 l0 x6_1).length : Int) (x8_2 ++ [y257]) (wrap64 (x9_2 + 1))) else (none)) = some r := rh_ hy257 H
                have Ny257 := Aside0.mk hy257
                clear hy257
                by_cases c35 : x8_2.length < 5864062014805
                ·rw [if_pos c35] at H
                 have LMc35 := Aside0.mk c35
                 clear c35
                 obtain ⟨y260, hy260⟩ : ∃ y_ : List (List (S102)), y_ = (x8_2 ++ [y257]) := ⟨_, rfl⟩
                 replace H : (spec_l04Along.l1 k2 l0 a1 x5_1 x6_1 ((rd_L5 l0 x6_1).length : Int) y260 (wrap64 (x9_2 + 1))) = some r := rh_ hy260 H
                 have Ny260 := Aside0.mk hy260
                 clear hy260
                 have H' := Aside0.mk H
                 clear H
                 try go_wp2
                 replace HO_5 := a_ (Kd.R_drew HO_5.out)
                 replace HO_8 := a_ (Kd.S_drew HO_8.out)
                 replace HB := a_ (below_drew1 HB.out)
                 have p237 : 0 ≤ (x6_1 : Int) := of_decide_eq_true z80_
                 have q237 : x6_1 < (l0.length : Int) := of_decide_eq_true z80_
                 obtain ⟨ad237, A237_0, c237_0, e237, hx237_0, hl237_0, hi237_0⟩ := at_L5 HR0.out x6_1 p237 q237
                 have hw237_0 := hx237_0
                 obtain rfl : ad233 = ad237 := (by injection e237)
                 replace hx237_0 := (HB.out.cell (World.block_lt_of_cell? _ _ hx237_0)).trans hx237_0
                 have HR237_0 := Aside0.mk hi237_0
                 have HC237_0 := Aside0.mk hl237_0
                 clear hi237_0 hl237_0
                 replace p237 := eq_true p237
                 replace q237 := eq_true q237
                 have p238 : 0 ≤ ((ji12) : Int) := of_decide_eq_true z80_
                 have q238 : (ji12) < ((rd_L5 l0 x6_1).length : Int) := of_decide_eq_true z80_
                 obtain ⟨ad238, A238_0, c238_0, e238, hx238_0, hl238_0, hi238_0⟩ := at_L4 HR237_0.out (ji12) p238 q238
                 have hw238_0 := hx238_0
                 cases e238
                 replace hx238_0 := (HB.out.cell (World.block_lt_of_cell? _ _ hx238_0)).trans hx238_0
                 have HR238_0 := Aside0.mk hi238_0
                 have HC238_0 := Aside0.mk hl238_0
                 clear hi238_0 hl238_0
                 replace p238 := eq_true p238
                 replace q238 := eq_true q238
                 have p239 : 0 ≤ (x6_1 : Int) := of_decide_eq_true z80_
                 have q239 : x6_1 < (l0.length : Int) := of_decide_eq_true z80_
                 obtain ⟨ad239, A239_0, c239_0, e239, hx239_0, hl239_0, hi239_0⟩ := at_L5 HR0.out x6_1 p239 q239
                 have hw239_0 := hx239_0
                 obtain rfl : ad233 = ad239 := (by injection e239)
                 replace hx239_0 := (HB.out.cell (World.block_lt_of_cell? _ _ hx239_0)).trans hx239_0
                 have HR239_0 := Aside0.mk hi239_0
                 have HC239_0 := Aside0.mk hl239_0
                 clear hi239_0 hl239_0
                 replace p239 := eq_true p239
                 replace q239 := eq_true q239
                 have ea_ := Option.some.inj (hx237_0.symm.trans hx239_0)
                 injection ea_ with ea_ en_ ec_
                 subst ea_
                 subst ec_
                 clear en_
                 have p240 : 0 ≤ (x9_2 : Int) := of_decide_eq_true z80_
                 have q240 : x9_2 < ((rd_L5 l0 x6_1).length : Int) := of_decide_eq_true z80_
                 obtain ⟨ad240, A240_0, c240_0, e240, hx240_0, hl240_0, hi240_0⟩ := at_L4 HR239_0.out x9_2 p240 q240
                 have hw240_0 := hx240_0
                 cases e240
                 replace hx240_0 := (HB.out.cell (World.block_lt_of_cell? _ _ hx240_0)).trans hx240_0
                 have HR240_0 := Aside0.mk hi240_0
                 have HC240_0 := Aside0.mk hl240_0
                 clear hi240_0 hl240_0
                 replace p240 := eq_true p240
                 replace q240 := eq_true q240
                 refine start_ (n := 19) (S := fun w' => w'.cell? (ad233.add (x6_1).toNat) = some (.slice (some ad238) (rd_L5 l0 x6_1).length c237_0) ∧ w'.cell? (ad238.add ((ji12)).toNat) = some (.slice A238_0 (rd_L4 (rd_L5 l0 x6_1) (ji12)).length c238_0) ∧ w'.cell? (ad233.add (x6_1).toNat) = some (.slice (some ad238) (rd_L5 l0 x6_1).length c237_0) ∧ w'.cell? (ad238.add (x9_2).toNat) = some (.slice A240_0 (rd_L4 (rd_L5 l0 x6_1) x9_2).length c240_0)) (ds := []) #[false, false, false, false, false, false, false, false, false, false, false, false, false, false, false, false, false, false, false] (by kernel_rfl) rfl rfl ⟨((HB.out.cell (World.block_lt_of_cell? _ _ hw237_0)).trans hw237_0), ((HB.out.cell (World.block_lt_of_cell? _ _ hw238_0)).trans hw238_0), ((HB.out.cell (World.block_lt_of_cell? _ _ hw239_0)).trans hw239_0), ((HB.out.cell (World.block_lt_of_cell? _ _ hw240_0)).trans hw240_0)⟩ (fun hHeld => ?_); refine with_tabW spec_l04Along.tab10 spec_l04Along.bits10 (fun HT_ HW_ => ?_)
                 generalize wr.drew = w36 at HO_5 HO_8 HB HR237_0 HR238_0 HR239_0 HR240_0 hx237_0 hx238_0 hx239_0 hx240_0 hHeld ⊢
                 refine pu_ (i := 0) (N := some 31) #[true, false, false, false, false, false, false, false, false, false, false, false, false, false, false, false, false, false, false] ?_
                 refine pu_ (i := 1) (N := some 32) #[true, true, false, false, false, false, false, false, false, false, false, false, false, false, false, false, false, false, false] ?_
                 refine pu_ (i := 2) (N := some 33) #[true, true, true, false, false, false, false, false, false, false, false, false, false, false, false, false, false, false, false] ?_
                 refine pu_ (i := 4) (N := some 35) #[true, true, true, false, true, false, false, false, false, false, false, false, false, false, false, false, false, false, false] ?_
                 refine pu_ (i := 5) (N := some 36) #[true, true, true, false, true, true, false, false, false, false, false, false, false, false, false, false, false, false, false] ?_
                 refine pu_ (i := 6) (N := some 37) #[true, true, true, false, true, true, true, false, false, false, false, false, false, false, false, false, false, false, false] ?_
                 refine pu_ (i := 7) (N := some 38) #[true, true, true, false, true, true, true, true, false, false, false, false, false, false, false, false, false, false, false] ?_
                 refine pu_ (i := 10) (N := some 41) #[true, true, true, false, true, true, true, true, false, false, true, false, false, false, false, false, false, false, false] ?_
                 refine pu_ (i := 11) (N := some 42) #[true, true, true, false, true, true, true, true, false, false, true, true, false, false, false, false, false, false, false] ?_
                 refine pu_ (i := 12) (N := some 43) #[true, true, true, false, true, true, true, true, false, false, true, true, true, false, false, false, false, false, false] ?_
                 refine pu_ (i := 14) (N := some 45) #[true, true, true, false, true, true, true, true, false, false, true, true, true, false, true, false, false, false, false] ?_
                 refine tk4_ (i := 3) (N := some 34) #[true, true, true, true, true, true, true, true, false, false, true, true, true, false, true, false, false, false, false] hHeld ?_
                 refine pu_ (i := 8) (N := some 39) #[true, true, true, true, true, true, true, true, true, false, true, true, true, false, true, false, false, false, false] ?_
                 refine tk4_ (i := 9) (N := some 40) #[true, true, true, true, true, true, true, true, true, true, true, true, true, false, true, false, false, false, false] hHeld ?_
                 refine pu_ (i := 17) (N := some 10) #[true, true, true, true, true, true, true, true, true, true, true, true, true, false, true, false, false, true, false] ?_
                 refine tk4_ (i := 13) (N := some 44) #[true, true, true, true, true, true, true, true, true, true, true, true, true, true, true, false, false, true, false] hHeld ?_
                 refine pu_ (i := 15) (N := some 46) #[true, true, true, true, true, true, true, true, true, true, true, true, true, true, true, true, false, true, false] ?_
                 refine tk4_ (i := 16) (N := some 47) #[true, true, true, true, true, true, true, true, true, true, true, true, true, true, true, true, true, true, false] hHeld ?_
                 refine pu_ (i := 18) (N := some 11) #[true, true, true, true, true, true, true, true, true, true, true, true, true, true, true, true, true, true, true] ?_
                 refine done_ (done_of HT_.out (by kernel_rfl)) ?_
                 try go_wp2_with (first | ((with_reducible refine gate_callee (f := 116) rfl ?_); refine goesL_ (some 73) rfl rfl Try.func116 (by kernel_rfl) rfl #[.slice A238_0 (rd_L4 (rd_L5 l0 x6_1) (ji12)).length c238_0, .bool true] rfl (by (try simp only [List.map_toArray, List.map_cons, List.map_nil]); first | done | (simp only [hji12]; rfl) | rfl | (simp only [List.length_drop, List.length_take]; rfl)) ?_; (with_reducible refine (spec_l04Turn.calls _ _ (rd_L4 (rd_L5 l0 x6_1) (ji12)) true t254 _ ?side1 ?side2 A33.out).mono ?_); (case side1 => exact kc_ (Kd.C_below HR238_0.out HB.out)); (case side2 => exact HC238_0.out); rintro e w37 ⟨v255, rfl, ho0, hb⟩; refine ⟨_, rfl, ?_⟩; replace HO_5 := a_ (Kd.R_elder' (ra_ HO_5.out) (Kd.R_base ho0) hb); replace HO_8 := a_ (Kd.S_elder' z68_ (Kd.R_base ho0) hb); have HO256 := a_ (Kd.R_lower ho0 (below_size z31_)); replace HB := a_ (below_step z31_ hb); (try clear hb); (try clear hb2); (try clear hk); (try clear hi); (try clear ho0)) | ((with_reducible refine gate_builtin (b := .append) (xs := #[.tmp 73, .tmp 74]) rfl ?_); at_builtin; refine Kd.R_append_rows k102 (w0 := w) w.heap.size rfl (.tmp 73) (.tmp 74) 99 102 (.agg #[(.int .i64 0), (.int .i64 0), (.bool false), (.bool false)]) 24 rfl Try.underlying99 info102 rfl (by decide) (by omega) v255 t254 (rd_L4 (rd_L5 l0 x6_1) x9_2) _ _ _ (fun _ => True) (fun _ => False) rfl rfl ?aO ?aR (fun _ _ h => h) (fun _ h => h.elim) ?aF ?aB ?aS ?aL ?_; (case aR => exact kc_ (Kd.C_below HR240_0.out HB.out)); (case aB => exact z31_); (case aF => exact (fun _ _ => trivial)); (case aO => exact (ra_ HO256.out)); (case aS => exact (below_size z31_)); (case aL => have := LMc34.out; omega); intro v258 w38 ho hb hg hat; rw [← Ny257.out] at ho; replace HO_5 := a_ (Kd.R_after (ok := (fun k_ => some k_ ≠ (u8 : Value).ownBlock)) (ra_ HO_5.out) hg hat); replace HO_8 := a_ (Kd.S_after (ok := (fun _ => True)) z68_ hg hat); replace HB := a_ (hb); have HO259 := a_ (ho); clear HO256; clear ho hb hg hat; obtain ⟨Ao40, co40, eo40⟩ := Kd.R_slice HO259.out; subst eo40) | ((with_reducible refine gate_builtin (b := .append) (xs := #[.tmp 71, .tmp 76]) rfl ?_); at_builtin; refine Kd.S_append (Kd.slice 102 k102) (w0 := w) w.heap.size rfl (.tmp 71) (.tmp 76) 121 99 (.slice none 0 0) 24 rfl Try.underlying121 info99 rfl (by decide) (by omega) u8 x8_2 y257 [.slice Ao40 y257.length co40] (fun _ => True) (fun k_ => some k_ = (.slice Ao40 y257.length co40 : Value).ownBlock) rfl rfl ?aP (fun k_ hk_ => ((Kd.R_mono (ok' := fun k_ => ((fun _ => True)) k_ ∧ some k_ ≠ (u8 : Value).ownBlock) (Kd.R_apart' (HO259.out) (Kd.S_typed HO_8.out) (by decide)) (fun k_ hk => ⟨trivial, hk.2⟩))).1 k_ hk_.symm) ?aF ?aO ?aB ?aS ?aL ?_; (case aP => exact Kd.M_row (Kd.R_mono (Kd.R_tight rfl (Kd.R_mono (ok' := fun k_ => ((fun _ => True)) k_ ∧ some k_ ≠ (u8 : Value).ownBlock) (Kd.R_apart' (HO259.out) (Kd.S_typed HO_8.out) (by decide)) (fun k_ hk => ⟨trivial, hk.2⟩))) (fun _ h_ => h_))); (case aB => exact z31_); (case aF => exact (fun _ _ => trivial)); (case aO => exact (by (with_reducible repeat (first | apply Kd.S_alloc | apply Kd.S_drewN | apply Kd.S_drew)); exact Kd.S_mono HO_8.out (fun k_ hk => ⟨trivial, fun e_ => hk.2 e_⟩))); (case aS => exact (below_size z31_)); (case aL => have := LMc35.out; omega); intro v261 w39 ho hb hg hat; rw [← Ny260.out] at ho; replace HO_5 := a_ (Kd.R_after (ok := (fun k_ => nb_ k_ Ao40 y257.length co40)) (rc_ (h := by exact Kd.R_mono HO_5.out (fun _ hk => ⟨hk.2, hk.1⟩))) hg hat); replace HB := a_ (hb); have HO262 := a_ (ho); clear HO259; clear HO_8; clear ho hb hg hat))
                 go_roundg k2
                 case measure => have := HK1.out; have := HK2.out; omega
                 case rel => exact ⟨(y260), (wrap64 (x9_2 + 1)), z81_, H', ⟨z83_⟩, ⟨z36_⟩, ⟨by (with_reducible repeat (first | apply Kd.S_alloc | apply Kd.S_drewN | apply Kd.S_drew)); exact HO262.out⟩, ⟨z31_⟩⟩
                ·rw [if_neg c35] at H
                 exact absurd H (by simp)
               ·rw [if_neg c34] at H
                exact absurd H (by simp)
             ·rw [if_neg c16] at H
              exact absurd H (by simp)
            ·rw [if_neg c15] at H
             exact absurd H (by simp)
           ·rw [if_neg c14] at H
            exact absurd H (by simp)
          ·rw [if_neg c13] at H
           exact absurd H (by simp)
         ·rw [if_neg c11] at H
          exact absurd H (by simp)
        ·rw [if_neg c10] at H
         exact absurd H (by simp)
       ·rw [if_neg c9] at H
        have c9b0 : decide (x9_2 < (wrap64 ((((rd_L5 l0 x6_1).length : Int) / 2)))) = false := decide_eq_false c9
        clear c9
        by_cases c41 : x5_1.length < 5864062014805
        ·rw [if_pos c41] at H
         have LMc41 := Aside0.mk c41
         clear c41
         obtain ⟨y263, hy263⟩ : ∃ y_ : List (List (List (S102))), y_ = (x5_1 ++ [x8_2]) := ⟨_, rfl⟩
         replace H : (spec_l04Along.l0 k2 l0 a1 y263 (wrap64 (x6_1 + 1))) = some r := rh_ hy263 H
         have Ny263 := Aside0.mk hy263
         clear hy263
         have H' := Aside0.mk H
         clear H
         obtain ⟨Ao43, co43, eo43⟩ := Kd.S_slice HO_8.out
         subst eo43
         go_wp2_with (first | ((with_reducible refine gate_builtin (b := .append) (xs := #[.tmp 78, .tmp 80]) rfl ?_); at_builtin; refine Kd.R_append (Kd.slice 99 (Kd.slice 102 k102)) (w0 := w) w.heap.size rfl (.tmp 78) (.tmp 80) 118 121 (.slice none 0 0) 24 rfl Try.underlying118 info121 rfl (by decide) (by omega) u5 x5_1 x8_2 [.slice Ao43 x8_2.length co43] (fun _ => True) (fun k_ => ((fun _ => True)) k_ ∧ some k_ ≠ (u5 : Value).ownBlock) rfl rfl ?aP (fun _ hk => hk) ?aF ?aO ?aB ?aS ?aL ?_; (case aP => exact Kd.M_row (Kd.R_mono (Kd.R_apart' ((Kd.S_R HO_8.out)) (Kd.R_typed HO_5.out) (by decide)) (fun k_ hk => ⟨trivial, hk.2⟩))); (case aB => exact z31_); (case aF => exact (fun _ _ => trivial)); (case aO => exact (rc_ (h := by exact Kd.R_mono HO_5.out (fun _ hk => trivial)))); (case aS => exact (below_size z31_)); (case aL => have := LMc41.out; omega); intro v264 w42 ho hb hg hat; rw [← Ny263.out] at ho; replace HB := a_ (hb); have HO265 := a_ (ho); clear HO_5; clear HO_8; clear ho hb hg hat))
         go_roundg k2
         case measure => have := HK1.out; have := HK2.out; omega
         case rel => exact ⟨(y263), (wrap64 (x6_1 + 1)), z81_, H', ⟨z83_⟩, ⟨by (with_reducible repeat (first | apply Kd.R_alloc | apply Kd.R_drewN | apply Kd.R_drew)); exact HO265.out⟩, ⟨z31_⟩⟩
        ·rw [if_neg c41] at H
         exact absurd H (by simp)
    ·rw [if_neg c6] at H
     exact absurd H (by simp)
   ·rw [if_neg c5] at H
    have c5b0 : decide (x6_1 < (l0.length : Int)) = false := decide_eq_false c5
    clear c5
    obtain rfl := Option.some.inj H
    go_wp2
    go_ret
    exact ⟨_, z32_, z67_, z31_⟩

end Go.Proofs.Ytkpidjmhdagkfaa.QFnExactSchemesFor
-- halved
