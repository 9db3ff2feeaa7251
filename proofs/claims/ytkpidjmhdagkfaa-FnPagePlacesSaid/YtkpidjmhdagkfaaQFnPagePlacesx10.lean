-- Written by own_print.py of this session's repo over the kit's print (its output, turned at some places).
import Derived.Test.YtkpidjmhdagkfaaQFnPagePlacesx0
import Derived.Test.YtkpidjmhdagkfaaQFnPagePlacesx9
namespace Go.Proofs.Ytkpidjmhdagkfaa.QFnPagePlaces
open Go.RowKit Go.Proofs.YtkpidjmhdagkfaaW.PrintWords Go.Proofs.YtkpidjmhdagkfaaW.PrintLast Go.Proofs.YtkpidjmhdagkfaaW.PrintMore
attribute [local go_sem] max2_int min2_int max_two min_two max_three min_three max_four min_four   -- for this text's walks alone
set_option linter.unusedVariables false
set_option linter.unusedSimpArgs false

/-! ### spec_l04Along: function 107 -/
mutual
def spec_l04Along.l0 : Nat → List (List (List (S102))) → Int → List (List (List (S102))) → Int → Option ((List (List (List (S102)))))
 | 0, _, _, _, _ => none
 | k + 1, x0, x1, x5, x6 => if x6 < (x0.length : Int) then (if 0 ≤ x6 then (spec_l04Along.l1 k x0 x1 x5 x6 ((rd_L6 x0 x6).length : Int) (([] : List (List (S102)))) 0) else (none)) else (some x5)
def spec_l04Along.l1 : Nat → List (List (List (S102))) → Int → List (List (List (S102))) → Int → Int → List (List (S102)) → Int → Option ((List (List (List (S102)))))
 | 0, _, _, _, _, _, _, _ => none
 | k + 1, x0, x1, x5, x6, x7, x8, x9 => if x9 < (wrap64 (Int.tdiv x7 2)) then (if 0 ≤ x6 then (if x6 < (x0.length : Int) then (if 0 ≤ (wrap64 ((wrap64 (x7 - 1)) - x9)) then (if (wrap64 ((wrap64 (x7 - 1)) - x9)) < ((rd_L6 x0 x6).length : Int) then (if 0 ≤ x9 then (if x9 < ((rd_L6 x0 x6).length : Int) then (if x1 = 76 then (if 0 ≤ (wrap64 ((wrap64 ((wrap64 (Int.tdiv x7 2)) - 1)) - x9)) then (if (wrap64 ((wrap64 ((wrap64 (Int.tdiv x7 2)) - 1)) - x9)) < ((rd_L6 x0 x6).length : Int) then (if 0 ≤ (wrap64 ((wrap64 (Int.tdiv x7 2)) + x9)) then (if (wrap64 ((wrap64 (Int.tdiv x7 2)) + x9)) < ((rd_L6 x0 x6).length : Int) then ((spec_l04Turn.f (rd_L5 (rd_L6 x0 x6) (wrap64 ((wrap64 ((wrap64 (Int.tdiv x7 2)) - 1)) - x9))) true).bind fun t302 => (if t302.length + (rd_L5 (rd_L6 x0 x6) (wrap64 ((wrap64 (Int.tdiv x7 2)) + x9))).length < 5864062014805 then (if x8.length < 5864062014805 then (spec_l04Along.l1 k x0 x1 x5 x6 x7 (x8 ++ [(t302 ++ (rd_L5 (rd_L6 x0 x6) (wrap64 ((wrap64 (Int.tdiv x7 2)) + x9))))]) (wrap64 (x9 + 1))) else (none)) else (none))) else (none)) else (none)) else (none)) else (none)) else ((spec_l04Turn.f (rd_L5 (rd_L6 x0 x6) (wrap64 ((wrap64 (x7 - 1)) - x9))) true).bind fun t311 => (if t311.length + (rd_L5 (rd_L6 x0 x6) x9).length < 5864062014805 then (if x8.length < 5864062014805 then (spec_l04Along.l1 k x0 x1 x5 x6 x7 (x8 ++ [(t311 ++ (rd_L5 (rd_L6 x0 x6) x9))]) (wrap64 (x9 + 1))) else (none)) else (none)))) else (none)) else (none)) else (none)) else (none)) else (none)) else (none)) else (if x5.length < 5864062014805 then (spec_l04Along.l0 k x0 x1 (x5 ++ [x8]) (wrap64 (x6 + 1))) else (none))
end
def spec_l04Along.f (k : Nat) (l0 : List (List (List (S102)))) (a1 : Int) : Option ((List (List (List (S102))))) := spec_l04Along.l0 k l0 a1 (([] : List (List (List (S102))))) 0
theorem spec_l04Along.mono_l : ∀ k, (∀ y0 y1 y2 y3, LeO (spec_l04Along.l0 k y0 y1 y2 y3) (spec_l04Along.l0 (k + 1) y0 y1 y2 y3)) ∧ (∀ y0 y1 y2 y3 y4 y5 y6, LeO (spec_l04Along.l1 k y0 y1 y2 y3 y4 y5 y6) (spec_l04Along.l1 (k + 1) y0 y1 y2 y3 y4 y5 y6))
 | 0 => ⟨fun _ _ _ _ r h => by simp [spec_l04Along.l0] at h, fun _ _ _ _ _ _ _ r h => by simp [spec_l04Along.l1] at h⟩
 | k + 1 => by
  obtain ⟨ih0, ih1⟩ := spec_l04Along.mono_l k
  refine ⟨?_, ?_⟩
  ·intro y0 y1 y2 y3
   unfold spec_l04Along.l0
   repeat' first
   | (with_reducible exact ih0 _ _ _ _)
   | (with_reducible exact ih1 _ _ _ _ _ _ _)
   | (with_reducible exact LeO.refl _)
   | (with_reducible exact LeO.none _)
   | (with_reducible refine LeO.ite ?_ ?_)
   | (with_reducible refine LeO.bind ?_ (fun _ => ?_))
   | exact ih0 _ _ _ _
   | exact ih1 _ _ _ _ _ _ _
   | exact LeO.none _
   | refine LeO.ite ?_ ?_
   | refine LeO.bind ?_ (fun _ => ?_)
  ·intro y0 y1 y2 y3 y4 y5 y6
   unfold spec_l04Along.l1
   repeat' first
   | (with_reducible exact ih0 _ _ _ _)
   | (with_reducible exact ih1 _ _ _ _ _ _ _)
   | (with_reducible exact LeO.refl _)
   | (with_reducible exact LeO.none _)
   | (with_reducible refine LeO.ite ?_ ?_)
   | (with_reducible refine LeO.bind ?_ (fun _ => ?_))
   | exact ih0 _ _ _ _
   | exact ih1 _ _ _ _ _ _ _
   | exact LeO.none _
   | refine LeO.ite ?_ ?_
   | refine LeO.bind ?_ (fun _ => ?_)
theorem spec_l04Along.mono : ∀ a0 a1 k, LeO (spec_l04Along.f k a0 a1) (spec_l04Along.f (k + 1) a0 a1) := by
 intro a0 a1 k
 obtain ⟨ih0, ih1⟩ := spec_l04Along.mono_l k
 unfold spec_l04Along.f
 repeat' first
   | (with_reducible exact ih0 _ _ _ _)
   | (with_reducible exact ih1 _ _ _ _ _ _ _)
   | (with_reducible exact LeO.refl _)
   | (with_reducible exact LeO.none _)
   | (with_reducible refine LeO.ite ?_ ?_)
   | (with_reducible refine LeO.bind ?_ (fun _ => ?_))
   | exact ih0 _ _ _ _
   | exact ih1 _ _ _ _ _ _ _
   | exact LeO.none _
   | refine LeO.ite ?_ ?_
   | refine LeO.bind ?_ (fun _ => ?_)
def spec_l04Along.T10 : Bool × List (List Nat × List Nat) := (true, [([], []), ([], []), ([0, 1], [0, 1]), ([2], [2]), ([], []), ([4], [4]), ([], []), ([5, 6], [5, 6]), ([3, 7], [3, 7]), ([8], [8]), ([], []), ([], []), ([10, 11], [10, 11]), ([12], [12]), ([], []), ([13, 14], [13, 14]), ([15], [15]), ([9, 0, 1, 2, 3, 4, 5, 6, 7, 8, 9], [9]), ([16, 17, 0, 1, 2, 3, 4, 5, 6, 7, 8, 9, 10, 11, 12, 13, 14, 15, 16, 17], [16])])
def spec_l04Along.B10 : List Nat := [0, 0, 3, 7, 0, 16, 0, 112, 255, 511, 0, 0, 3072, 7168, 0, 31744, 64512, 1023, 262143]
theorem spec_l04Along.tab10 : rtab .any (opsOf Try.f107 10) = spec_l04Along.T10 := by kernel_rfl
theorem spec_l04Along.bits10 : waitsOk spec_l04Along.T10.2 spec_l04Along.B10 = true := by kernel_rfl
def spec_l04Along.T12 : Bool × List (List Nat × List Nat) := (true, [([], []), ([], []), ([0, 1], [0, 1]), ([2], [2]), ([], []), ([4], [4]), ([5], [5]), ([], []), ([6, 7], [6, 7]), ([3, 8], [3, 8]), ([9], [9]), ([], []), ([], []), ([11, 12], [11, 12]), ([13], [13]), ([], []), ([15], [15]), ([], []), ([16, 17], [16, 17]), ([14, 18], [14, 18]), ([19], [19]), ([10, 0, 1, 2, 3, 4, 5, 6, 7, 8, 9, 10], [10]), ([20, 21, 0, 1, 2, 3, 4, 5, 6, 7, 8, 9, 10, 11, 12, 13, 14, 15, 16, 17, 18, 19, 20, 21], [20])])
def spec_l04Along.B12 : List Nat := [0, 0, 3, 7, 0, 16, 48, 0, 240, 511, 1023, 0, 0, 6144, 14336, 0, 32768, 0, 229376, 522240, 1046528, 2047, 4194303]
theorem spec_l04Along.tab12 : rtab .any (opsOf Try.f107 12) = spec_l04Along.T12 := by kernel_rfl
theorem spec_l04Along.bits12 : waitsOk spec_l04Along.T12.2 spec_l04Along.B12 = true := by kernel_rfl
set_option maxHeartbeats 8000000 in
set_option maxRecDepth 100000 in
theorem spec_l04Along.calls (k : Nat) (A0 : Option Addr) (c0 : Nat) (l0 : List (List (List (S102)))) (a1 : Int) (r : List (List (List (S102)))) (w : World) (hr0 : Kd.C (Kd.slice 99 (Kd.slice 102 k102)) w A0 l0.length l0) (hc0 : l0.length ≤ c0) (h : spec_l04Along.f k l0 a1 = some r) :
  Calls Try.prog 107 #[.slice A0 l0.length c0, .int .u8 a1] w fun e w' => ∃ v0_ : Value, e = .returned (v0_) ∧ Kd.R (Kd.slice 99 (Kd.slice 102 k102)) 121 w' w.heap.size (fun _ => True) v0_ r ∧ Below w.heap.size w w' := by
 have HR0 := Aside0.mk hr0
 have HC0 := Aside0.mk hc0
 clear hr0 hc0
 have HB := a_ (Below.refl w.heap.size w)
 have H : (spec_l04Along.l0 k l0 a1 (([] : List (List (List (S102))))) 0) = some r := h
 clear h
 obtain ⟨y287, hy287⟩ : ∃ y_ : List (List (List (S102))), y_ = (([] : List (List (List (S102))))) := ⟨_, rfl⟩
 replace H : (spec_l04Along.l0 k l0 a1 y287 0) = some r := rh_ hy287 H
 have Ny287 := Aside0.mk hy287
 clear hy287
 have H' := Aside0.mk H
 clear H
 go_enter Try.func107, Try.ntmps107
 go_wp2_with (first | ((with_reducible refine gate_dst (N := 12) rfl ?_); refine Kd.R_lit (Kd.slice 99 (Kd.slice 102 k102)) _ 121 ?hg (N := 12) ?hd (xs := ([] : List (List (List (S102))))) (inner := []) (ok := fun _ => True) (okp := fun _ => True) ?hr ?hp (fun _ hk => hk) trivial (Below.refl _ _) (Nat.le_refl _) (by simp) ?_; (case hd => rfl); (case hg => rfl); (case hr => first | (go_simp; done) | (go_simp; rfl)); (case hp => exact (Reps.none _ _)); intro v288 w3 ho4 hb hg_ hnew_; clear hg_ hnew_; (first | rw [← Ny287.out] at ho4 | (simp only [Int.reduceToNat] at ho4; rw [← Ny287.out] at ho4)); have HO289 := a_ (Kd.R_lower ho4 (below_size z54_)); replace HB := a_ (below_step z54_ hb); clear hb ho4))
 go_loopg [5, 6] k (fun kq v5 v6 w' => ∃ (x5_1 : List (List (List (S102)))) (x6_1 : Int), v6 = .int .i64 x6_1 ∧ Aside0 (spec_l04Along.l0 kq l0 a1 x5_1 x6_1 = some r) ∧ Aside0 (kq ≤ k) ∧ Aside0 (Kd.R (Kd.slice 99 (Kd.slice 102 k102)) 121 w' w.heap.size (fun _ => True) v5 x5_1) ∧ Aside0 (Below w.heap.size w w'))
 case atStart => exact ⟨(y287), (0), z91_, H', ⟨Nat.le_refl _⟩, ⟨by (with_reducible repeat (first | apply Kd.R_alloc | apply Kd.R_drewN | apply Kd.R_drew)); exact HO289.out⟩, ⟨z54_⟩⟩
 case round =>
  clear H'
  obtain ⟨x5_1, x6_1, rfl, HA, HK1, HO_5, HB⟩ := hrel
  cases gk with
  | zero => exact absurd HA.out (by simp [spec_l04Along.l0])
  | succ k1 =>
   have H := HA.out
   clear HA
   simp only [spec_l04Along.l0] at H
   by_cases c5 : x6_1 < (l0.length : Int)
   ·rw [if_pos c5] at H
    have c5b0 : decide (x6_1 < (l0.length : Int)) = true := decide_eq_true c5
    clear c5
    by_cases c6 : 0 ≤ x6_1
    ·rw [if_pos c6] at H
     have c6b0 : decide (0 ≤ x6_1) = true := decide_eq_true c6
     clear c6
     obtain ⟨y291, hy291⟩ : ∃ y_ : List (List (S102)), y_ = (([] : List (List (S102)))) := ⟨_, rfl⟩
     replace H : (spec_l04Along.l1 k1 l0 a1 x5_1 x6_1 ((rd_L6 l0 x6_1).length : Int) y291 0) = some r := rh_ hy291 H
     have Ny291 := Aside0.mk hy291
     clear hy291
     have H' := Aside0.mk H
     clear H
     have p290 : 0 ≤ (x6_1 : Int) := of_decide_eq_true z90_
     have q290 : x6_1 < (l0.length : Int) := of_decide_eq_true z90_
     obtain ⟨ad290, A290_0, c290_0, e290, hx290_0, hl290_0, hi290_0⟩ := at_L6 HR0.out x6_1 p290 q290
     cases e290
     replace hx290_0 := (HB.out.cell (World.block_lt_of_cell? _ _ hx290_0)).trans hx290_0
     have HR290_0 := Aside0.mk hi290_0
     have HC290_0 := Aside0.mk hl290_0
     clear hi290_0 hl290_0
     replace p290 := eq_true p290
     replace q290 := eq_true q290
     go_wp2_with (first | ((with_reducible refine gate_dst (N := 24) rfl ?_); refine Kd.S_lit (Kd.slice 102 k102) _ 99 ?hg (N := 24) ?hd (xs := ([] : List (List (S102)))) (inner := []) (ok := fun _ => True) (okp := fun _ => True) ?hr ?hp (fun _ hk => hk) trivial (Below.refl _ _) (Nat.le_refl _) (by simp) ?_; (case hd => rfl); (case hg => rfl); (case hr => first | (go_simp; done) | (go_simp; rfl)); (case hp => exact (Reps.none _ _)); intro v292 w7 ho8 hb hg_ hnew_; clear hg_ hnew_; (first | rw [← Ny291.out] at ho8 | (simp only [Int.reduceToNat] at ho8; rw [← Ny291.out] at ho8)); replace HO_5 := a_ (Kd.R_elder' (ra_ HO_5.out) (Kd.S_base ho8) hb); have HO293 := a_ (Kd.S_lower ho8 (below_size z54_)); replace HB := a_ (below_step z54_ hb); clear hb ho8))
     go_loopg [8, 9] k1 (fun kq v8 v9 w' => ∃ (x8_2 : List (List (S102))) (x9_2 : Int), v9 = .int .i64 x9_2 ∧ Aside0 (spec_l04Along.l1 kq l0 a1 x5_1 x6_1 ((rd_L6 l0 x6_1).length : Int) x8_2 x9_2 = some r) ∧ Aside0 (kq ≤ k1) ∧ Aside0 (Kd.R (Kd.slice 99 (Kd.slice 102 k102)) 121 w' w.heap.size (fun k_ => some k_ ≠ (v8 : Value).ownBlock) u5 x5_1) ∧ Aside0 (Kd.S (Kd.slice 102 k102) 99 w' w.heap.size (fun _ => True) v8 x8_2) ∧ Aside0 (Below w.heap.size w w'))
     case atStart => exact ⟨(y291), (0), z91_, H', ⟨Nat.le_refl _⟩, ⟨z58_⟩, ⟨by (with_reducible repeat (first | apply Kd.S_alloc | apply Kd.S_drewN | apply Kd.S_drew)); exact HO293.out⟩, ⟨z54_⟩⟩
     case round =>
      clear H'
      try clear c5b0; try clear c6b0; try clear hx290_0; try clear p290; try clear q290
      obtain ⟨x8_2, x9_2, rfl, HA, HK2, HO_5, HO_8, HB⟩ := hrel
      cases gk with
      | zero => exact absurd HA.out (by simp [spec_l04Along.l1])
      | succ k2 =>
       have H := HA.out
       clear HA
       simp only [spec_l04Along.l1] at H
       (try simp only [show ∀ (n_ : Nat) (k_ : Int), Int.tdiv (n_ : Int) k_ = (n_ : Int) / k_ from fun n_ k_ => Int.tdiv_eq_ediv_of_nonneg (Int.natCast_nonneg n_), show ∀ (n_ : Nat) (k_ : Int), Int.tmod (n_ : Int) k_ = (n_ : Int) % k_ from fun n_ k_ => Int.tmod_eq_emod_of_nonneg (Int.natCast_nonneg n_)] at H)
       by_cases c9 : x9_2 < (wrap64 ((((rd_L6 l0 x6_1).length : Int) / 2)))
       ·rw [if_pos c9] at H
        have c9b0 : decide (x9_2 < (wrap64 ((((rd_L6 l0 x6_1).length : Int) / 2)))) = true := decide_eq_true c9
        clear c9
        by_cases c10 : 0 ≤ x6_1
        ·rw [if_pos c10] at H
         have c10b0 : decide (0 ≤ x6_1) = true := decide_eq_true c10
         clear c10
         by_cases c11 : x6_1 < (l0.length : Int)
         ·rw [if_pos c11] at H
          have c11b0 : decide (x6_1 < (l0.length : Int)) = true := decide_eq_true c11
          clear c11
          obtain ⟨ji12, hji12⟩ : ∃ j_ : Int, (wrap64 ((wrap64 (((rd_L6 l0 x6_1).length : Int) - 1)) - x9_2)) = j_ := ⟨_, rfl⟩
          replace H : (if 0 ≤ (ji12) then (if (ji12) < ((rd_L6 l0 x6_1).length : Int) then (if 0 ≤ x9_2 then (if x9_2 < ((rd_L6 l0 x6_1).length : Int) then (if a1 = 76 then (if 0 ≤ (wrap64 ((wrap64 ((wrap64 ((((rd_L6 l0 x6_1).length : Int) / 2))) - 1)) - x9_2)) then (if (wrap64 ((wrap64 ((wrap64 ((((rd_L6 l0 x6_1).length : Int) / 2))) - 1)) - x9_2)) < ((rd_L6 l0 x6_1).length : Int) then (if 0 ≤ (wrap64 ((wrap64 ((((rd_L6 l0 x6_1).length : Int) / 2))) + x9_2)) then (if (wrap64 ((wrap64 ((((rd_L6 l0 x6_1).length : Int) / 2))) + x9_2)) < ((rd_L6 l0 x6_1).length : Int) then ((spec_l04Turn.f (rd_L5 (rd_L6 l0 x6_1) (wrap64 ((wrap64 ((wrap64 ((((rd_L6 l0 x6_1).length : Int) / 2))) - 1)) - x9_2))) true).bind fun t302 => (if t302.length + (rd_L5 (rd_L6 l0 x6_1) (wrap64 ((wrap64 ((((rd_L6 l0 x6_1).length : Int) / 2))) + x9_2))).length < 5864062014805 then (if x8_2.length < 5864062014805 then (spec_l04Along.l1 k2 l0 a1 x5_1 x6_1 ((rd_L6 l0 x6_1).length : Int) (x8_2 ++ [(t302 ++ (rd_L5 (rd_L6 l0 x6_1) (wrap64 ((wrap64 ((((rd_L6 l0 x6_1).length : Int) / 2))) + x9_2))))]) (wrap64 (x9_2 + 1))) else (none)) else (none))) else (none)) else (none)) else (none)) else (none)) else ((spec_l04Turn.f (rd_L5 (rd_L6 l0 x6_1) (ji12)) true).bind fun t311 => (if t311.length + (rd_L5 (rd_L6 l0 x6_1) x9_2).length < 5864062014805 then (if x8_2.length < 5864062014805 then (spec_l04Along.l1 k2 l0 a1 x5_1 x6_1 ((rd_L6 l0 x6_1).length : Int) (x8_2 ++ [(t311 ++ (rd_L5 (rd_L6 l0 x6_1) x9_2))]) (wrap64 (x9_2 + 1))) else (none)) else (none)))) else (none)) else (none)) else (none)) else (none)) = some r := by first | (rw [hji12] at H; exact H) | (simp only [hji12] at H ⊢; exact H)
          have hji12w : (IntKind.i64.wrap ((wrap64 (((rd_L6 l0 x6_1).length : Int) - 1)) - x9_2)) = ji12 := (i64_w _).trans hji12
          by_cases c13 : 0 ≤ (ji12)
          ·rw [if_pos c13] at H
           have c13b0 : decide (0 ≤ (ji12)) = true := decide_eq_true c13
           clear c13
           by_cases c14 : (ji12) < ((rd_L6 l0 x6_1).length : Int)
           ·rw [if_pos c14] at H
            have c14b0 : decide ((ji12) < ((rd_L6 l0 x6_1).length : Int)) = true := decide_eq_true c14
            clear c14
            by_cases c15 : 0 ≤ x9_2
            ·rw [if_pos c15] at H
             have c15b0 : decide (0 ≤ x9_2) = true := decide_eq_true c15
             clear c15
             by_cases c16 : x9_2 < ((rd_L6 l0 x6_1).length : Int)
             ·rw [if_pos c16] at H
              have c16b0 : decide (x9_2 < ((rd_L6 l0 x6_1).length : Int)) = true := decide_eq_true c16
              clear c16
              by_cases c17 : a1 = 76
              ·rw [if_pos c17] at H
               have c17b0 : (a1 == 76) = true := beq_iff_eq.mpr c17
               have c17b1 : (a1 != 76) = false := bne_eq_false_iff_eq.mpr c17
               clear c17
               obtain ⟨ji18, hji18⟩ : ∃ j_ : Int, (wrap64 ((wrap64 ((wrap64 ((((rd_L6 l0 x6_1).length : Int) / 2))) - 1)) - x9_2)) = j_ := ⟨_, rfl⟩
               replace H : (if 0 ≤ (ji18) then (if (ji18) < ((rd_L6 l0 x6_1).length : Int) then (if 0 ≤ (wrap64 ((wrap64 ((((rd_L6 l0 x6_1).length : Int) / 2))) + x9_2)) then (if (wrap64 ((wrap64 ((((rd_L6 l0 x6_1).length : Int) / 2))) + x9_2)) < ((rd_L6 l0 x6_1).length : Int) then ((spec_l04Turn.f (rd_L5 (rd_L6 l0 x6_1) (ji18)) true).bind fun t302 => (if t302.length + (rd_L5 (rd_L6 l0 x6_1) (wrap64 ((wrap64 ((((rd_L6 l0 x6_1).length : Int) / 2))) + x9_2))).length < 5864062014805 then (if x8_2.length < 5864062014805 then (spec_l04Along.l1 k2 l0 a1 x5_1 x6_1 ((rd_L6 l0 x6_1).length : Int) (x8_2 ++ [(t302 ++ (rd_L5 (rd_L6 l0 x6_1) (wrap64 ((wrap64 ((((rd_L6 l0 x6_1).length : Int) / 2))) + x9_2))))]) (wrap64 (x9_2 + 1))) else (none)) else (none))) else (none)) else (none)) else (none)) else (none)) = some r := by first | (rw [hji18] at H; exact H) | (simp only [hji18] at H ⊢; exact H)
               have hji18w : (IntKind.i64.wrap ((wrap64 ((wrap64 ((((rd_L6 l0 x6_1).length : Int) / 2))) - 1)) - x9_2)) = ji18 := (i64_w _).trans hji18
               by_cases c19 : 0 ≤ (ji18)
               ·rw [if_pos c19] at H
                have c19b0 : decide (0 ≤ (ji18)) = true := decide_eq_true c19
                clear c19
                by_cases c20 : (ji18) < ((rd_L6 l0 x6_1).length : Int)
                ·rw [if_pos c20] at H
                 have c20b0 : decide ((ji18) < ((rd_L6 l0 x6_1).length : Int)) = true := decide_eq_true c20
                 clear c20
                 obtain ⟨ji21, hji21⟩ : ∃ j_ : Int, (wrap64 ((wrap64 ((((rd_L6 l0 x6_1).length : Int) / 2))) + x9_2)) = j_ := ⟨_, rfl⟩
                 replace H : (if 0 ≤ (ji21) then (if (ji21) < ((rd_L6 l0 x6_1).length : Int) then ((spec_l04Turn.f (rd_L5 (rd_L6 l0 x6_1) (ji18)) true).bind fun t302 => (if t302.length + (rd_L5 (rd_L6 l0 x6_1) (ji21)).length < 5864062014805 then (if x8_2.length < 5864062014805 then (spec_l04Along.l1 k2 l0 a1 x5_1 x6_1 ((rd_L6 l0 x6_1).length : Int) (x8_2 ++ [(t302 ++ (rd_L5 (rd_L6 l0 x6_1) (ji21)))]) (wrap64 (x9_2 + 1))) else (none)) else (none))) else (none)) else (none)) = some r := by first | (rw [hji21] at H; exact H) | (simp only [hji21] at H ⊢; exact H)
                 have hji21w : (IntKind.i64.wrap ((wrap64 ((((rd_L6 l0 x6_1).length : Int) / 2))) + x9_2)) = ji21 := (i64_w _).trans hji21
                 by_cases c22 : 0 ≤ (ji21)
                 ·rw [if_pos c22] at H
                  have c22b0 : decide (0 ≤ (ji21)) = true := decide_eq_true c22
                  clear c22
                  by_cases c23 : (ji21) < ((rd_L6 l0 x6_1).length : Int)
                  ·rw [if_pos c23] at H
                   have c23b0 : decide ((ji21) < ((rd_L6 l0 x6_1).length : Int)) = true := decide_eq_true c23
                   clear c23
                   replace H := Option.bind_eq_some_iff.mp H
                   obtain ⟨t302, A240, H⟩ := H
                   replace H : (if t302.length + (rd_L5 (rd_L6 l0 x6_1) (ji21)).length < 5864062014805 then (if x8_2.length < 5864062014805 then (spec_l04Along.l1 k2 l0 a1 x5_1 x6_1 ((rd_L6 l0 x6_1).length : Int) (x8_2 ++ [(t302 ++ (rd_L5 (rd_L6 l0 x6_1) (ji21)))]) (wrap64 (x9_2 + 1))) else (none)) else (none)) = some r := H
                   have A24 := Aside0.mk A240
                   clear A240
                   by_cases c25 : t302.length + (rd_L5 (rd_L6 l0 x6_1) (ji21)).length < 5864062014805
                   ·rw [if_pos c25] at H
                    have LMc25 := Aside0.mk c25
                    clear c25
                    obtain ⟨y305, hy305⟩ : ∃ y_ : List (S102), y_ = (t302 ++ (rd_L5 (rd_L6 l0 x6_1) (ji21))) := ⟨_, rfl⟩
                    replace H : (if x8_2.length < 5864062014805 then (spec_l04Along.l1 k2 l0 a1 x5_1 x6_1 ((rd_L6 l0 x6_1).length : Int) (x8_2 ++ [y305]) (wrap64 (x9_2 + 1))) else (none)) = some r := rh_ hy305 H
                    have Ny305 := Aside0.mk hy305
                    clear hy305
                    by_cases c26 : x8_2.length < 5864062014805
                    ·rw [if_pos c26] at H
                     have LMc26 := Aside0.mk c26
                     clear c26
                     obtain ⟨y308, hy308⟩ : ∃ y_ : List (List (S102)), y_ = (x8_2 ++ [y305]) := ⟨_, rfl⟩
                     replace H : (spec_l04Along.l1 k2 l0 a1 x5_1 x6_1 ((rd_L6 l0 x6_1).length : Int) y308 (wrap64 (x9_2 + 1))) = some r := rh_ hy308 H
                     have Ny308 := Aside0.mk hy308
                     clear hy308
                     have H' := Aside0.mk H
                     clear H
                     try go_wp2
                     replace HO_5 := a_ (Kd.R_drew HO_5.out)
                     replace HO_8 := a_ (Kd.S_drew HO_8.out)
                     replace HB := a_ (below_drew1 HB.out)
                     have p294 : 0 ≤ (x6_1 : Int) := of_decide_eq_true z90_
                     have q294 : x6_1 < (l0.length : Int) := of_decide_eq_true z90_
                     obtain ⟨ad294, A294_0, c294_0, e294, hx294_0, hl294_0, hi294_0⟩ := at_L6 HR0.out x6_1 p294 q294
                     have hw294_0 := hx294_0
                     obtain rfl : ad290 = ad294 := (by injection e294)
                     replace hx294_0 := (HB.out.cell (World.block_lt_of_cell? _ _ hx294_0)).trans hx294_0
                     have HR294_0 := Aside0.mk hi294_0
                     have HC294_0 := Aside0.mk hl294_0
                     clear hi294_0 hl294_0
                     replace p294 := eq_true p294
                     replace q294 := eq_true q294
                     have p295 : 0 ≤ ((ji12) : Int) := of_decide_eq_true z90_
                     have q295 : (ji12) < ((rd_L6 l0 x6_1).length : Int) := of_decide_eq_true z90_
                     obtain ⟨ad295, A295_0, c295_0, e295, hx295_0, hl295_0, hi295_0⟩ := at_L5 HR294_0.out (ji12) p295 q295
                     have hw295_0 := hx295_0
                     cases e295
                     replace hx295_0 := (HB.out.cell (World.block_lt_of_cell? _ _ hx295_0)).trans hx295_0
                     have HR295_0 := Aside0.mk hi295_0
                     have HC295_0 := Aside0.mk hl295_0
                     clear hi295_0 hl295_0
                     replace p295 := eq_true p295
                     replace q295 := eq_true q295
                     have p296 : 0 ≤ (x6_1 : Int) := of_decide_eq_true z90_
                     have q296 : x6_1 < (l0.length : Int) := of_decide_eq_true z90_
                     obtain ⟨ad296, A296_0, c296_0, e296, hx296_0, hl296_0, hi296_0⟩ := at_L6 HR0.out x6_1 p296 q296
                     have hw296_0 := hx296_0
                     obtain rfl : ad290 = ad296 := (by injection e296)
                     replace hx296_0 := (HB.out.cell (World.block_lt_of_cell? _ _ hx296_0)).trans hx296_0
                     have HR296_0 := Aside0.mk hi296_0
                     have HC296_0 := Aside0.mk hl296_0
                     clear hi296_0 hl296_0
                     replace p296 := eq_true p296
                     replace q296 := eq_true q296
                     have ea_ := Option.some.inj (hx294_0.symm.trans hx296_0)
                     injection ea_ with ea_ en_ ec_
                     subst ea_
                     subst ec_
                     clear en_
                     have p297 : 0 ≤ (x9_2 : Int) := of_decide_eq_true z90_
                     have q297 : x9_2 < ((rd_L6 l0 x6_1).length : Int) := of_decide_eq_true z90_
                     obtain ⟨ad297, A297_0, c297_0, e297, hx297_0, hl297_0, hi297_0⟩ := at_L5 HR296_0.out x9_2 p297 q297
                     have hw297_0 := hx297_0
                     cases e297
                     replace hx297_0 := (HB.out.cell (World.block_lt_of_cell? _ _ hx297_0)).trans hx297_0
                     have HR297_0 := Aside0.mk hi297_0
                     have HC297_0 := Aside0.mk hl297_0
                     clear hi297_0 hl297_0
                     replace p297 := eq_true p297
                     replace q297 := eq_true q297
                     refine start_ (n := 19) (S := fun w' => w'.cell? (ad290.add (x6_1).toNat) = some (.slice (some ad295) (rd_L6 l0 x6_1).length c294_0) ∧ w'.cell? (ad295.add ((ji12)).toNat) = some (.slice A295_0 (rd_L5 (rd_L6 l0 x6_1) (ji12)).length c295_0) ∧ w'.cell? (ad290.add (x6_1).toNat) = some (.slice (some ad295) (rd_L6 l0 x6_1).length c294_0) ∧ w'.cell? (ad295.add (x9_2).toNat) = some (.slice A297_0 (rd_L5 (rd_L6 l0 x6_1) x9_2).length c297_0)) (ds := []) #[false, false, false, false, false, false, false, false, false, false, false, false, false, false, false, false, false, false, false] (by kernel_rfl) rfl rfl ⟨((HB.out.cell (World.block_lt_of_cell? _ _ hw294_0)).trans hw294_0), ((HB.out.cell (World.block_lt_of_cell? _ _ hw295_0)).trans hw295_0), ((HB.out.cell (World.block_lt_of_cell? _ _ hw296_0)).trans hw296_0), ((HB.out.cell (World.block_lt_of_cell? _ _ hw297_0)).trans hw297_0)⟩ (fun hHeld => ?_); refine with_tabW spec_l04Along.tab10 spec_l04Along.bits10 (fun HT_ HW_ => ?_)
                     generalize wr.drew = w27 at HO_5 HO_8 HB HR294_0 HR295_0 HR296_0 HR297_0 hx294_0 hx295_0 hx296_0 hx297_0 hHeld ⊢
                     refine pu_ (i := 0) (N := some 31) (bs_ 19 1) ?_
                     refine pu_ (i := 1) (N := some 32) (bs_ 19 3) ?_
                     refine pu_ (i := 2) (N := some 33) (bs_ 19 7) ?_
                     refine pu_ (i := 4) (N := some 35) (bs_ 19 23) ?_
                     refine pu_ (i := 5) (N := some 36) (bs_ 19 55) ?_
                     refine pu_ (i := 6) (N := some 37) (bs_ 19 119) ?_
                     refine pu_ (i := 7) (N := some 38) (bs_ 19 247) ?_
                     refine pu_ (i := 10) (N := some 41) (bs_ 19 1271) ?_
                     refine pu_ (i := 11) (N := some 42) (bs_ 19 3319) ?_
                     refine pu_ (i := 12) (N := some 43) (bs_ 19 7415) ?_
                     refine pu_ (i := 14) (N := some 45) (bs_ 19 23799) ?_
                     refine tk4_ (i := 3) (N := some 34) (bs_ 19 23807) hHeld ?_
                     refine pu_ (i := 8) (N := some 39) (bs_ 19 24063) ?_
                     refine tk4_ (i := 9) (N := some 40) (bs_ 19 24575) hHeld ?_
                     refine pu_ (i := 17) (N := some 10) (bs_ 19 155647) ?_
                     refine tk4_ (i := 13) (N := some 44) (bs_ 19 163839) hHeld ?_
                     refine pu_ (i := 15) (N := some 46) (bs_ 19 196607) ?_
                     refine tk4_ (i := 16) (N := some 47) (bs_ 19 262143) hHeld ?_
                     refine pu_ (i := 18) (N := some 11) (bs_ 19 524287) ?_
                     refine done_ (done_of HT_.out (by kernel_rfl)) ?_
                     try go_wp2
                     replace HO_5 := a_ (Kd.R_drew HO_5.out)
                     replace HO_8 := a_ (Kd.S_drew HO_8.out)
                     replace HB := a_ (below_drew1 HB.out)
                     have p298 : 0 ≤ (x6_1 : Int) := of_decide_eq_true z90_
                     have q298 : x6_1 < (l0.length : Int) := of_decide_eq_true z90_
                     obtain ⟨ad298, A298_0, c298_0, e298, hx298_0, hl298_0, hi298_0⟩ := at_L6 HR0.out x6_1 p298 q298
                     have hw298_0 := hx298_0
                     obtain rfl : ad290 = ad298 := (by injection e298)
                     replace hx298_0 := (HB.out.cell (World.block_lt_of_cell? _ _ hx298_0)).trans hx298_0
                     have HR298_0 := Aside0.mk hi298_0
                     have HC298_0 := Aside0.mk hl298_0
                     clear hi298_0 hl298_0
                     replace p298 := eq_true p298
                     replace q298 := eq_true q298
                     have p299 : 0 ≤ ((ji18) : Int) := of_decide_eq_true z90_
                     have q299 : (ji18) < ((rd_L6 l0 x6_1).length : Int) := of_decide_eq_true z90_
                     obtain ⟨ad299, A299_0, c299_0, e299, hx299_0, hl299_0, hi299_0⟩ := at_L5 HR298_0.out (ji18) p299 q299
                     have hw299_0 := hx299_0
                     cases e299
                     replace hx299_0 := (HB.out.cell (World.block_lt_of_cell? _ _ hx299_0)).trans hx299_0
                     have HR299_0 := Aside0.mk hi299_0
                     have HC299_0 := Aside0.mk hl299_0
                     clear hi299_0 hl299_0
                     replace p299 := eq_true p299
                     replace q299 := eq_true q299
                     have p300 : 0 ≤ (x6_1 : Int) := of_decide_eq_true z90_
                     have q300 : x6_1 < (l0.length : Int) := of_decide_eq_true z90_
                     obtain ⟨ad300, A300_0, c300_0, e300, hx300_0, hl300_0, hi300_0⟩ := at_L6 HR0.out x6_1 p300 q300
                     have hw300_0 := hx300_0
                     obtain rfl : ad290 = ad300 := (by injection e300)
                     replace hx300_0 := (HB.out.cell (World.block_lt_of_cell? _ _ hx300_0)).trans hx300_0
                     have HR300_0 := Aside0.mk hi300_0
                     have HC300_0 := Aside0.mk hl300_0
                     clear hi300_0 hl300_0
                     replace p300 := eq_true p300
                     replace q300 := eq_true q300
                     have ea_ := Option.some.inj (hx298_0.symm.trans hx300_0)
                     injection ea_ with ea_ en_ ec_
                     subst ea_
                     subst ec_
                     clear en_
                     have p301 : 0 ≤ ((ji21) : Int) := of_decide_eq_true z90_
                     have q301 : (ji21) < ((rd_L6 l0 x6_1).length : Int) := of_decide_eq_true z90_
                     obtain ⟨ad301, A301_0, c301_0, e301, hx301_0, hl301_0, hi301_0⟩ := at_L5 HR300_0.out (ji21) p301 q301
                     have hw301_0 := hx301_0
                     cases e301
                     replace hx301_0 := (HB.out.cell (World.block_lt_of_cell? _ _ hx301_0)).trans hx301_0
                     have HR301_0 := Aside0.mk hi301_0
                     have HC301_0 := Aside0.mk hl301_0
                     clear hi301_0 hl301_0
                     replace p301 := eq_true p301
                     replace q301 := eq_true q301
                     refine start_ (n := 23) (S := fun w' => w'.cell? (ad290.add (x6_1).toNat) = some (.slice (some ad299) (rd_L6 l0 x6_1).length c298_0) ∧ w'.cell? (ad299.add ((ji18)).toNat) = some (.slice A299_0 (rd_L5 (rd_L6 l0 x6_1) (ji18)).length c299_0) ∧ w'.cell? (ad290.add (x6_1).toNat) = some (.slice (some ad299) (rd_L6 l0 x6_1).length c298_0) ∧ w'.cell? (ad299.add ((ji21)).toNat) = some (.slice A301_0 (rd_L5 (rd_L6 l0 x6_1) (ji21)).length c301_0)) (ds := []) #[false, false, false, false, false, false, false, false, false, false, false, false, false, false, false, false, false, false, false, false, false, false, false] (by kernel_rfl) rfl rfl ⟨((HB.out.cell (World.block_lt_of_cell? _ _ hw298_0)).trans hw298_0), ((HB.out.cell (World.block_lt_of_cell? _ _ hw299_0)).trans hw299_0), ((HB.out.cell (World.block_lt_of_cell? _ _ hw300_0)).trans hw300_0), ((HB.out.cell (World.block_lt_of_cell? _ _ hw301_0)).trans hw301_0)⟩ (fun hHeld => ?_); refine with_tabW spec_l04Along.tab12 spec_l04Along.bits12 (fun HT_ HW_ => ?_)
                     generalize w27.drew = w28 at HO_5 HO_8 HB HR298_0 HR299_0 HR300_0 HR301_0 hx298_0 hx299_0 hx300_0 hx301_0 hHeld ⊢
                     refine pu_ (i := 0) (N := some 50) (bs_ 23 1) ?_
                     refine pu_ (i := 1) (N := some 51) (bs_ 23 3) ?_
                     refine pu_ (i := 2) (N := some 52) (bs_ 23 7) ?_
                     refine pu_ (i := 4) (N := some 54) (bs_ 23 23) ?_
                     refine pu_ (i := 5) (N := some 55) (bs_ 23 55) ?_
                     refine pu_ (i := 6) (N := some 56) (bs_ 23 119) ?_
                     refine pu_ (i := 7) (N := some 57) (bs_ 23 247) ?_
                     refine pu_ (i := 8) (N := some 58) (bs_ 23 503) ?_
                     refine pu_ (i := 11) (N := some 61) (bs_ 23 2551) ?_
                     refine pu_ (i := 12) (N := some 62) (bs_ 23 6647) ?_
                     refine pu_ (i := 13) (N := some 63) (bs_ 23 14839) ?_
                     refine pu_ (i := 15) (N := some 65) (bs_ 23 47607) ?_
                     refine pu_ (i := 16) (N := some 66) (bs_ 23 113143) ?_
                     refine pu_ (i := 17) (N := some 67) (bs_ 23 244215) ?_
                     refine pu_ (i := 18) (N := some 68) (bs_ 23 506359) ?_
                     refine tk4_ (i := 3) (N := some 53) (bs_ 23 506367) hHeld ?_
                     refine pu_ (i := 9) (N := some 59) (bs_ 23 506879) ?_
                     refine tk4_ (i := 10) (N := some 60) (bs_ 23 507903) hHeld ?_
                     refine pu_ (i := 21) (N := some 10) (bs_ 23 2605055) ?_
                     refine tk4_ (i := 14) (N := some 64) (bs_ 23 2621439) hHeld ?_
                     refine pu_ (i := 19) (N := some 69) (bs_ 23 3145727) ?_
                     refine tk4_ (i := 20) (N := some 70) (bs_ 23 4194303) hHeld ?_
                     refine pu_ (i := 22) (N := some 11) (bs_ 23 8388607) ?_
                     refine done_ (done_of HT_.out (by kernel_rfl)) ?_
                     try go_wp2_with (first | ((with_reducible refine gate_callee (f := 116) rfl ?_); refine goesL_ (some 73) rfl rfl Try.func116 (by kernel_rfl) rfl #[.slice A299_0 (rd_L5 (rd_L6 l0 x6_1) (ji18)).length c299_0, .bool true] rfl (by (try simp only [List.map_toArray, List.map_cons, List.map_nil]); first | done | (simp only [hji18]; rfl) | rfl | (simp only [List.length_drop, List.length_take]; rfl)) ?_; (with_reducible refine (spec_l04Turn.calls _ _ (rd_L5 (rd_L6 l0 x6_1) (ji18)) true t302 _ ?side1 ?side2 A24.out).mono ?_); (case side1 => exact kc_ (Kd.C_below HR299_0.out HB.out)); (case side2 => exact HC299_0.out); rintro e w29 ⟨v303, rfl, ho0, hb⟩; refine ⟨_, rfl, ?_⟩; replace HO_5 := a_ (Kd.R_elder' (ra_ HO_5.out) (Kd.R_base ho0) hb); replace HO_8 := a_ (Kd.S_elder' z80_ (Kd.R_base ho0) hb); have HO304 := a_ (Kd.R_lower ho0 (below_size z54_)); replace HB := a_ (below_step z54_ hb); (try clear hb); (try clear hb2); (try clear hk); (try clear hi); (try clear ho0)) | ((with_reducible refine gate_builtin (b := .append) (xs := #[.tmp 73, .tmp 74]) rfl ?_); at_builtin; refine Kd.R_append_rows k102 (w0 := w) w.heap.size rfl (.tmp 73) (.tmp 74) 99 102 (.agg #[(.int .i64 0), (.int .i64 0), (.bool false), (.bool false)]) 24 rfl Try.underlying99 info102 rfl (by decide) (by omega) v303 t302 (rd_L5 (rd_L6 l0 x6_1) (ji21)) _ _ _ (fun _ => True) (fun _ => False) rfl rfl ?aO ?aR (fun _ _ h => h) (fun _ h => h.elim) ?aF ?aB ?aS ?aL ?_; (case aR => exact kc_ (Kd.C_below HR301_0.out HB.out)); (case aB => exact z54_); (case aF => exact (fun _ _ => trivial)); (case aO => exact (ra_ HO304.out)); (case aS => exact (below_size z54_)); (case aL => have := LMc25.out; omega); intro v306 w30 ho hb hg hat; rw [← Ny305.out] at ho; replace HO_5 := a_ (Kd.R_after (ok := (fun k_ => some k_ ≠ (u8 : Value).ownBlock)) (ra_ HO_5.out) hg hat); replace HO_8 := a_ (Kd.S_after (ok := (fun _ => True)) z80_ hg hat); replace HB := a_ (hb); have HO307 := a_ (ho); clear HO304; clear ho hb hg hat; obtain ⟨Ao32, co32, eo32⟩ := Kd.R_slice HO307.out; subst eo32) | ((with_reducible refine gate_builtin (b := .append) (xs := #[.tmp 71, .tmp 76]) rfl ?_); at_builtin; refine Kd.S_append (Kd.slice 102 k102) (w0 := w) w.heap.size rfl (.tmp 71) (.tmp 76) 121 99 (.slice none 0 0) 24 rfl Try.underlying121 info99 rfl (by decide) (by omega) u8 x8_2 y305 [.slice Ao32 y305.length co32] (fun _ => True) (fun k_ => some k_ = (.slice Ao32 y305.length co32 : Value).ownBlock) rfl rfl ?aP (fun k_ hk_ => ((Kd.R_mono (ok' := fun k_ => ((fun _ => True)) k_ ∧ some k_ ≠ (u8 : Value).ownBlock) (Kd.R_apart' (HO307.out) (Kd.S_typed HO_8.out) (by decide)) (fun k_ hk => ⟨trivial, hk.2⟩))).1 k_ hk_.symm) ?aF ?aO ?aB ?aS ?aL ?_; (case aP => exact Kd.M_row (Kd.R_mono (Kd.R_tight rfl (Kd.R_mono (ok' := fun k_ => ((fun _ => True)) k_ ∧ some k_ ≠ (u8 : Value).ownBlock) (Kd.R_apart' (HO307.out) (Kd.S_typed HO_8.out) (by decide)) (fun k_ hk => ⟨trivial, hk.2⟩))) (fun _ h_ => h_))); (case aB => exact z54_); (case aF => exact (fun _ _ => trivial)); (case aO => exact (by (with_reducible repeat (first | apply Kd.S_alloc | apply Kd.S_drewN | apply Kd.S_drew)); exact Kd.S_mono HO_8.out (fun k_ hk => ⟨trivial, fun e_ => hk.2 e_⟩))); (case aS => exact (below_size z54_)); (case aL => have := LMc26.out; omega); intro v309 w31 ho hb hg hat; rw [← Ny308.out] at ho; replace HO_5 := a_ (Kd.R_after (ok := (fun k_ => nb_ k_ Ao32 y305.length co32)) (rc_ (h := by exact Kd.R_mono HO_5.out (fun _ hk => ⟨hk.2, hk.1⟩))) hg hat); replace HB := a_ (hb); have HO310 := a_ (ho); clear HO307; clear HO_8; clear ho hb hg hat))
                     go_roundg k2
                     case measure => have := HK1.out; have := HK2.out; omega
                     case rel => exact ⟨(y308), (wrap64 (x9_2 + 1)), z91_, H', ⟨z92_⟩, ⟨z58_⟩, ⟨by (with_reducible repeat (first | apply Kd.S_alloc | apply Kd.S_drewN | apply Kd.S_drew)); exact HO310.out⟩, ⟨z54_⟩⟩
                    ·rw [if_neg c26] at H
                     exact absurd H (by simp)
                   ·rw [if_neg c25] at H
                    exact absurd H (by simp)
                  ·rw [if_neg c23] at H
                   exact absurd H (by simp)
                 ·rw [if_neg c22] at H
                  exact absurd H (by simp)
                ·rw [if_neg c20] at H
                 exact absurd H (by simp)
               ·rw [if_neg c19] at H
                exact absurd H (by simp)
              ·rw [if_neg c17] at H
               have c17b0 : (a1 == 76) = false := beq_eq_false_iff_ne.mpr c17
               have c17b1 : (a1 != 76) = true := bne_iff_ne.mpr c17
               replace H := Option.bind_eq_some_iff.mp H
               obtain ⟨t311, A330, H⟩ := H
               replace H : (if t311.length + (rd_L5 (rd_L6 l0 x6_1) x9_2).length < 5864062014805 then (if x8_2.length < 5864062014805 then (spec_l04Along.l1 k2 l0 a1 x5_1 x6_1 ((rd_L6 l0 x6_1).length : Int) (x8_2 ++ [(t311 ++ (rd_L5 (rd_L6 l0 x6_1) x9_2))]) (wrap64 (x9_2 + 1))) else (none)) else (none)) = some r := H
               have A33 := Aside0.mk A330
               clear A330
               by_cases c34 : t311.length + (rd_L5 (rd_L6 l0 x6_1) x9_2).length < 5864062014805
               ·rw [if_pos c34] at H
                have LMc34 := Aside0.mk c34
                clear c34
                obtain ⟨y314, hy314⟩ : ∃ y_ : List (S102), y_ = (t311 ++ (rd_L5 (rd_L6 l0 x6_1) x9_2)) := ⟨_, rfl⟩
                replace H : (if x8_2.length < 5864062014805 then (spec_l04Along.l1 k2 l0 a1 x5_1 x6_1 ((rd_L6 l0 x6_1).length : Int) (x8_2 ++ [y314]) (wrap64 (x9_2 + 1))) else (none)) = some r := rh_ hy314 H
                have Ny314 := Aside0.mk hy314
                clear hy314
                by_cases c35 : x8_2.length < 5864062014805
                ·rw [if_pos c35] at H
                 have LMc35 := Aside0.mk c35
                 clear c35
                 obtain ⟨y317, hy317⟩ : ∃ y_ : List (List (S102)), y_ = (x8_2 ++ [y314]) := ⟨_, rfl⟩
                 replace H : (spec_l04Along.l1 k2 l0 a1 x5_1 x6_1 ((rd_L6 l0 x6_1).length : Int) y317 (wrap64 (x9_2 + 1))) = some r := rh_ hy317 H
                 have Ny317 := Aside0.mk hy317
                 clear hy317
                 have H' := Aside0.mk H
                 clear H
                 try go_wp2
                 replace HO_5 := a_ (Kd.R_drew HO_5.out)
                 replace HO_8 := a_ (Kd.S_drew HO_8.out)
                 replace HB := a_ (below_drew1 HB.out)
                 have p294 : 0 ≤ (x6_1 : Int) := of_decide_eq_true z90_
                 have q294 : x6_1 < (l0.length : Int) := of_decide_eq_true z90_
                 obtain ⟨ad294, A294_0, c294_0, e294, hx294_0, hl294_0, hi294_0⟩ := at_L6 HR0.out x6_1 p294 q294
                 have hw294_0 := hx294_0
                 obtain rfl : ad290 = ad294 := (by injection e294)
                 replace hx294_0 := (HB.out.cell (World.block_lt_of_cell? _ _ hx294_0)).trans hx294_0
                 have HR294_0 := Aside0.mk hi294_0
                 have HC294_0 := Aside0.mk hl294_0
                 clear hi294_0 hl294_0
                 replace p294 := eq_true p294
                 replace q294 := eq_true q294
                 have p295 : 0 ≤ ((ji12) : Int) := of_decide_eq_true z90_
                 have q295 : (ji12) < ((rd_L6 l0 x6_1).length : Int) := of_decide_eq_true z90_
                 obtain ⟨ad295, A295_0, c295_0, e295, hx295_0, hl295_0, hi295_0⟩ := at_L5 HR294_0.out (ji12) p295 q295
                 have hw295_0 := hx295_0
                 cases e295
                 replace hx295_0 := (HB.out.cell (World.block_lt_of_cell? _ _ hx295_0)).trans hx295_0
                 have HR295_0 := Aside0.mk hi295_0
                 have HC295_0 := Aside0.mk hl295_0
                 clear hi295_0 hl295_0
                 replace p295 := eq_true p295
                 replace q295 := eq_true q295
                 have p296 : 0 ≤ (x6_1 : Int) := of_decide_eq_true z90_
                 have q296 : x6_1 < (l0.length : Int) := of_decide_eq_true z90_
                 obtain ⟨ad296, A296_0, c296_0, e296, hx296_0, hl296_0, hi296_0⟩ := at_L6 HR0.out x6_1 p296 q296
                 have hw296_0 := hx296_0
                 obtain rfl : ad290 = ad296 := (by injection e296)
                 replace hx296_0 := (HB.out.cell (World.block_lt_of_cell? _ _ hx296_0)).trans hx296_0
                 have HR296_0 := Aside0.mk hi296_0
                 have HC296_0 := Aside0.mk hl296_0
                 clear hi296_0 hl296_0
                 replace p296 := eq_true p296
                 replace q296 := eq_true q296
                 have ea_ := Option.some.inj (hx294_0.symm.trans hx296_0)
                 injection ea_ with ea_ en_ ec_
                 subst ea_
                 subst ec_
                 clear en_
                 have p297 : 0 ≤ (x9_2 : Int) := of_decide_eq_true z90_
                 have q297 : x9_2 < ((rd_L6 l0 x6_1).length : Int) := of_decide_eq_true z90_
                 obtain ⟨ad297, A297_0, c297_0, e297, hx297_0, hl297_0, hi297_0⟩ := at_L5 HR296_0.out x9_2 p297 q297
                 have hw297_0 := hx297_0
                 cases e297
                 replace hx297_0 := (HB.out.cell (World.block_lt_of_cell? _ _ hx297_0)).trans hx297_0
                 have HR297_0 := Aside0.mk hi297_0
                 have HC297_0 := Aside0.mk hl297_0
                 clear hi297_0 hl297_0
                 replace p297 := eq_true p297
                 replace q297 := eq_true q297
                 refine start_ (n := 19) (S := fun w' => w'.cell? (ad290.add (x6_1).toNat) = some (.slice (some ad295) (rd_L6 l0 x6_1).length c294_0) ∧ w'.cell? (ad295.add ((ji12)).toNat) = some (.slice A295_0 (rd_L5 (rd_L6 l0 x6_1) (ji12)).length c295_0) ∧ w'.cell? (ad290.add (x6_1).toNat) = some (.slice (some ad295) (rd_L6 l0 x6_1).length c294_0) ∧ w'.cell? (ad295.add (x9_2).toNat) = some (.slice A297_0 (rd_L5 (rd_L6 l0 x6_1) x9_2).length c297_0)) (ds := []) #[false, false, false, false, false, false, false, false, false, false, false, false, false, false, false, false, false, false, false] (by kernel_rfl) rfl rfl ⟨((HB.out.cell (World.block_lt_of_cell? _ _ hw294_0)).trans hw294_0), ((HB.out.cell (World.block_lt_of_cell? _ _ hw295_0)).trans hw295_0), ((HB.out.cell (World.block_lt_of_cell? _ _ hw296_0)).trans hw296_0), ((HB.out.cell (World.block_lt_of_cell? _ _ hw297_0)).trans hw297_0)⟩ (fun hHeld => ?_); refine with_tabW spec_l04Along.tab10 spec_l04Along.bits10 (fun HT_ HW_ => ?_)
                 generalize wr.drew = w36 at HO_5 HO_8 HB HR294_0 HR295_0 HR296_0 HR297_0 hx294_0 hx295_0 hx296_0 hx297_0 hHeld ⊢
                 refine pu_ (i := 0) (N := some 31) (bs_ 19 1) ?_
                 refine pu_ (i := 1) (N := some 32) (bs_ 19 3) ?_
                 refine pu_ (i := 2) (N := some 33) (bs_ 19 7) ?_
                 refine pu_ (i := 4) (N := some 35) (bs_ 19 23) ?_
                 refine pu_ (i := 5) (N := some 36) (bs_ 19 55) ?_
                 refine pu_ (i := 6) (N := some 37) (bs_ 19 119) ?_
                 refine pu_ (i := 7) (N := some 38) (bs_ 19 247) ?_
                 refine pu_ (i := 10) (N := some 41) (bs_ 19 1271) ?_
                 refine pu_ (i := 11) (N := some 42) (bs_ 19 3319) ?_
                 refine pu_ (i := 12) (N := some 43) (bs_ 19 7415) ?_
                 refine pu_ (i := 14) (N := some 45) (bs_ 19 23799) ?_
                 refine tk4_ (i := 3) (N := some 34) (bs_ 19 23807) hHeld ?_
                 refine pu_ (i := 8) (N := some 39) (bs_ 19 24063) ?_
                 refine tk4_ (i := 9) (N := some 40) (bs_ 19 24575) hHeld ?_
                 refine pu_ (i := 17) (N := some 10) (bs_ 19 155647) ?_
                 refine tk4_ (i := 13) (N := some 44) (bs_ 19 163839) hHeld ?_
                 refine pu_ (i := 15) (N := some 46) (bs_ 19 196607) ?_
                 refine tk4_ (i := 16) (N := some 47) (bs_ 19 262143) hHeld ?_
                 refine pu_ (i := 18) (N := some 11) (bs_ 19 524287) ?_
                 refine done_ (done_of HT_.out (by kernel_rfl)) ?_
                 try go_wp2_with (first | ((with_reducible refine gate_callee (f := 116) rfl ?_); refine goesL_ (some 73) rfl rfl Try.func116 (by kernel_rfl) rfl #[.slice A295_0 (rd_L5 (rd_L6 l0 x6_1) (ji12)).length c295_0, .bool true] rfl (by (try simp only [List.map_toArray, List.map_cons, List.map_nil]); first | done | (simp only [hji12]; rfl) | rfl | (simp only [List.length_drop, List.length_take]; rfl)) ?_; (with_reducible refine (spec_l04Turn.calls _ _ (rd_L5 (rd_L6 l0 x6_1) (ji12)) true t311 _ ?side1 ?side2 A33.out).mono ?_); (case side1 => exact kc_ (Kd.C_below HR295_0.out HB.out)); (case side2 => exact HC295_0.out); rintro e w37 ⟨v312, rfl, ho0, hb⟩; refine ⟨_, rfl, ?_⟩; replace HO_5 := a_ (Kd.R_elder' (ra_ HO_5.out) (Kd.R_base ho0) hb); replace HO_8 := a_ (Kd.S_elder' z80_ (Kd.R_base ho0) hb); have HO313 := a_ (Kd.R_lower ho0 (below_size z54_)); replace HB := a_ (below_step z54_ hb); (try clear hb); (try clear hb2); (try clear hk); (try clear hi); (try clear ho0)) | ((with_reducible refine gate_builtin (b := .append) (xs := #[.tmp 73, .tmp 74]) rfl ?_); at_builtin; refine Kd.R_append_rows k102 (w0 := w) w.heap.size rfl (.tmp 73) (.tmp 74) 99 102 (.agg #[(.int .i64 0), (.int .i64 0), (.bool false), (.bool false)]) 24 rfl Try.underlying99 info102 rfl (by decide) (by omega) v312 t311 (rd_L5 (rd_L6 l0 x6_1) x9_2) _ _ _ (fun _ => True) (fun _ => False) rfl rfl ?aO ?aR (fun _ _ h => h) (fun _ h => h.elim) ?aF ?aB ?aS ?aL ?_; (case aR => exact kc_ (Kd.C_below HR297_0.out HB.out)); (case aB => exact z54_); (case aF => exact (fun _ _ => trivial)); (case aO => exact (ra_ HO313.out)); (case aS => exact (below_size z54_)); (case aL => have := LMc34.out; omega); intro v315 w38 ho hb hg hat; rw [← Ny314.out] at ho; replace HO_5 := a_ (Kd.R_after (ok := (fun k_ => some k_ ≠ (u8 : Value).ownBlock)) (ra_ HO_5.out) hg hat); replace HO_8 := a_ (Kd.S_after (ok := (fun _ => True)) z80_ hg hat); replace HB := a_ (hb); have HO316 := a_ (ho); clear HO313; clear ho hb hg hat; obtain ⟨Ao40, co40, eo40⟩ := Kd.R_slice HO316.out; subst eo40) | ((with_reducible refine gate_builtin (b := .append) (xs := #[.tmp 71, .tmp 76]) rfl ?_); at_builtin; refine Kd.S_append (Kd.slice 102 k102) (w0 := w) w.heap.size rfl (.tmp 71) (.tmp 76) 121 99 (.slice none 0 0) 24 rfl Try.underlying121 info99 rfl (by decide) (by omega) u8 x8_2 y314 [.slice Ao40 y314.length co40] (fun _ => True) (fun k_ => some k_ = (.slice Ao40 y314.length co40 : Value).ownBlock) rfl rfl ?aP (fun k_ hk_ => ((Kd.R_mono (ok' := fun k_ => ((fun _ => True)) k_ ∧ some k_ ≠ (u8 : Value).ownBlock) (Kd.R_apart' (HO316.out) (Kd.S_typed HO_8.out) (by decide)) (fun k_ hk => ⟨trivial, hk.2⟩))).1 k_ hk_.symm) ?aF ?aO ?aB ?aS ?aL ?_; (case aP => exact Kd.M_row (Kd.R_mono (Kd.R_tight rfl (Kd.R_mono (ok' := fun k_ => ((fun _ => True)) k_ ∧ some k_ ≠ (u8 : Value).ownBlock) (Kd.R_apart' (HO316.out) (Kd.S_typed HO_8.out) (by decide)) (fun k_ hk => ⟨trivial, hk.2⟩))) (fun _ h_ => h_))); (case aB => exact z54_); (case aF => exact (fun _ _ => trivial)); (case aO => exact (by (with_reducible repeat (first | apply Kd.S_alloc | apply Kd.S_drewN | apply Kd.S_drew)); exact Kd.S_mono HO_8.out (fun k_ hk => ⟨trivial, fun e_ => hk.2 e_⟩))); (case aS => exact (below_size z54_)); (case aL => have := LMc35.out; omega); intro v318 w39 ho hb hg hat; rw [← Ny317.out] at ho; replace HO_5 := a_ (Kd.R_after (ok := (fun k_ => nb_ k_ Ao40 y314.length co40)) (rc_ (h := by exact Kd.R_mono HO_5.out (fun _ hk => ⟨hk.2, hk.1⟩))) hg hat); replace HB := a_ (hb); have HO319 := a_ (ho); clear HO316; clear HO_8; clear ho hb hg hat))
                 go_roundg k2
                 case measure => have := HK1.out; have := HK2.out; omega
                 case rel => exact ⟨(y317), (wrap64 (x9_2 + 1)), z91_, H', ⟨z92_⟩, ⟨z58_⟩, ⟨by (with_reducible repeat (first | apply Kd.S_alloc | apply Kd.S_drewN | apply Kd.S_drew)); exact HO319.out⟩, ⟨z54_⟩⟩
                ·rw [if_neg c35] at H
                 exact absurd H (by simp)
               ·rw [if_neg c34] at H
                exact absurd H (by simp)
             ·rw [if_neg c16] at H
              exact absurd H (by simp)
            ·rw [if_neg c15] at H
             exact absurd H (by simp)
           ·rw [if_neg c14] at H
            exact absurd H (by simp)
          ·rw [if_neg c13] at H
           exact absurd H (by simp)
         ·rw [if_neg c11] at H
          exact absurd H (by simp)
        ·rw [if_neg c10] at H
         exact absurd H (by simp)
       ·rw [if_neg c9] at H
        have c9b0 : decide (x9_2 < (wrap64 ((((rd_L6 l0 x6_1).length : Int) / 2)))) = false := decide_eq_false c9
        clear c9
        by_cases c41 : x5_1.length < 5864062014805
        ·rw [if_pos c41] at H
         have LMc41 := Aside0.mk c41
         clear c41
         obtain ⟨y320, hy320⟩ : ∃ y_ : List (List (List (S102))), y_ = (x5_1 ++ [x8_2]) := ⟨_, rfl⟩
         replace H : (spec_l04Along.l0 k2 l0 a1 y320 (wrap64 (x6_1 + 1))) = some r := rh_ hy320 H
         have Ny320 := Aside0.mk hy320
         clear hy320
         have H' := Aside0.mk H
         clear H
         obtain ⟨Ao43, co43, eo43⟩ := Kd.S_slice HO_8.out
         subst eo43
         go_wp2_with (first | ((with_reducible refine gate_builtin (b := .append) (xs := #[.tmp 78, .tmp 80]) rfl ?_); at_builtin; refine Kd.R_append (Kd.slice 99 (Kd.slice 102 k102)) (w0 := w) w.heap.size rfl (.tmp 78) (.tmp 80) 118 121 (.slice none 0 0) 24 rfl Try.underlying118 info121 rfl (by decide) (by omega) u5 x5_1 x8_2 [.slice Ao43 x8_2.length co43] (fun _ => True) (fun k_ => ((fun _ => True)) k_ ∧ some k_ ≠ (u5 : Value).ownBlock) rfl rfl ?aP (fun _ hk => hk) ?aF ?aO ?aB ?aS ?aL ?_; (case aP => exact Kd.M_row (Kd.R_mono (Kd.R_apart' ((Kd.S_R HO_8.out)) (Kd.R_typed HO_5.out) (by decide)) (fun k_ hk => ⟨trivial, hk.2⟩))); (case aB => exact z54_); (case aF => exact (fun _ _ => trivial)); (case aO => exact (rc_ (h := by exact Kd.R_mono HO_5.out (fun _ hk => trivial)))); (case aS => exact (below_size z54_)); (case aL => have := LMc41.out; omega); intro v321 w42 ho hb hg hat; rw [← Ny320.out] at ho; replace HB := a_ (hb); have HO322 := a_ (ho); clear HO_5; clear HO_8; clear ho hb hg hat))
         go_roundg k2
         case measure => have := HK1.out; have := HK2.out; omega
         case rel => exact ⟨(y320), (wrap64 (x6_1 + 1)), z91_, H', ⟨z92_⟩, ⟨by (with_reducible repeat (first | apply Kd.R_alloc | apply Kd.R_drewN | apply Kd.R_drew)); exact HO322.out⟩, ⟨z54_⟩⟩
        ·rw [if_neg c41] at H
         exact absurd H (by simp)
    ·rw [if_neg c6] at H
     exact absurd H (by simp)
   ·rw [if_neg c5] at H
    have c5b0 : decide (x6_1 < (l0.length : Int)) = false := decide_eq_false c5
    clear c5
    obtain rfl := Option.some.inj H
    go_wp2
    go_ret
    exact ⟨_, z55_, by (with_reducible repeat (first | apply Kd.R_alloc | apply Kd.R_drewN | apply Kd.R_drew)); exact HO_5.out, z54_⟩

end Go.Proofs.Ytkpidjmhdagkfaa.QFnPagePlaces
-- halved
