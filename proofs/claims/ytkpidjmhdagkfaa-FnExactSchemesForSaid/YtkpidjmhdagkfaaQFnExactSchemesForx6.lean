-- Written by own_print.py of this session's repo over the kit's print (its output, turned at some places).
import Derived.Test.YtkpidjmhdagkfaaQFnExactSchemesForx0
import Derived.Test.YtkpidjmhdagkfaaQFnExactSchemesForx4
namespace Go.Proofs.Ytkpidjmhdagkfaa.QFnExactSchemesFor
open Go.RowKit Go.Proofs.YtkpidjmhdagkfaaW.PrintWords Go.Proofs.YtkpidjmhdagkfaaW.PrintLast Go.Proofs.YtkpidjmhdagkfaaW.PrintMore
attribute [local go_sem] max2_int min2_int max_two min_two max_three min_three max_four min_four   -- for this text's walks alone
set_option linter.unusedVariables false
set_option linter.unusedSimpArgs false

/-! ### spec_l04Across: function 108 -/
mutual
def spec_l04Across.l0 : Nat → List (List (List (S102))) → Int → Int → List (List (List (S102))) → Int → Option ((List (List (List (S102)))))
 | 0, _, _, _, _, _ => none
 | k + 1, x0, x1, x5, x6, x7 => if x7 < (wrap64 (Int.tdiv x5 2)) then (if 0 ≤ (wrap64 ((wrap64 (x5 - 1)) - x7)) then (if (wrap64 ((wrap64 (x5 - 1)) - x7)) < (x0.length : Int) then (if 0 ≤ x7 then (if x7 < (x0.length : Int) then (if x1 = 84 then (if 0 ≤ (wrap64 ((wrap64 ((wrap64 (Int.tdiv x5 2)) - 1)) - x7)) then (if (wrap64 ((wrap64 ((wrap64 (Int.tdiv x5 2)) - 1)) - x7)) < (x0.length : Int) then (if 0 ≤ (wrap64 ((wrap64 (Int.tdiv x5 2)) + x7)) then (if (wrap64 ((wrap64 (Int.tdiv x5 2)) + x7)) < (x0.length : Int) then (spec_l04Across.l1 k x0 x1 x5 x6 x7 (rd_L5 x0 (wrap64 ((wrap64 ((wrap64 (Int.tdiv x5 2)) - 1)) - x7))) (rd_L5 x0 (wrap64 ((wrap64 (Int.tdiv x5 2)) + x7))) (([] : List (List (S102)))) 0) else (none)) else (none)) else (none)) else (none)) else (spec_l04Across.l101 k x0 x1 x5 x6 x7 (rd_L5 x0 (wrap64 ((wrap64 (x5 - 1)) - x7))) (rd_L5 x0 x7) (([] : List (List (S102)))) 0)) else (none)) else (none)) else (none)) else (none)) else (some x6)
def spec_l04Across.l1 : Nat → List (List (List (S102))) → Int → Int → List (List (List (S102))) → Int → List (List (S102)) → List (List (S102)) → List (List (S102)) → Int → Option ((List (List (List (S102)))))
 | 0, _, _, _, _, _, _, _, _, _ => none
 | k + 1, x0, x1, x5, x6, x7, x8, x9, x10, x11 => if x11 < (x8.length : Int) then (if 0 ≤ x11 then ((spec_l04Turn.f (rd_L4 x8 x11) false).bind fun t277 => (if x11 < (x9.length : Int) then (if t277.length + (rd_L4 x9 x11).length < 5864062014805 then (if x10.length < 5864062014805 then (spec_l04Across.l1 k x0 x1 x5 x6 x7 x8 x9 (x10 ++ [(t277 ++ (rd_L4 x9 x11))]) (wrap64 (x11 + 1))) else (none)) else (none)) else (none))) else (none)) else (if x6.length < 5864062014805 then (spec_l04Across.l0 k x0 x1 x5 (x6 ++ [x10]) (wrap64 (x7 + 1))) else (none))
def spec_l04Across.l101 : Nat → List (List (List (S102))) → Int → Int → List (List (List (S102))) → Int → List (List (S102)) → List (List (S102)) → List (List (S102)) → Int → Option ((List (List (List (S102)))))
 | 0, _, _, _, _, _, _, _, _, _ => none
 | k + 1, x0, x1, x5, x6, x7, x8, x9, x10, x11 => if x11 < (x8.length : Int) then (if 0 ≤ x11 then ((spec_l04Turn.f (rd_L4 x8 x11) false).bind fun t294 => (if x11 < (x9.length : Int) then (if t294.length + (rd_L4 x9 x11).length < 5864062014805 then (if x10.length < 5864062014805 then (spec_l04Across.l101 k x0 x1 x5 x6 x7 x8 x9 (x10 ++ [(t294 ++ (rd_L4 x9 x11))]) (wrap64 (x11 + 1))) else (none)) else (none)) else (none))) else (none)) else (if x6.length < 5864062014805 then (spec_l04Across.l0 k x0 x1 x5 (x6 ++ [x10]) (wrap64 (x7 + 1))) else (none))
end
def spec_l04Across.f (k : Nat) (l0 : List (List (List (S102)))) (a1 : Int) : Option ((List (List (List (S102))))) := spec_l04Across.l0 k l0 a1 (l0.length : Int) (([] : List (List (List (S102))))) 0
theorem spec_l04Across.mono_l : ∀ k, (∀ y0 y1 y2 y3 y4, LeO (spec_l04Across.l0 k y0 y1 y2 y3 y4) (spec_l04Across.l0 (k + 1) y0 y1 y2 y3 y4)) ∧ (∀ y0 y1 y2 y3 y4 y5 y6 y7 y8, LeO (spec_l04Across.l1 k y0 y1 y2 y3 y4 y5 y6 y7 y8) (spec_l04Across.l1 (k + 1) y0 y1 y2 y3 y4 y5 y6 y7 y8)) ∧ (∀ y0 y1 y2 y3 y4 y5 y6 y7 y8, LeO (spec_l04Across.l101 k y0 y1 y2 y3 y4 y5 y6 y7 y8) (spec_l04Across.l101 (k + 1) y0 y1 y2 y3 y4 y5 y6 y7 y8))
 | 0 => ⟨fun _ _ _ _ _ r h => by simp [spec_l04Across.l0] at h, fun _ _ _ _ _ _ _ _ _ r h => by simp [spec_l04Across.l1] at h, fun _ _ _ _ _ _ _ _ _ r h => by simp [spec_l04Across.l101] at h⟩
 | k + 1 => by
  obtain ⟨ih0, ih1, ih2⟩ := spec_l04Across.mono_l k
  refine ⟨?_, ?_, ?_⟩
  ·intro y0 y1 y2 y3 y4
   unfold spec_l04Across.l0
   repeat' first
   | (with_reducible exact ih0 _ _ _ _ _)
   | (with_reducible exact ih1 _ _ _ _ _ _ _ _ _)
   | (with_reducible exact ih2 _ _ _ _ _ _ _ _ _)
   | (with_reducible exact LeO.refl _)
   | (with_reducible exact LeO.none _)
   | (with_reducible refine LeO.ite ?_ ?_)
   | (with_reducible refine LeO.bind ?_ (fun _ => ?_))
   | exact ih0 _ _ _ _ _
   | exact ih1 _ _ _ _ _ _ _ _ _
   | exact ih2 _ _ _ _ _ _ _ _ _
   | exact LeO.none _
   | refine LeO.ite ?_ ?_
   | refine LeO.bind ?_ (fun _ => ?_)
  ·intro y0 y1 y2 y3 y4 y5 y6 y7 y8
   unfold spec_l04Across.l1
   repeat' first
   | (with_reducible exact ih0 _ _ _ _ _)
   | (with_reducible exact ih1 _ _ _ _ _ _ _ _ _)
   | (with_reducible exact ih2 _ _ _ _ _ _ _ _ _)
   | (with_reducible exact LeO.refl _)
   | (with_reducible exact LeO.none _)
   | (with_reducible refine LeO.ite ?_ ?_)
   | (with_reducible refine LeO.bind ?_ (fun _ => ?_))
   | exact ih0 _ _ _ _ _
   | exact ih1 _ _ _ _ _ _ _ _ _
   | exact ih2 _ _ _ _ _ _ _ _ _
   | exact LeO.none _
   | refine LeO.ite ?_ ?_
   | refine LeO.bind ?_ (fun _ => ?_)
  ·intro y0 y1 y2 y3 y4 y5 y6 y7 y8
   unfold spec_l04Across.l101
   repeat' first
   | (with_reducible exact ih0 _ _ _ _ _)
   | (with_reducible exact ih1 _ _ _ _ _ _ _ _ _)
   | (with_reducible exact ih2 _ _ _ _ _ _ _ _ _)
   | (with_reducible exact LeO.refl _)
   | (with_reducible exact LeO.none _)
   | (with_reducible refine LeO.ite ?_ ?_)
   | (with_reducible refine LeO.bind ?_ (fun _ => ?_))
   | exact ih0 _ _ _ _ _
   | exact ih1 _ _ _ _ _ _ _ _ _
   | exact ih2 _ _ _ _ _ _ _ _ _
   | exact LeO.none _
   | refine LeO.ite ?_ ?_
   | refine LeO.bind ?_ (fun _ => ?_)
theorem spec_l04Across.mono : ∀ a0 a1 k, LeO (spec_l04Across.f k a0 a1) (spec_l04Across.f (k + 1) a0 a1) := by
 intro a0 a1 k
 obtain ⟨ih0, ih1, ih2⟩ := spec_l04Across.mono_l k
 unfold spec_l04Across.f
 repeat' first
   | (with_reducible exact ih0 _ _ _ _ _)
   | (with_reducible exact ih1 _ _ _ _ _ _ _ _ _)
   | (with_reducible exact ih2 _ _ _ _ _ _ _ _ _)
   | (with_reducible exact LeO.refl _)
   | (with_reducible exact LeO.none _)
   | (with_reducible refine LeO.ite ?_ ?_)
   | (with_reducible refine LeO.bind ?_ (fun _ => ?_))
   | exact ih0 _ _ _ _ _
   | exact ih1 _ _ _ _ _ _ _ _ _
   | exact ih2 _ _ _ _ _ _ _ _ _
   | exact LeO.none _
   | refine LeO.ite ?_ ?_
   | refine LeO.bind ?_ (fun _ => ?_)
def spec_l04Across.T6 : Bool × List (List Nat × List Nat) := (true, [([], []), ([], []), ([1], [1]), ([], []), ([2, 3], [2, 3]), ([0, 4], [0, 4]), ([5], [5]), ([], []), ([], []), ([7, 8], [7, 8]), ([9], [9]), ([6, 0, 1, 2, 3, 4, 5, 6], [6]), ([10, 11, 0, 1, 2, 3, 4, 5, 6, 7, 8, 9, 10, 11], [10])])
def spec_l04Across.B6 : List Nat := [0, 0, 2, 0, 14, 31, 63, 0, 0, 384, 896, 127, 4095]
theorem spec_l04Across.tab6 : rtab .any (opsOf Try.f108 6) = spec_l04Across.T6 := by kernel_rfl
theorem spec_l04Across.bits6 : waitsOk spec_l04Across.T6.2 spec_l04Across.B6 = true := by kernel_rfl
def spec_l04Across.T8 : Bool × List (List Nat × List Nat) := (true, [([], []), ([], []), ([1], [1]), ([2], [2]), ([], []), ([3, 4], [3, 4]), ([0, 5], [0, 5]), ([6], [6]), ([], []), ([], []), ([9], [9]), ([], []), ([10, 11], [10, 11]), ([8, 12], [8, 12]), ([13], [13]), ([7, 0, 1, 2, 3, 4, 5, 6, 7], [7]), ([14, 15, 0, 1, 2, 3, 4, 5, 6, 7, 8, 9, 10, 11, 12, 13, 14, 15], [14])])
def spec_l04Across.B8 : List Nat := [0, 0, 2, 6, 0, 30, 63, 127, 0, 0, 512, 0, 3584, 7936, 16128, 255, 65535]
theorem spec_l04Across.tab8 : rtab .any (opsOf Try.f108 8) = spec_l04Across.T8 := by kernel_rfl
theorem spec_l04Across.bits8 : waitsOk spec_l04Across.T8.2 spec_l04Across.B8 = true := by kernel_rfl
def spec_l04Across.T13 : Bool × List (List Nat × List Nat) := (true, [([], []), ([], []), ([], []), ([1, 2], [1, 2]), ([3], [3]), ([4], [4]), ([], []), ([], []), ([6, 7], [6, 7]), ([8], [8]), ([5, 9, 5], [5, 9]), ([10], [10]), ([0, 11, 10], [0, 11]), ([12, 12, 0, 1, 2, 3, 4, 5, 6, 7, 8, 9, 10, 11, 12], [0, 12])])
def spec_l04Across.B13 : List Nat := [0, 0, 0, 6, 14, 30, 0, 0, 192, 448, 1022, 2046, 4095, 8191]
theorem spec_l04Across.tab13 : rtab .any (opsOf Try.f108 13) = spec_l04Across.T13 := by kernel_rfl
theorem spec_l04Across.bits13 : waitsOk spec_l04Across.T13.2 spec_l04Across.B13 = true := by kernel_rfl
set_option maxHeartbeats 8000000 in
set_option maxRecDepth 100000 in
theorem spec_l04Across.calls (k : Nat) (A0 : Option Addr) (c0 : Nat) (l0 : List (List (List (S102)))) (a1 : Int) (r : List (List (List (S102)))) (w : World) (hr0 : Kd.C (Kd.slice 99 (Kd.slice 102 k102)) w A0 l0.length l0) (hc0 : l0.length ≤ c0) (h : spec_l04Across.f k l0 a1 = some r) :
  Calls Try.prog 108 #[.slice A0 l0.length c0, .int .u8 a1] w fun e w' => ∃ v0_ : Value, e = .returned (v0_) ∧ Kd.R (Kd.slice 99 (Kd.slice 102 k102)) 121 w' w.heap.size (fun _ => True) v0_ r ∧ Below w.heap.size w w' := by
 have HR0 := Aside0.mk hr0
 have HC0 := Aside0.mk hc0
 clear hr0 hc0
 have HB := a_ (Below.refl w.heap.size w)
 have H : (spec_l04Across.l0 k l0 a1 (l0.length : Int) (([] : List (List (List (S102))))) 0) = some r := h
 clear h
 obtain ⟨y266, hy266⟩ : ∃ y_ : List (List (List (S102))), y_ = (([] : List (List (List (S102))))) := ⟨_, rfl⟩
 replace H : (spec_l04Across.l0 k l0 a1 (l0.length : Int) y266 0) = some r := rh_ hy266 H
 have Ny266 := Aside0.mk hy266
 clear hy266
 have H' := Aside0.mk H
 clear H
 go_enter Try.func108, Try.ntmps108
 go_wp2_with (first | ((with_reducible refine gate_dst (N := 14) rfl ?_); refine Kd.R_lit (Kd.slice 99 (Kd.slice 102 k102)) _ 121 ?hg (N := 14) ?hd (xs := ([] : List (List (List (S102))))) (inner := []) (ok := fun _ => True) (okp := fun _ => True) ?hr ?hp (fun _ hk => hk) trivial (Below.refl _ _) (Nat.le_refl _) (by simp) ?_; (case hd => rfl); (case hg => rfl); (case hr => first | (go_simp; done) | (go_simp; rfl)); (case hp => exact (Reps.none _ _)); intro v267 w3 ho4 hb hg_ hnew_; clear hg_ hnew_; (first | rw [← Ny266.out] at ho4 | (simp only [Int.reduceToNat] at ho4; rw [← Ny266.out] at ho4)); have HO268 := a_ (Kd.R_lower ho4 (below_size z31_)); replace HB := a_ (below_step z31_ hb); clear hb ho4))
 go_loopg [6, 7] k (fun kq v6 v7 w' => ∃ (x6_1 : List (List (List (S102)))) (x7_1 : Int), v7 = .int .i64 x7_1 ∧ Aside0 (spec_l04Across.l0 kq l0 a1 (l0.length : Int) x6_1 x7_1 = some r) ∧ Aside0 (kq ≤ k) ∧ Aside0 (Kd.R (Kd.slice 99 (Kd.slice 102 k102)) 121 w' w.heap.size (fun _ => True) v6 x6_1) ∧ Aside0 (Below w.heap.size w w'))
 case atStart => exact ⟨(y266), (0), z81_, H', ⟨Nat.le_refl _⟩, ⟨by (with_reducible repeat (first | apply Kd.R_alloc | apply Kd.R_drewN | apply Kd.R_drew)); exact HO268.out⟩, ⟨z31_⟩⟩
 case round =>
  clear H'
  obtain ⟨x6_1, x7_1, rfl, HA, HK1, HO_6, HB⟩ := hrel
  cases gk with
  | zero => exact absurd HA.out (by simp [spec_l04Across.l0])
  | succ k1 =>
   have H := HA.out
   clear HA
   simp only [spec_l04Across.l0] at H
   (try simp only [show ∀ (n_ : Nat) (k_ : Int), Int.tdiv (n_ : Int) k_ = (n_ : Int) / k_ from fun n_ k_ => Int.tdiv_eq_ediv_of_nonneg (Int.natCast_nonneg n_), show ∀ (n_ : Nat) (k_ : Int), Int.tmod (n_ : Int) k_ = (n_ : Int) % k_ from fun n_ k_ => Int.tmod_eq_emod_of_nonneg (Int.natCast_nonneg n_)] at H)
   by_cases c5 : x7_1 < (wrap64 (((l0.length : Int) / 2)))
   ·rw [if_pos c5] at H
    have c5b0 : decide (x7_1 < (wrap64 (((l0.length : Int) / 2)))) = true := decide_eq_true c5
    clear c5
    obtain ⟨ji6, hji6⟩ : ∃ j_ : Int, (wrap64 ((wrap64 ((l0.length : Int) - 1)) - x7_1)) = j_ := ⟨_, rfl⟩
    replace H : (if 0 ≤ (ji6) then (if (ji6) < (l0.length : Int) then (if 0 ≤ x7_1 then (if x7_1 < (l0.length : Int) then (if a1 = 84 then (if 0 ≤ (wrap64 ((wrap64 ((wrap64 (((l0.length : Int) / 2))) - 1)) - x7_1)) then (if (wrap64 ((wrap64 ((wrap64 (((l0.length : Int) / 2))) - 1)) - x7_1)) < (l0.length : Int) then (if 0 ≤ (wrap64 ((wrap64 (((l0.length : Int) / 2))) + x7_1)) then (if (wrap64 ((wrap64 (((l0.length : Int) / 2))) + x7_1)) < (l0.length : Int) then (spec_l04Across.l1 k1 l0 a1 (l0.length : Int) x6_1 x7_1 (rd_L5 l0 (wrap64 ((wrap64 ((wrap64 (((l0.length : Int) / 2))) - 1)) - x7_1))) (rd_L5 l0 (wrap64 ((wrap64 (((l0.length : Int) / 2))) + x7_1))) (([] : List (List (S102)))) 0) else (none)) else (none)) else (none)) else (none)) else (spec_l04Across.l101 k1 l0 a1 (l0.length : Int) x6_1 x7_1 (rd_L5 l0 (ji6)) (rd_L5 l0 x7_1) (([] : List (List (S102)))) 0)) else (none)) else (none)) else (none)) else (none)) = some r := by first | (rw [hji6] at H; exact H) | (simp only [hji6] at H ⊢; exact H)
    have hji6w : (IntKind.i64.wrap ((wrap64 ((l0.length : Int) - 1)) - x7_1)) = ji6 := (i64_w _).trans hji6
    by_cases c7 : 0 ≤ (ji6)
    ·rw [if_pos c7] at H
     have c7b0 : decide (0 ≤ (ji6)) = true := decide_eq_true c7
     clear c7
     by_cases c8 : (ji6) < (l0.length : Int)
     ·rw [if_pos c8] at H
      have c8b0 : decide ((ji6) < (l0.length : Int)) = true := decide_eq_true c8
      clear c8
      by_cases c9 : 0 ≤ x7_1
      ·rw [if_pos c9] at H
       have c9b0 : decide (0 ≤ x7_1) = true := decide_eq_true c9
       clear c9
       by_cases c10 : x7_1 < (l0.length : Int)
       ·rw [if_pos c10] at H
        have c10b0 : decide (x7_1 < (l0.length : Int)) = true := decide_eq_true c10
        clear c10
        by_cases c11 : a1 = 84
        ·rw [if_pos c11] at H
         have c11b0 : (a1 == 84) = true := beq_iff_eq.mpr c11
         have c11b1 : (a1 != 84) = false := bne_eq_false_iff_eq.mpr c11
         clear c11
         obtain ⟨ji12, hji12⟩ : ∃ j_ : Int, (wrap64 ((wrap64 ((wrap64 (((l0.length : Int) / 2))) - 1)) - x7_1)) = j_ := ⟨_, rfl⟩
         replace H : (if 0 ≤ (ji12) then (if (ji12) < (l0.length : Int) then (if 0 ≤ (wrap64 ((wrap64 (((l0.length : Int) / 2))) + x7_1)) then (if (wrap64 ((wrap64 (((l0.length : Int) / 2))) + x7_1)) < (l0.length : Int) then (spec_l04Across.l1 k1 l0 a1 (l0.length : Int) x6_1 x7_1 (rd_L5 l0 (ji12)) (rd_L5 l0 (wrap64 ((wrap64 (((l0.length : Int) / 2))) + x7_1))) (([] : List (List (S102)))) 0) else (none)) else (none)) else (none)) else (none)) = some r := by first | (rw [hji12] at H; exact H) | (simp only [hji12] at H ⊢; exact H)
         have hji12w : (IntKind.i64.wrap ((wrap64 ((wrap64 (((l0.length : Int) / 2))) - 1)) - x7_1)) = ji12 := (i64_w _).trans hji12
         by_cases c13 : 0 ≤ (ji12)
         ·rw [if_pos c13] at H
          have c13b0 : decide (0 ≤ (ji12)) = true := decide_eq_true c13
          clear c13
          by_cases c14 : (ji12) < (l0.length : Int)
          ·rw [if_pos c14] at H
           have c14b0 : decide ((ji12) < (l0.length : Int)) = true := decide_eq_true c14
           clear c14
           obtain ⟨ji15, hji15⟩ : ∃ j_ : Int, (wrap64 ((wrap64 (((l0.length : Int) / 2))) + x7_1)) = j_ := ⟨_, rfl⟩
           replace H : (if 0 ≤ (ji15) then (if (ji15) < (l0.length : Int) then (spec_l04Across.l1 k1 l0 a1 (l0.length : Int) x6_1 x7_1 (rd_L5 l0 (ji12)) (rd_L5 l0 (ji15)) (([] : List (List (S102)))) 0) else (none)) else (none)) = some r := by first | (rw [hji15] at H; exact H) | (simp only [hji15] at H ⊢; exact H)
           have hji15w : (IntKind.i64.wrap ((wrap64 (((l0.length : Int) / 2))) + x7_1)) = ji15 := (i64_w _).trans hji15
           by_cases c16 : 0 ≤ (ji15)
           ·rw [if_pos c16] at H
            have c16b0 : decide (0 ≤ (ji15)) = true := decide_eq_true c16
            clear c16
            by_cases c17 : (ji15) < (l0.length : Int)
            ·rw [if_pos c17] at H
             have c17b0 : decide ((ji15) < (l0.length : Int)) = true := decide_eq_true c17
             clear c17
             obtain ⟨y273, hy273⟩ : ∃ y_ : List (List (S102)), y_ = (([] : List (List (S102)))) := ⟨_, rfl⟩
             replace H : (spec_l04Across.l1 k1 l0 a1 (l0.length : Int) x6_1 x7_1 (rd_L5 l0 (ji12)) (rd_L5 l0 (ji15)) y273 0) = some r := rh_ hy273 H
             have Ny273 := Aside0.mk hy273
             clear hy273
             have H' := Aside0.mk H
             clear H
             try go_wp2
             replace HO_6 := a_ (Kd.R_drew HO_6.out)
             replace HB := a_ (below_drew1 HB.out)
             have p269 : 0 ≤ ((ji6) : Int) := of_decide_eq_true z80_
             have q269 : (ji6) < (l0.length : Int) := of_decide_eq_true z80_
             obtain ⟨ad269, A269_0, c269_0, e269, hx269_0, hl269_0, hi269_0⟩ := at_L5 HR0.out (ji6) p269 q269
             have hw269_0 := hx269_0
             cases e269
             replace hx269_0 := (HB.out.cell (World.block_lt_of_cell? _ _ hx269_0)).trans hx269_0
             have HR269_0 := Aside0.mk hi269_0
             have HC269_0 := Aside0.mk hl269_0
             clear hi269_0 hl269_0
             replace p269 := eq_true p269
             replace q269 := eq_true q269
             have p270 : 0 ≤ (x7_1 : Int) := of_decide_eq_true z80_
             have q270 : x7_1 < (l0.length : Int) := of_decide_eq_true z80_
             obtain ⟨ad270, A270_0, c270_0, e270, hx270_0, hl270_0, hi270_0⟩ := at_L5 HR0.out x7_1 p270 q270
             have hw270_0 := hx270_0
             obtain rfl : ad269 = ad270 := (by injection e270)
             replace hx270_0 := (HB.out.cell (World.block_lt_of_cell? _ _ hx270_0)).trans hx270_0
             have HR270_0 := Aside0.mk hi270_0
             have HC270_0 := Aside0.mk hl270_0
             clear hi270_0 hl270_0
             replace p270 := eq_true p270
             replace q270 := eq_true q270
             refine start_ (n := 13) (S := fun w' => w'.cell? (ad269.add ((ji6)).toNat) = some (.slice A269_0 (rd_L5 l0 (ji6)).length c269_0) ∧ w'.cell? (ad269.add (x7_1).toNat) = some (.slice A270_0 (rd_L5 l0 x7_1).length c270_0)) (ds := []) #[false, false, false, false, false, false, false, false, false, false, false, false, false] (by kernel_rfl) rfl rfl ⟨((HB.out.cell (World.block_lt_of_cell? _ _ hw269_0)).trans hw269_0), ((HB.out.cell (World.block_lt_of_cell? _ _ hw270_0)).trans hw270_0)⟩ (fun hHeld => ?_); refine with_tabW spec_l04Across.tab6 spec_l04Across.bits6 (fun HT_ HW_ => ?_)
             generalize wr.drew = w18 at HO_6 HB HR269_0 HR270_0 hx269_0 hx270_0 hHeld ⊢
             refine pu_ (i := 0) (N := some 21) #[true, false, false, false, false, false, false, false, false, false, false, false, false] ?_
             refine pu_ (i := 1) (N := some 22) #[true, true, false, false, false, false, false, false, false, false, false, false, false] ?_
             refine pu_ (i := 2) (N := some 23) #[true, true, true, false, false, false, false, false, false, false, false, false, false] ?_
             refine pu_ (i := 3) (N := some 24) #[true, true, true, true, false, false, false, false, false, false, false, false, false] ?_
             refine pu_ (i := 4) (N := some 25) #[true, true, true, true, true, false, false, false, false, false, false, false, false] ?_
             refine pu_ (i := 5) (N := some 26) #[true, true, true, true, true, true, false, false, false, false, false, false, false] ?_
             refine pu_ (i := 7) (N := some 28) #[true, true, true, true, true, true, false, true, false, false, false, false, false] ?_
             refine pu_ (i := 8) (N := some 29) #[true, true, true, true, true, true, false, true, true, false, false, false, false] ?_
             refine pu_ (i := 9) (N := some 30) #[true, true, true, true, true, true, false, true, true, true, false, false, false] ?_
             refine tk2_ (i := 6) (N := some 27) #[true, true, true, true, true, true, true, true, true, true, false, false, false] hHeld ?_
             refine pu_ (i := 11) (N := some 8) #[true, true, true, true, true, true, true, true, true, true, false, true, false] ?_
             refine tk2_ (i := 10) (N := some 31) #[true, true, true, true, true, true, true, true, true, true, true, true, false] hHeld ?_
             refine pu_ (i := 12) (N := some 9) #[true, true, true, true, true, true, true, true, true, true, true, true, true] ?_
             refine done_ (done_of HT_.out (by kernel_rfl)) ?_
             try go_wp2
             replace HO_6 := a_ (Kd.R_drew HO_6.out)
             replace HB := a_ (below_drew1 HB.out)
             have p271 : 0 ≤ ((ji12) : Int) := of_decide_eq_true z80_
             have q271 : (ji12) < (l0.length : Int) := of_decide_eq_true z80_
             obtain ⟨ad271, A271_0, c271_0, e271, hx271_0, hl271_0, hi271_0⟩ := at_L5 HR0.out (ji12) p271 q271
             have hw271_0 := hx271_0
             obtain rfl : ad269 = ad271 := (by injection e271)
             replace hx271_0 := (HB.out.cell (World.block_lt_of_cell? _ _ hx271_0)).trans hx271_0
             have HR271_0 := Aside0.mk hi271_0
             have HC271_0 := Aside0.mk hl271_0
             clear hi271_0 hl271_0
             replace p271 := eq_true p271
             replace q271 := eq_true q271
             have p272 : 0 ≤ ((ji15) : Int) := of_decide_eq_true z80_
             have q272 : (ji15) < (l0.length : Int) := of_decide_eq_true z80_
             obtain ⟨ad272, A272_0, c272_0, e272, hx272_0, hl272_0, hi272_0⟩ := at_L5 HR0.out (ji15) p272 q272
             have hw272_0 := hx272_0
             obtain rfl : ad269 = ad272 := (by injection e272)
             replace hx272_0 := (HB.out.cell (World.block_lt_of_cell? _ _ hx272_0)).trans hx272_0
             have HR272_0 := Aside0.mk hi272_0
             have HC272_0 := Aside0.mk hl272_0
             clear hi272_0 hl272_0
             replace p272 := eq_true p272
             replace q272 := eq_true q272
             refine start_ (n := 17) (S := fun w' => w'.cell? (ad269.add ((ji12)).toNat) = some (.slice A271_0 (rd_L5 l0 (ji12)).length c271_0) ∧ w'.cell? (ad269.add ((ji15)).toNat) = some (.slice A272_0 (rd_L5 l0 (ji15)).length c272_0)) (ds := []) #[false, false, false, false, false, false, false, false, false, false, false, false, false, false, false, false, false] (by kernel_rfl) rfl rfl ⟨((HB.out.cell (World.block_lt_of_cell? _ _ hw271_0)).trans hw271_0), ((HB.out.cell (World.block_lt_of_cell? _ _ hw272_0)).trans hw272_0)⟩ (fun hHeld => ?_); refine with_tabW spec_l04Across.tab8 spec_l04Across.bits8 (fun HT_ HW_ => ?_)
             generalize w18.drew = w19 at HO_6 HB HR271_0 HR272_0 hx271_0 hx272_0 hHeld ⊢
             refine pu_ (i := 0) (N := some 34) #[true, false, false, false, false, false, false, false, false, false, false, false, false, false, false, false, false] ?_
             refine pu_ (i := 1) (N := some 35) #[true, true, false, false, false, false, false, false, false, false, false, false, false, false, false, false, false] ?_
             refine pu_ (i := 2) (N := some 36) #[true, true, true, false, false, false, false, false, false, false, false, false, false, false, false, false, false] ?_
             refine pu_ (i := 3) (N := some 37) #[true, true, true, true, false, false, false, false, false, false, false, false, false, false, false, false, false] ?_
             refine pu_ (i := 4) (N := some 38) #[true, true, true, true, true, false, false, false, false, false, false, false, false, false, false, false, false] ?_
             refine pu_ (i := 5) (N := some 39) #[true, true, true, true, true, true, false, false, false, false, false, false, false, false, false, false, false] ?_
             refine pu_ (i := 6) (N := some 40) #[true, true, true, true, true, true, true, false, false, false, false, false, false, false, false, false, false] ?_
             refine pu_ (i := 8) (N := some 42) #[true, true, true, true, true, true, true, false, true, false, false, false, false, false, false, false, false] ?_
             refine pu_ (i := 9) (N := some 43) #[true, true, true, true, true, true, true, false, true, true, false, false, false, false, false, false, false] ?_
             refine pu_ (i := 10) (N := some 44) #[true, true, true, true, true, true, true, false, true, true, true, false, false, false, false, false, false] ?_
             refine pu_ (i := 11) (N := some 45) #[true, true, true, true, true, true, true, false, true, true, true, true, false, false, false, false, false] ?_
             refine pu_ (i := 12) (N := some 46) #[true, true, true, true, true, true, true, false, true, true, true, true, true, false, false, false, false] ?_
             refine pu_ (i := 13) (N := some 47) #[true, true, true, true, true, true, true, false, true, true, true, true, true, true, false, false, false] ?_
             refine tk2_ (i := 7) (N := some 41) #[true, true, true, true, true, true, true, true, true, true, true, true, true, true, false, false, false] hHeld ?_
             refine pu_ (i := 15) (N := some 8) #[true, true, true, true, true, true, true, true, true, true, true, true, true, true, false, true, false] ?_
             refine tk2_ (i := 14) (N := some 48) #[true, true, true, true, true, true, true, true, true, true, true, true, true, true, true, true, false] hHeld ?_
             refine pu_ (i := 16) (N := some 9) #[true, true, true, true, true, true, true, true, true, true, true, true, true, true, true, true, true] ?_
             refine done_ (done_of HT_.out (by kernel_rfl)) ?_
             try go_wp2_with (first | ((with_reducible refine gate_dst (N := 49) rfl ?_); refine Kd.S_lit (Kd.slice 102 k102) _ 99 ?hg (N := 49) ?hd (xs := ([] : List (List (S102)))) (inner := []) (ok := fun _ => True) (okp := fun _ => True) ?hr ?hp (fun _ hk => hk) trivial (Below.refl _ _) (Nat.le_refl _) (by simp) ?_; (case hd => rfl); (case hg => rfl); (case hr => first | (go_simp; done) | (go_simp; rfl)); (case hp => exact (Reps.none _ _)); intro v274 w20 ho21 hb hg_ hnew_; clear hg_ hnew_; (first | rw [← Ny273.out] at ho21 | (simp only [Int.reduceToNat] at ho21; rw [← Ny273.out] at ho21)); replace HO_6 := a_ (Kd.R_elder' (ra_ HO_6.out) (Kd.S_base ho21) hb); have HO275 := a_ (Kd.S_lower ho21 (below_size z31_)); replace HB := a_ (below_step z31_ hb); clear hb ho21))
             go_loopg [10, 11] k1 (fun kq v10 v11 w' => ∃ (x10_2 : List (List (S102))) (x11_2 : Int), v11 = .int .i64 x11_2 ∧ Aside0 (spec_l04Across.l1 kq l0 a1 (l0.length : Int) x6_1 x7_1 (rd_L5 l0 (ji12)) (rd_L5 l0 (ji15)) x10_2 x11_2 = some r) ∧ Aside0 (kq ≤ k1) ∧ Aside0 (Kd.R (Kd.slice 99 (Kd.slice 102 k102)) 121 w' w.heap.size (fun k_ => some k_ ≠ (v10 : Value).ownBlock) u6 x6_1) ∧ Aside0 (Kd.S (Kd.slice 102 k102) 99 w' w.heap.size (fun _ => True) v10 x10_2) ∧ Aside0 (Below w.heap.size w w'))
             case atStart => exact ⟨(y273), (0), z81_, H', ⟨Nat.le_refl _⟩, ⟨z37_⟩, ⟨by (with_reducible repeat (first | apply Kd.S_alloc | apply Kd.S_drewN | apply Kd.S_drew)); exact HO275.out⟩, ⟨z31_⟩⟩
             case round =>
              clear H'
              try clear c5b0; try clear c7b0; try clear c8b0; try clear c9b0; try clear c10b0; try clear c11b0; try clear c11b1; try clear c13b0; try clear c14b0; try clear c16b0; try clear c17b0; try clear hx269_0; try clear hx270_0; try clear hx271_0; try clear hx272_0; try clear p269; try clear p270; try clear p271; try clear p272; try clear q269; try clear q270; try clear q271; try clear q272
              obtain ⟨x10_2, x11_2, rfl, HA, HK2, HO_6, HO_10, HB⟩ := hrel
              cases gk with
              | zero => exact absurd HA.out (by simp [spec_l04Across.l1])
              | succ k2 =>
               have H := HA.out
               clear HA
               simp only [spec_l04Across.l1] at H
               by_cases c22 : x11_2 < ((rd_L5 l0 (ji12)).length : Int)
               ·rw [if_pos c22] at H
                have c22b0 : decide (x11_2 < ((rd_L5 l0 (ji12)).length : Int)) = true := decide_eq_true c22
                clear c22
                by_cases c23 : 0 ≤ x11_2
                ·rw [if_pos c23] at H
                 have c23b0 : decide (0 ≤ x11_2) = true := decide_eq_true c23
                 clear c23
                 replace H := Option.bind_eq_some_iff.mp H
                 obtain ⟨t277, A240, H⟩ := H
                 replace H : (if x11_2 < ((rd_L5 l0 (ji15)).length : Int) then (if t277.length + (rd_L4 (rd_L5 l0 (ji15)) x11_2).length < 5864062014805 then (if x10_2.length < 5864062014805 then (spec_l04Across.l1 k2 l0 a1 (l0.length : Int) x6_1 x7_1 (rd_L5 l0 (ji12)) (rd_L5 l0 (ji15)) (x10_2 ++ [(t277 ++ (rd_L4 (rd_L5 l0 (ji15)) x11_2))]) (wrap64 (x11_2 + 1))) else (none)) else (none)) else (none)) = some r := H
                 have A24 := Aside0.mk A240
                 clear A240
                 by_cases c25 : x11_2 < ((rd_L5 l0 (ji15)).length : Int)
                 ·rw [if_pos c25] at H
                  have c25b0 : decide (x11_2 < ((rd_L5 l0 (ji15)).length : Int)) = true := decide_eq_true c25
                  clear c25
                  by_cases c26 : t277.length + (rd_L4 (rd_L5 l0 (ji15)) x11_2).length < 5864062014805
                  ·rw [if_pos c26] at H
                   have LMc26 := Aside0.mk c26
                   clear c26
                   obtain ⟨y281, hy281⟩ : ∃ y_ : List (S102), y_ = (t277 ++ (rd_L4 (rd_L5 l0 (ji15)) x11_2)) := ⟨_, rfl⟩
                   replace H : (if x10_2.length < 5864062014805 then (spec_l04Across.l1 k2 l0 a1 (l0.length : Int) x6_1 x7_1 (rd_L5 l0 (ji12)) (rd_L5 l0 (ji15)) (x10_2 ++ [y281]) (wrap64 (x11_2 + 1))) else (none)) = some r := rh_ hy281 H
                   have Ny281 := Aside0.mk hy281
                   clear hy281
                   by_cases c27 : x10_2.length < 5864062014805
                   ·rw [if_pos c27] at H
                    have LMc27 := Aside0.mk c27
                    clear c27
                    obtain ⟨y284, hy284⟩ : ∃ y_ : List (List (S102)), y_ = (x10_2 ++ [y281]) := ⟨_, rfl⟩
                    replace H : (spec_l04Across.l1 k2 l0 a1 (l0.length : Int) x6_1 x7_1 (rd_L5 l0 (ji12)) (rd_L5 l0 (ji15)) y284 (wrap64 (x11_2 + 1))) = some r := rh_ hy284 H
                    have Ny284 := Aside0.mk hy284
                    clear hy284
                    have H' := Aside0.mk H
                    clear H
                    try go_wp2
                    replace HO_6 := a_ (Kd.R_drew HO_6.out)
                    replace HO_10 := a_ (Kd.S_drew HO_10.out)
                    replace HB := a_ (below_drew1 HB.out)
                    have p276 : 0 ≤ (x11_2 : Int) := of_decide_eq_true z80_
                    have q276 : x11_2 < ((rd_L5 l0 (ji12)).length : Int) := of_decide_eq_true z80_
                    obtain ⟨ad276, A276_0, c276_0, e276, hx276_0, hl276_0, hi276_0⟩ := at_L4 HR271_0.out x11_2 p276 q276
                    have hw276_0 := hx276_0
                    cases e276
                    replace hx276_0 := (HB.out.cell (World.block_lt_of_cell? _ _ hx276_0)).trans hx276_0
                    have HR276_0 := Aside0.mk hi276_0
                    have HC276_0 := Aside0.mk hl276_0
                    clear hi276_0 hl276_0
                    replace p276 := eq_true p276
                    replace q276 := eq_true q276
                    have p280 : 0 ≤ (x11_2 : Int) := of_decide_eq_true z80_
                    have q280 : x11_2 < ((rd_L5 l0 (ji15)).length : Int) := of_decide_eq_true z80_
                    obtain ⟨ad280, A280_0, c280_0, e280, hx280_0, hl280_0, hi280_0⟩ := at_L4 HR272_0.out x11_2 p280 q280
                    have hw280_0 := hx280_0
                    cases e280
                    replace hx280_0 := (HB.out.cell (World.block_lt_of_cell? _ _ hx280_0)).trans hx280_0
                    have HR280_0 := Aside0.mk hi280_0
                    have HC280_0 := Aside0.mk hl280_0
                    clear hi280_0 hl280_0
                    replace p280 := eq_true p280
                    replace q280 := eq_true q280
                    refine start_ (n := 14) (S := fun w' => w'.cell? (ad276.add (x11_2).toNat) = some (.slice A276_0 (rd_L4 (rd_L5 l0 (ji12)) x11_2).length c276_0) ∧ w'.cell? (ad280.add (x11_2).toNat) = some (.slice A280_0 (rd_L4 (rd_L5 l0 (ji15)) x11_2).length c280_0)) (ds := []) #[false, false, false, false, false, false, false, false, false, false, false, false, false, false] (by kernel_rfl) rfl rfl ⟨((HB.out.cell (World.block_lt_of_cell? _ _ hw276_0)).trans hw276_0), ((HB.out.cell (World.block_lt_of_cell? _ _ hw280_0)).trans hw280_0)⟩ (fun hHeld => ?_); refine with_tabW spec_l04Across.tab13 spec_l04Across.bits13 (fun HT_ HW_ => ?_)
                    generalize wr.drew = w28 at HO_6 HO_10 HB HR276_0 HR280_0 hx276_0 hx280_0 hHeld ⊢
                    refine pu_ (i := 0) (N := some 56) #[true, false, false, false, false, false, false, false, false, false, false, false, false, false] ?_
                    refine pu_ (i := 1) (N := some 57) #[true, true, false, false, false, false, false, false, false, false, false, false, false, false] ?_
                    refine pu_ (i := 2) (N := some 58) #[true, true, true, false, false, false, false, false, false, false, false, false, false, false] ?_
                    refine pu_ (i := 3) (N := some 59) #[true, true, true, true, false, false, false, false, false, false, false, false, false, false] ?_
                    refine pu_ (i := 6) (N := some 62) #[true, true, true, true, false, false, true, false, false, false, false, false, false, false] ?_
                    refine pu_ (i := 7) (N := some 63) #[true, true, true, true, false, false, true, true, false, false, false, false, false, false] ?_
                    refine pu_ (i := 8) (N := some 64) #[true, true, true, true, false, false, true, true, true, false, false, false, false, false] ?_
                    refine tk2_ (i := 4) (N := some 60) #[true, true, true, true, true, false, true, true, true, false, false, false, false, false] hHeld ?_
                    refine tk2_ (i := 9) (N := some 65) #[true, true, true, true, true, false, true, true, true, true, false, false, false, false] hHeld ?_
                    refine one_ (i := 5) (N := some 61) #[true, true, true, true, true, true, true, true, true, true, false, false, false, false] rfl rfl (one_of HT_.out (by kernel_rfl)) (by decide) (fun K hK => ?_)
                    refine goes_ Try.func116 (by kernel_rfl) rfl #[.slice A276_0 (rd_L4 (rd_L5 l0 (ji12)) x11_2).length c276_0, .bool false] (by rfl) rfl rfl (by (try simp only [List.map_toArray, List.map_cons, List.map_nil]); first | done | (simp only [hji12]; rfl) | rfl | (simp only [List.length_drop, List.length_take]; rfl)) ?_
                    with_reducible refine (spec_l04Turn.calls _ _ (rd_L4 (rd_L5 l0 (ji12)) x11_2) false t277 _ ?side1 ?side2 A24.out).mono ?_
                    (case side1 => exact kc_ (Kd.C_below HR276_0.out HB.out))
                    (case side2 => exact HC276_0.out)
                    rintro e w29 ⟨v278, rfl, ho0, hb⟩
                    refine ⟨_, rfl, ?_⟩
                    replace HO_6 := a_ (Kd.R_elder' (ra_ HO_6.out) (Kd.R_base ho0) hb)
                    replace HO_10 := a_ (Kd.S_elder' z61_ (Kd.R_base ho0) hb)
                    have HO279 := a_ (Kd.R_lower ho0 (below_size z31_))
                    replace HB := a_ (below_step z31_ hb)
                    (try clear hb)
                    (try clear hb2)
                    (try clear hk)
                    (try clear hi)
                    (try clear ho0)
                    refine hK.out _ _ ⟨((HB.out.cell (World.block_lt_of_cell? _ _ hw276_0)).trans hw276_0), ((HB.out.cell (World.block_lt_of_cell? _ _ hw280_0)).trans hw280_0)⟩ (fun hHeld => ?_)
                    clear hK K
                    refine nm_ ?_
                    refine one_ (i := 10) (N := some 66) #[true, true, true, true, true, true, true, true, true, true, true, false, false, false] rfl rfl (one_of HT_.out (by kernel_rfl)) (by decide) (fun K hK => ?_)
                    refine Kd.R_append_rows_step k102 (w0 := w) w.heap.size (by rfl) (.tmp 61) (.tmp 65) 99 102 (.agg #[(.int .i64 0), (.int .i64 0), (.bool false), (.bool false)]) 24 rfl Try.underlying99 info102 rfl (by decide) (by omega) v278 t277 (rd_L4 (rd_L5 l0 (ji15)) x11_2) _ _ _ (fun _ => True) (fun _ => False) rfl rfl ?aO ?aR (fun _ _ h => h) (fun _ h => h.elim) ?aF ?aB ?aS ?aL ?_
                    (case aR => exact kc_ (Kd.C_below HR280_0.out HB.out))
                    (case aB => exact z31_)
                    (case aF => exact (fun _ _ => trivial))
                    (case aO => exact (ra_ HO279.out))
                    (case aS => exact (below_size z31_))
                    (case aL => have := LMc26.out; omega)
                    intro v282 w30 ho hb hg hat
                    rw [← Ny281.out] at ho
                    replace HO_6 := a_ (Kd.R_after (ok := (fun k_ => some k_ ≠ (u10 : Value).ownBlock)) (ra_ HO_6.out) hg hat)
                    replace HO_10 := a_ (Kd.S_after (ok := (fun _ => True)) z61_ hg hat)
                    replace HB := a_ (hb)
                    have HO283 := a_ (ho)
                    clear HO279
                    clear ho hb hg hat
                    obtain ⟨Ao32, co32, eo32⟩ := Kd.R_slice HO283.out
                    (first | subst eo32 | (injection eo32 with f1_ f2_ f3_; have f4_ := f1_.symm; have f5_ := f3_.symm; clear f1_ f2_ f3_; subst f4_; subst f5_))
                    refine hK.out _ _ ⟨((HB.out.cell (World.block_lt_of_cell? _ _ hw276_0)).trans hw276_0), ((HB.out.cell (World.block_lt_of_cell? _ _ hw280_0)).trans hw280_0)⟩ (fun hHeld => ?_)
                    clear hK K
                    refine nm_ ?_
                    refine one_ (i := 11) (N := some 67) #[true, true, true, true, true, true, true, true, true, true, true, true, false, false] rfl rfl (one_of HT_.out (by kernel_rfl)) (by decide) (fun K hK => ?_)
                    refine value_ (w1 := ?_) (v := ?_) (by rfl) rfl ?_ ?_
                    rotate_left 2
                    ·go_simp
                     constructor
                     ·rfl
                     ·rfl
                    refine hK.out _ _ ⟨(World.cell?_alloc_lt _ _ _ (World.block_lt_of_cell? _ _ (((HB.out.cell (World.block_lt_of_cell? _ _ hw276_0)).trans hw276_0)))).trans (((HB.out.cell (World.block_lt_of_cell? _ _ hw276_0)).trans hw276_0)), (World.cell?_alloc_lt _ _ _ (World.block_lt_of_cell? _ _ (((HB.out.cell (World.block_lt_of_cell? _ _ hw280_0)).trans hw280_0)))).trans (((HB.out.cell (World.block_lt_of_cell? _ _ hw280_0)).trans hw280_0))⟩ (fun hHeld => ?_)
                    clear hK K
                    refine nm_ ?_
                    refine one_ (i := 12) (N := some 68) #[true, true, true, true, true, true, true, true, true, true, true, true, true, false] rfl rfl (one_of HT_.out (by kernel_rfl)) (by decide) (fun K hK => ?_)
                    refine Kd.S_append_step (Kd.slice 102 k102) (w0 := w) w.heap.size (by rfl) (.tmp 56) (.tmp 67) 121 99 (.slice none 0 0) 24 rfl Try.underlying121 info99 rfl (by decide) (by omega) u10 x10_2 y281 [.slice Ao32 y281.length co32] (fun _ => True) (fun k_ => some k_ = (.slice Ao32 y281.length co32 : Value).ownBlock) rfl rfl ?aP (fun k_ hk_ => ((Kd.R_mono (ok' := fun k_ => ((fun _ => True)) k_ ∧ some k_ ≠ (u10 : Value).ownBlock) (Kd.R_apart' (HO283.out) (Kd.S_typed HO_10.out) (by decide)) (fun k_ hk => ⟨trivial, hk.2⟩))).1 k_ hk_.symm) ?aF ?aO ?aB ?aS ?aL ?_
                    (case aP => exact Kd.M_row (Kd.R_mono (Kd.R_tight rfl (Kd.R_mono (ok' := fun k_ => ((fun _ => True)) k_ ∧ some k_ ≠ (u10 : Value).ownBlock) (Kd.R_apart' (HO283.out) (Kd.S_typed HO_10.out) (by decide)) (fun k_ hk => ⟨trivial, hk.2⟩))) (fun _ h_ => h_)))
                    (case aB => exact z31_)
                    (case aF => exact (fun _ _ => trivial))
                    (case aO => exact (by (with_reducible repeat (first | apply Kd.S_alloc | apply Kd.S_drewN | apply Kd.S_drew)); exact Kd.S_mono HO_10.out (fun k_ hk => ⟨trivial, fun e_ => hk.2 e_⟩)))
                    (case aS => exact (below_size z31_))
                    (case aL => have := LMc27.out; omega)
                    intro v285 w31 ho hb hg hat
                    rw [← Ny284.out] at ho
                    replace HO_6 := a_ (Kd.R_after (ok := (fun k_ => nb_ k_ Ao32 y281.length co32)) (rc_ (h := by exact Kd.R_mono HO_6.out (fun _ hk => ⟨hk.2, hk.1⟩))) hg hat)
                    replace HB := a_ (hb)
                    have HO286 := a_ (ho)
                    clear HO283; clear HO_10
                    clear ho hb hg hat
                    refine hK.out _ _ ⟨((HB.out.cell (World.block_lt_of_cell? _ _ hw276_0)).trans hw276_0), ((HB.out.cell (World.block_lt_of_cell? _ _ hw280_0)).trans hw280_0)⟩ (fun hHeld => ?_)
                    clear hK K
                    refine nm_ ?_
                    refine pu_ (i := 13) (N := some 10) #[true, true, true, true, true, true, true, true, true, true, true, true, true, true] ?_
                    refine done_ (done_of HT_.out (by kernel_rfl)) ?_
                    try go_wp2
                    go_roundg k2
                    case measure => have := HK1.out; have := HK2.out; omega
                    case rel => exact ⟨(y284), (wrap64 (x11_2 + 1)), z81_, H', ⟨z83_⟩, ⟨z37_⟩, ⟨by (with_reducible repeat (first | apply Kd.S_alloc | apply Kd.S_drewN | apply Kd.S_drew)); exact HO286.out⟩, ⟨z31_⟩⟩
                   ·rw [if_neg c27] at H
                    exact absurd H (by simp)
                  ·rw [if_neg c26] at H
                   exact absurd H (by simp)
                 ·rw [if_neg c25] at H
                  exact absurd H (by simp)
                ·rw [if_neg c23] at H
                 exact absurd H (by simp)
               ·rw [if_neg c22] at H
                have c22b0 : decide (x11_2 < ((rd_L5 l0 (ji12)).length : Int)) = false := decide_eq_false c22
                clear c22
                by_cases c33 : x6_1.length < 5864062014805
                ·rw [if_pos c33] at H
                 have LMc33 := Aside0.mk c33
                 clear c33
                 obtain ⟨y287, hy287⟩ : ∃ y_ : List (List (List (S102))), y_ = (x6_1 ++ [x10_2]) := ⟨_, rfl⟩
                 replace H : (spec_l04Across.l0 k2 l0 a1 (l0.length : Int) y287 (wrap64 (x7_1 + 1))) = some r := rh_ hy287 H
                 have Ny287 := Aside0.mk hy287
                 clear hy287
                 have H' := Aside0.mk H
                 clear H
                 obtain ⟨Ao35, co35, eo35⟩ := Kd.S_slice HO_10.out
                 subst eo35
                 go_wp2_with (first | ((with_reducible refine gate_builtin (b := .append) (xs := #[.tmp 69, .tmp 71]) rfl ?_); at_builtin; refine Kd.R_append (Kd.slice 99 (Kd.slice 102 k102)) (w0 := w) w.heap.size rfl (.tmp 69) (.tmp 71) 118 121 (.slice none 0 0) 24 rfl Try.underlying118 info121 rfl (by decide) (by omega) u6 x6_1 x10_2 [.slice Ao35 x10_2.length co35] (fun _ => True) (fun k_ => ((fun _ => True)) k_ ∧ some k_ ≠ (u6 : Value).ownBlock) rfl rfl ?aP (fun _ hk => hk) ?aF ?aO ?aB ?aS ?aL ?_; (case aP => exact Kd.M_row (Kd.R_mono (Kd.R_apart' ((Kd.S_R HO_10.out)) (Kd.R_typed HO_6.out) (by decide)) (fun k_ hk => ⟨trivial, hk.2⟩))); (case aB => exact z31_); (case aF => exact (fun _ _ => trivial)); (case aO => exact (rc_ (h := by exact Kd.R_mono HO_6.out (fun _ hk => trivial)))); (case aS => exact (below_size z31_)); (case aL => have := LMc33.out; omega); intro v288 w34 ho hb hg hat; rw [← Ny287.out] at ho; replace HB := a_ (hb); have HO289 := a_ (ho); clear HO_10; clear HO_6; clear ho hb hg hat))
                 go_roundg k2
                 case measure => have := HK1.out; have := HK2.out; omega
                 case rel => exact ⟨(y287), (wrap64 (x7_1 + 1)), z81_, H', ⟨z83_⟩, ⟨by (with_reducible repeat (first | apply Kd.R_alloc | apply Kd.R_drewN | apply Kd.R_drew)); exact HO289.out⟩, ⟨z31_⟩⟩
                ·rw [if_neg c33] at H
                 exact absurd H (by simp)
            ·rw [if_neg c17] at H
             exact absurd H (by simp)
           ·rw [if_neg c16] at H
            exact absurd H (by simp)
          ·rw [if_neg c14] at H
           exact absurd H (by simp)
         ·rw [if_neg c13] at H
          exact absurd H (by simp)
        ·rw [if_neg c11] at H
         have c11b0 : (a1 == 84) = false := beq_eq_false_iff_ne.mpr c11
         have c11b1 : (a1 != 84) = true := bne_iff_ne.mpr c11
         obtain ⟨y290, hy290⟩ : ∃ y_ : List (List (S102)), y_ = (([] : List (List (S102)))) := ⟨_, rfl⟩
         replace H : (spec_l04Across.l101 k1 l0 a1 (l0.length : Int) x6_1 x7_1 (rd_L5 l0 (ji6)) (rd_L5 l0 x7_1) y290 0) = some r := rh_ hy290 H
         have Ny290 := Aside0.mk hy290
         clear hy290
         have H' := Aside0.mk H
         clear H
         try go_wp2
         replace HO_6 := a_ (Kd.R_drew HO_6.out)
         replace HB := a_ (below_drew1 HB.out)
         have p269 : 0 ≤ ((ji6) : Int) := of_decide_eq_true z80_
         have q269 : (ji6) < (l0.length : Int) := of_decide_eq_true z80_
         obtain ⟨ad269, A269_0, c269_0, e269, hx269_0, hl269_0, hi269_0⟩ := at_L5 HR0.out (ji6) p269 q269
         have hw269_0 := hx269_0
         cases e269
         replace hx269_0 := (HB.out.cell (World.block_lt_of_cell? _ _ hx269_0)).trans hx269_0
         have HR269_0 := Aside0.mk hi269_0
         have HC269_0 := Aside0.mk hl269_0
         clear hi269_0 hl269_0
         replace p269 := eq_true p269
         replace q269 := eq_true q269
         have p270 : 0 ≤ (x7_1 : Int) := of_decide_eq_true z80_
         have q270 : x7_1 < (l0.length : Int) := of_decide_eq_true z80_
         obtain ⟨ad270, A270_0, c270_0, e270, hx270_0, hl270_0, hi270_0⟩ := at_L5 HR0.out x7_1 p270 q270
         have hw270_0 := hx270_0
         obtain rfl : ad269 = ad270 := (by injection e270)
         replace hx270_0 := (HB.out.cell (World.block_lt_of_cell? _ _ hx270_0)).trans hx270_0
         have HR270_0 := Aside0.mk hi270_0
         have HC270_0 := Aside0.mk hl270_0
         clear hi270_0 hl270_0
         replace p270 := eq_true p270
         replace q270 := eq_true q270
         refine start_ (n := 13) (S := fun w' => w'.cell? (ad269.add ((ji6)).toNat) = some (.slice A269_0 (rd_L5 l0 (ji6)).length c269_0) ∧ w'.cell? (ad269.add (x7_1).toNat) = some (.slice A270_0 (rd_L5 l0 x7_1).length c270_0)) (ds := []) #[false, false, false, false, false, false, false, false, false, false, false, false, false] (by kernel_rfl) rfl rfl ⟨((HB.out.cell (World.block_lt_of_cell? _ _ hw269_0)).trans hw269_0), ((HB.out.cell (World.block_lt_of_cell? _ _ hw270_0)).trans hw270_0)⟩ (fun hHeld => ?_); refine with_tabW spec_l04Across.tab6 spec_l04Across.bits6 (fun HT_ HW_ => ?_)
         generalize wr.drew = w36 at HO_6 HB HR269_0 HR270_0 hx269_0 hx270_0 hHeld ⊢
         refine pu_ (i := 0) (N := some 21) #[true, false, false, false, false, false, false, false, false, false, false, false, false] ?_
         refine pu_ (i := 1) (N := some 22) #[true, true, false, false, false, false, false, false, false, false, false, false, false] ?_
         refine pu_ (i := 2) (N := some 23) #[true, true, true, false, false, false, false, false, false, false, false, false, false] ?_
         refine pu_ (i := 3) (N := some 24) #[true, true, true, true, false, false, false, false, false, false, false, false, false] ?_
         refine pu_ (i := 4) (N := some 25) #[true, true, true, true, true, false, false, false, false, false, false, false, false] ?_
         refine pu_ (i := 5) (N := some 26) #[true, true, true, true, true, true, false, false, false, false, false, false, false] ?_
         refine pu_ (i := 7) (N := some 28) #[true, true, true, true, true, true, false, true, false, false, false, false, false] ?_
         refine pu_ (i := 8) (N := some 29) #[true, true, true, true, true, true, false, true, true, false, false, false, false] ?_
         refine pu_ (i := 9) (N := some 30) #[true, true, true, true, true, true, false, true, true, true, false, false, false] ?_
         refine tk2_ (i := 6) (N := some 27) #[true, true, true, true, true, true, true, true, true, true, false, false, false] hHeld ?_
         refine pu_ (i := 11) (N := some 8) #[true, true, true, true, true, true, true, true, true, true, false, true, false] ?_
         refine tk2_ (i := 10) (N := some 31) #[true, true, true, true, true, true, true, true, true, true, true, true, false] hHeld ?_
         refine pu_ (i := 12) (N := some 9) #[true, true, true, true, true, true, true, true, true, true, true, true, true] ?_
         refine done_ (done_of HT_.out (by kernel_rfl)) ?_
         try go_wp2_with (first | ((with_reducible refine gate_dst (N := 49) rfl ?_); refine Kd.S_lit (Kd.slice 102 k102) _ 99 ?hg (N := 49) ?hd (xs := ([] : List (List (S102)))) (inner := []) (ok := fun _ => True) (okp := fun _ => True) ?hr ?hp (fun _ hk => hk) trivial (Below.refl _ _) (Nat.le_refl _) (by simp) ?_; (case hd => rfl); (case hg => rfl); (case hr => first | (go_simp; done) | (go_simp; rfl)); (case hp => exact (Reps.none _ _)); intro v291 w37 ho38 hb hg_ hnew_; clear hg_ hnew_; (first | rw [← Ny290.out] at ho38 | (simp only [Int.reduceToNat] at ho38; rw [← Ny290.out] at ho38)); replace HO_6 := a_ (Kd.R_elder' (ra_ HO_6.out) (Kd.S_base ho38) hb); have HO292 := a_ (Kd.S_lower ho38 (below_size z31_)); replace HB := a_ (below_step z31_ hb); clear hb ho38))
         go_loopg [10, 11] k1 (fun kq v10 v11 w' => ∃ (x10_2 : List (List (S102))) (x11_2 : Int), v11 = .int .i64 x11_2 ∧ Aside0 (spec_l04Across.l101 kq l0 a1 (l0.length : Int) x6_1 x7_1 (rd_L5 l0 (ji6)) (rd_L5 l0 x7_1) x10_2 x11_2 = some r) ∧ Aside0 (kq ≤ k1) ∧ Aside0 (Kd.R (Kd.slice 99 (Kd.slice 102 k102)) 121 w' w.heap.size (fun k_ => some k_ ≠ (v10 : Value).ownBlock) u6 x6_1) ∧ Aside0 (Kd.S (Kd.slice 102 k102) 99 w' w.heap.size (fun _ => True) v10 x10_2) ∧ Aside0 (Below w.heap.size w w'))
         case atStart => exact ⟨(y290), (0), z81_, H', ⟨Nat.le_refl _⟩, ⟨z37_⟩, ⟨by (with_reducible repeat (first | apply Kd.S_alloc | apply Kd.S_drewN | apply Kd.S_drew)); exact HO292.out⟩, ⟨z31_⟩⟩
         case round =>
          clear H'
          try clear c5b0; try clear c7b0; try clear c8b0; try clear c9b0; try clear c10b0; try clear c11; try clear c11b0; try clear c11b1; try clear hx269_0; try clear hx270_0; try clear p269; try clear p270; try clear q269; try clear q270
          obtain ⟨x10_2, x11_2, rfl, HA, HK2, HO_6, HO_10, HB⟩ := hrel
          cases gk with
          | zero => exact absurd HA.out (by simp [spec_l04Across.l101])
          | succ k2 =>
           have H := HA.out
           clear HA
           simp only [spec_l04Across.l101] at H
           by_cases c39 : x11_2 < ((rd_L5 l0 (ji6)).length : Int)
           ·rw [if_pos c39] at H
            have c39b0 : decide (x11_2 < ((rd_L5 l0 (ji6)).length : Int)) = true := decide_eq_true c39
            clear c39
            by_cases c40 : 0 ≤ x11_2
            ·rw [if_pos c40] at H
             have c40b0 : decide (0 ≤ x11_2) = true := decide_eq_true c40
             clear c40
             replace H := Option.bind_eq_some_iff.mp H
             obtain ⟨t294, A410, H⟩ := H
             replace H : (if x11_2 < ((rd_L5 l0 x7_1).length : Int) then (if t294.length + (rd_L4 (rd_L5 l0 x7_1) x11_2).length < 5864062014805 then (if x10_2.length < 5864062014805 then (spec_l04Across.l101 k2 l0 a1 (l0.length : Int) x6_1 x7_1 (rd_L5 l0 (ji6)) (rd_L5 l0 x7_1) (x10_2 ++ [(t294 ++ (rd_L4 (rd_L5 l0 x7_1) x11_2))]) (wrap64 (x11_2 + 1))) else (none)) else (none)) else (none)) = some r := H
             have A41 := Aside0.mk A410
             clear A410
             by_cases c42 : x11_2 < ((rd_L5 l0 x7_1).length : Int)
             ·rw [if_pos c42] at H
              have c42b0 : decide (x11_2 < ((rd_L5 l0 x7_1).length : Int)) = true := decide_eq_true c42
              clear c42
              by_cases c43 : t294.length + (rd_L4 (rd_L5 l0 x7_1) x11_2).length < 5864062014805
              ·rw [if_pos c43] at H
               have LMc43 := Aside0.mk c43
               clear c43
               obtain ⟨y298, hy298⟩ : ∃ y_ : List (S102), y_ = (t294 ++ (rd_L4 (rd_L5 l0 x7_1) x11_2)) := ⟨_, rfl⟩
               replace H : (if x10_2.length < 5864062014805 then (spec_l04Across.l101 k2 l0 a1 (l0.length : Int) x6_1 x7_1 (rd_L5 l0 (ji6)) (rd_L5 l0 x7_1) (x10_2 ++ [y298]) (wrap64 (x11_2 + 1))) else (none)) = some r := rh_ hy298 H
               have Ny298 := Aside0.mk hy298
               clear hy298
               by_cases c44 : x10_2.length < 5864062014805
               ·rw [if_pos c44] at H
                have LMc44 := Aside0.mk c44
                clear c44
                obtain ⟨y301, hy301⟩ : ∃ y_ : List (List (S102)), y_ = (x10_2 ++ [y298]) := ⟨_, rfl⟩
                replace H : (spec_l04Across.l101 k2 l0 a1 (l0.length : Int) x6_1 x7_1 (rd_L5 l0 (ji6)) (rd_L5 l0 x7_1) y301 (wrap64 (x11_2 + 1))) = some r := rh_ hy301 H
                have Ny301 := Aside0.mk hy301
                clear hy301
                have H' := Aside0.mk H
                clear H
                try go_wp2
                replace HO_6 := a_ (Kd.R_drew HO_6.out)
                replace HO_10 := a_ (Kd.S_drew HO_10.out)
                replace HB := a_ (below_drew1 HB.out)
                have p293 : 0 ≤ (x11_2 : Int) := of_decide_eq_true z80_
                have q293 : x11_2 < ((rd_L5 l0 (ji6)).length : Int) := of_decide_eq_true z80_
                obtain ⟨ad293, A293_0, c293_0, e293, hx293_0, hl293_0, hi293_0⟩ := at_L4 HR269_0.out x11_2 p293 q293
                have hw293_0 := hx293_0
                cases e293
                replace hx293_0 := (HB.out.cell (World.block_lt_of_cell? _ _ hx293_0)).trans hx293_0
                have HR293_0 := Aside0.mk hi293_0
                have HC293_0 := Aside0.mk hl293_0
                clear hi293_0 hl293_0
                replace p293 := eq_true p293
                replace q293 := eq_true q293
                have p297 : 0 ≤ (x11_2 : Int) := of_decide_eq_true z80_
                have q297 : x11_2 < ((rd_L5 l0 x7_1).length : Int) := of_decide_eq_true z80_
                obtain ⟨ad297, A297_0, c297_0, e297, hx297_0, hl297_0, hi297_0⟩ := at_L4 HR270_0.out x11_2 p297 q297
                have hw297_0 := hx297_0
                cases e297
                replace hx297_0 := (HB.out.cell (World.block_lt_of_cell? _ _ hx297_0)).trans hx297_0
                have HR297_0 := Aside0.mk hi297_0
                have HC297_0 := Aside0.mk hl297_0
                clear hi297_0 hl297_0
                replace p297 := eq_true p297
                replace q297 := eq_true q297
                refine start_ (n := 14) (S := fun w' => w'.cell? (ad293.add (x11_2).toNat) = some (.slice A293_0 (rd_L4 (rd_L5 l0 (ji6)) x11_2).length c293_0) ∧ w'.cell? (ad297.add (x11_2).toNat) = some (.slice A297_0 (rd_L4 (rd_L5 l0 x7_1) x11_2).length c297_0)) (ds := []) #[false, false, false, false, false, false, false, false, false, false, false, false, false, false] (by kernel_rfl) rfl rfl ⟨((HB.out.cell (World.block_lt_of_cell? _ _ hw293_0)).trans hw293_0), ((HB.out.cell (World.block_lt_of_cell? _ _ hw297_0)).trans hw297_0)⟩ (fun hHeld => ?_); refine with_tabW spec_l04Across.tab13 spec_l04Across.bits13 (fun HT_ HW_ => ?_)
                generalize wr.drew = w45 at HO_6 HO_10 HB HR293_0 HR297_0 hx293_0 hx297_0 hHeld ⊢
                refine pu_ (i := 0) (N := some 56) #[true, false, false, false, false, false, false, false, false, false, false, false, false, false] ?_
                refine pu_ (i := 1) (N := some 57) #[true, true, false, false, false, false, false, false, false, false, false, false, false, false] ?_
                refine pu_ (i := 2) (N := some 58) #[true, true, true, false, false, false, false, false, false, false, false, false, false, false] ?_
                refine pu_ (i := 3) (N := some 59) #[true, true, true, true, false, false, false, false, false, false, false, false, false, false] ?_
                refine pu_ (i := 6) (N := some 62) #[true, true, true, true, false, false, true, false, false, false, false, false, false, false] ?_
                refine pu_ (i := 7) (N := some 63) #[true, true, true, true, false, false, true, true, false, false, false, false, false, false] ?_
                refine pu_ (i := 8) (N := some 64) #[true, true, true, true, false, false, true, true, true, false, false, false, false, false] ?_
                refine tk2_ (i := 4) (N := some 60) #[true, true, true, true, true, false, true, true, true, false, false, false, false, false] hHeld ?_
                refine tk2_ (i := 9) (N := some 65) #[true, true, true, true, true, false, true, true, true, true, false, false, false, false] hHeld ?_
                refine one_ (i := 5) (N := some 61) #[true, true, true, true, true, true, true, true, true, true, false, false, false, false] rfl rfl (one_of HT_.out (by kernel_rfl)) (by decide) (fun K hK => ?_)
                refine goes_ Try.func116 (by kernel_rfl) rfl #[.slice A293_0 (rd_L4 (rd_L5 l0 (ji6)) x11_2).length c293_0, .bool false] (by rfl) rfl rfl (by (try simp only [List.map_toArray, List.map_cons, List.map_nil]); first | done | (simp only [hji6]; rfl) | rfl | (simp only [List.length_drop, List.length_take]; rfl)) ?_
                with_reducible refine (spec_l04Turn.calls _ _ (rd_L4 (rd_L5 l0 (ji6)) x11_2) false t294 _ ?side1 ?side2 A41.out).mono ?_
                (case side1 => exact kc_ (Kd.C_below HR293_0.out HB.out))
                (case side2 => exact HC293_0.out)
                rintro e w46 ⟨v295, rfl, ho0, hb⟩
                refine ⟨_, rfl, ?_⟩
                replace HO_6 := a_ (Kd.R_elder' (ra_ HO_6.out) (Kd.R_base ho0) hb)
                replace HO_10 := a_ (Kd.S_elder' z61_ (Kd.R_base ho0) hb)
                have HO296 := a_ (Kd.R_lower ho0 (below_size z31_))
                replace HB := a_ (below_step z31_ hb)
                (try clear hb)
                (try clear hb2)
                (try clear hk)
                (try clear hi)
                (try clear ho0)
                refine hK.out _ _ ⟨((HB.out.cell (World.block_lt_of_cell? _ _ hw293_0)).trans hw293_0), ((HB.out.cell (World.block_lt_of_cell? _ _ hw297_0)).trans hw297_0)⟩ (fun hHeld => ?_)
                clear hK K
                refine nm_ ?_
                refine one_ (i := 10) (N := some 66) #[true, true, true, true, true, true, true, true, true, true, true, false, false, false] rfl rfl (one_of HT_.out (by kernel_rfl)) (by decide) (fun K hK => ?_)
                refine Kd.R_append_rows_step k102 (w0 := w) w.heap.size (by rfl) (.tmp 61) (.tmp 65) 99 102 (.agg #[(.int .i64 0), (.int .i64 0), (.bool false), (.bool false)]) 24 rfl Try.underlying99 info102 rfl (by decide) (by omega) v295 t294 (rd_L4 (rd_L5 l0 x7_1) x11_2) _ _ _ (fun _ => True) (fun _ => False) rfl rfl ?aO ?aR (fun _ _ h => h) (fun _ h => h.elim) ?aF ?aB ?aS ?aL ?_
                (case aR => exact kc_ (Kd.C_below HR297_0.out HB.out))
                (case aB => exact z31_)
                (case aF => exact (fun _ _ => trivial))
                (case aO => exact (ra_ HO296.out))
                (case aS => exact (below_size z31_))
                (case aL => have := LMc43.out; omega)
                intro v299 w47 ho hb hg hat
                rw [← Ny298.out] at ho
                replace HO_6 := a_ (Kd.R_after (ok := (fun k_ => some k_ ≠ (u10 : Value).ownBlock)) (ra_ HO_6.out) hg hat)
                replace HO_10 := a_ (Kd.S_after (ok := (fun _ => True)) z61_ hg hat)
                replace HB := a_ (hb)
                have HO300 := a_ (ho)
                clear HO296
                clear ho hb hg hat
                obtain ⟨Ao49, co49, eo49⟩ := Kd.R_slice HO300.out
                (first | subst eo49 | (injection eo49 with f1_ f2_ f3_; have f4_ := f1_.symm; have f5_ := f3_.symm; clear f1_ f2_ f3_; subst f4_; subst f5_))
                refine hK.out _ _ ⟨((HB.out.cell (World.block_lt_of_cell? _ _ hw293_0)).trans hw293_0), ((HB.out.cell (World.block_lt_of_cell? _ _ hw297_0)).trans hw297_0)⟩ (fun hHeld => ?_)
                clear hK K
                refine nm_ ?_
                refine one_ (i := 11) (N := some 67) #[true, true, true, true, true, true, true, true, true, true, true, true, false, false] rfl rfl (one_of HT_.out (by kernel_rfl)) (by decide) (fun K hK => ?_)
                refine value_ (w1 := ?_) (v := ?_) (by rfl) rfl ?_ ?_
                rotate_left 2
                ·go_simp
                 constructor
                 ·rfl
                 ·rfl
                refine hK.out _ _ ⟨(World.cell?_alloc_lt _ _ _ (World.block_lt_of_cell? _ _ (((HB.out.cell (World.block_lt_of_cell? _ _ hw293_0)).trans hw293_0)))).trans (((HB.out.cell (World.block_lt_of_cell? _ _ hw293_0)).trans hw293_0)), (World.cell?_alloc_lt _ _ _ (World.block_lt_of_cell? _ _ (((HB.out.cell (World.block_lt_of_cell? _ _ hw297_0)).trans hw297_0)))).trans (((HB.out.cell (World.block_lt_of_cell? _ _ hw297_0)).trans hw297_0))⟩ (fun hHeld => ?_)
                clear hK K
                refine nm_ ?_
                refine one_ (i := 12) (N := some 68) #[true, true, true, true, true, true, true, true, true, true, true, true, true, false] rfl rfl (one_of HT_.out (by kernel_rfl)) (by decide) (fun K hK => ?_)
                refine Kd.S_append_step (Kd.slice 102 k102) (w0 := w) w.heap.size (by rfl) (.tmp 56) (.tmp 67) 121 99 (.slice none 0 0) 24 rfl Try.underlying121 info99 rfl (by decide) (by omega) u10 x10_2 y298 [.slice Ao49 y298.length co49] (fun _ => True) (fun k_ => some k_ = (.slice Ao49 y298.length co49 : Value).ownBlock) rfl rfl ?aP (fun k_ hk_ => ((Kd.R_mono (ok' := fun k_ => ((fun _ => True)) k_ ∧ some k_ ≠ (u10 : Value).ownBlock) (Kd.R_apart' (HO300.out) (Kd.S_typed HO_10.out) (by decide)) (fun k_ hk => ⟨trivial, hk.2⟩))).1 k_ hk_.symm) ?aF ?aO ?aB ?aS ?aL ?_
                (case aP => exact Kd.M_row (Kd.R_mono (Kd.R_tight rfl (Kd.R_mono (ok' := fun k_ => ((fun _ => True)) k_ ∧ some k_ ≠ (u10 : Value).ownBlock) (Kd.R_apart' (HO300.out) (Kd.S_typed HO_10.out) (by decide)) (fun k_ hk => ⟨trivial, hk.2⟩))) (fun _ h_ => h_)))
                (case aB => exact z31_)
                (case aF => exact (fun _ _ => trivial))
                (case aO => exact (by (with_reducible repeat (first | apply Kd.S_alloc | apply Kd.S_drewN | apply Kd.S_drew)); exact Kd.S_mono HO_10.out (fun k_ hk => ⟨trivial, fun e_ => hk.2 e_⟩)))
                (case aS => exact (below_size z31_))
                (case aL => have := LMc44.out; omega)
                intro v302 w48 ho hb hg hat
                rw [← Ny301.out] at ho
                replace HO_6 := a_ (Kd.R_after (ok := (fun k_ => nb_ k_ Ao49 y298.length co49)) (rc_ (h := by exact Kd.R_mono HO_6.out (fun _ hk => ⟨hk.2, hk.1⟩))) hg hat)
                replace HB := a_ (hb)
                have HO303 := a_ (ho)
                clear HO300; clear HO_10
                clear ho hb hg hat
                refine hK.out _ _ ⟨((HB.out.cell (World.block_lt_of_cell? _ _ hw293_0)).trans hw293_0), ((HB.out.cell (World.block_lt_of_cell? _ _ hw297_0)).trans hw297_0)⟩ (fun hHeld => ?_)
                clear hK K
                refine nm_ ?_
                refine pu_ (i := 13) (N := some 10) #[true, true, true, true, true, true, true, true, true, true, true, true, true, true] ?_
                refine done_ (done_of HT_.out (by kernel_rfl)) ?_
                try go_wp2
                go_roundg k2
                case measure => have := HK1.out; have := HK2.out; omega
                case rel => exact ⟨(y301), (wrap64 (x11_2 + 1)), z81_, H', ⟨z83_⟩, ⟨z37_⟩, ⟨by (with_reducible repeat (first | apply Kd.S_alloc | apply Kd.S_drewN | apply Kd.S_drew)); exact HO303.out⟩, ⟨z31_⟩⟩
               ·rw [if_neg c44] at H
                exact absurd H (by simp)
              ·rw [if_neg c43] at H
               exact absurd H (by simp)
             ·rw [if_neg c42] at H
              exact absurd H (by simp)
            ·rw [if_neg c40] at H
             exact absurd H (by simp)
           ·rw [if_neg c39] at H
            have c39b0 : decide (x11_2 < ((rd_L5 l0 (ji6)).length : Int)) = false := decide_eq_false c39
            clear c39
            by_cases c50 : x6_1.length < 5864062014805
            ·rw [if_pos c50] at H
             have LMc50 := Aside0.mk c50
             clear c50
             obtain ⟨y304, hy304⟩ : ∃ y_ : List (List (List (S102))), y_ = (x6_1 ++ [x10_2]) := ⟨_, rfl⟩
             replace H : (spec_l04Across.l0 k2 l0 a1 (l0.length : Int) y304 (wrap64 (x7_1 + 1))) = some r := rh_ hy304 H
             have Ny304 := Aside0.mk hy304
             clear hy304
             have H' := Aside0.mk H
             clear H
             obtain ⟨Ao52, co52, eo52⟩ := Kd.S_slice HO_10.out
             subst eo52
             go_wp2_with (first | ((with_reducible refine gate_builtin (b := .append) (xs := #[.tmp 69, .tmp 71]) rfl ?_); at_builtin; refine Kd.R_append (Kd.slice 99 (Kd.slice 102 k102)) (w0 := w) w.heap.size rfl (.tmp 69) (.tmp 71) 118 121 (.slice none 0 0) 24 rfl Try.underlying118 info121 rfl (by decide) (by omega) u6 x6_1 x10_2 [.slice Ao52 x10_2.length co52] (fun _ => True) (fun k_ => ((fun _ => True)) k_ ∧ some k_ ≠ (u6 : Value).ownBlock) rfl rfl ?aP (fun _ hk => hk) ?aF ?aO ?aB ?aS ?aL ?_; (case aP => exact Kd.M_row (Kd.R_mono (Kd.R_apart' ((Kd.S_R HO_10.out)) (Kd.R_typed HO_6.out) (by decide)) (fun k_ hk => ⟨trivial, hk.2⟩))); (case aB => exact z31_); (case aF => exact (fun _ _ => trivial)); (case aO => exact (rc_ (h := by exact Kd.R_mono HO_6.out (fun _ hk => trivial)))); (case aS => exact (below_size z31_)); (case aL => have := LMc50.out; omega); intro v305 w51 ho hb hg hat; rw [← Ny304.out] at ho; replace HB := a_ (hb); have HO306 := a_ (ho); clear HO_10; clear HO_6; clear ho hb hg hat))
             go_roundg k2
             case measure => have := HK1.out; have := HK2.out; omega
             case rel => exact ⟨(y304), (wrap64 (x7_1 + 1)), z81_, H', ⟨z83_⟩, ⟨by (with_reducible repeat (first | apply Kd.R_alloc | apply Kd.R_drewN | apply Kd.R_drew)); exact HO306.out⟩, ⟨z31_⟩⟩
            ·rw [if_neg c50] at H
             exact absurd H (by simp)
       ·rw [if_neg c10] at H
        exact absurd H (by simp)
      ·rw [if_neg c9] at H
       exact absurd H (by simp)
     ·rw [if_neg c8] at H
      exact absurd H (by simp)
    ·rw [if_neg c7] at H
     exact absurd H (by simp)
   ·rw [if_neg c5] at H
    have c5b0 : decide (x7_1 < (wrap64 (((l0.length : Int) / 2)))) = false := decide_eq_false c5
    clear c5
    obtain rfl := Option.some.inj H
    go_wp2
    go_ret
    exact ⟨_, z32_, z69_, z31_⟩

end Go.Proofs.Ytkpidjmhdagkfaa.QFnExactSchemesFor
-- halved
