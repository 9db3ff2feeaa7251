-- Written by own_print.py of this session's repo over the kit's print (its output, turned at some places).
import Derived.Test.YtkpidjmhdagkfaaGreatDoorQFnImposedx0
import Derived.Test.YtkpidjmhdagkfaaGreatDoorQFnImposedx7
namespace Go.Proofs.YtkpidjmhdagkfaaGreatDoor.QFnImposed
open Go.RowKit Go.Proofs.YtkpidjmhdagkfaaGreatDoorW.PrintWords Go.Proofs.YtkpidjmhdagkfaaGreatDoorW.PrintLast Go.Proofs.YtkpidjmhdagkfaaGreatDoorW.PrintMore
attribute [local go_sem] fU fT gP gQ fw fA fQ fV
set_option maxHeartbeats 8000000
set_option maxRecDepth 100000
set_option linter.unusedVariables false
set_option linter.unusedSimpArgs false
mutual
def aj.l0 : Nat → List (List (List (S64))) → Int → Int → List (List (List (S64))) → Int → Option ((List (List (List (S64)))))
 | 0, _, _, _, _, _ => none
 | k + 1, x0, x1, x5, x6, x7 => if x7 < (wrap64 (Int.tdiv x5 2)) then (if 0 ≤ (wrap64 ((wrap64 (x5 - 1)) - x7)) then (if (wrap64 ((wrap64 (x5 - 1)) - x7)) < (x0.length : Int) then (if 0 ≤ x7 then (if x7 < (x0.length : Int) then (if x1 = 84 then (if 0 ≤ (wrap64 ((wrap64 ((wrap64 (Int.tdiv x5 2)) - 1)) - x7)) then (if (wrap64 ((wrap64 ((wrap64 (Int.tdiv x5 2)) - 1)) - x7)) < (x0.length : Int) then (if 0 ≤ (wrap64 ((wrap64 (Int.tdiv x5 2)) + x7)) then (if (wrap64 ((wrap64 (Int.tdiv x5 2)) + x7)) < (x0.length : Int) then (aj.l1 k x0 x1 x5 x6 x7 (bI x0 (wrap64 ((wrap64 ((wrap64 (Int.tdiv x5 2)) - 1)) - x7))) (bI x0 (wrap64 ((wrap64 (Int.tdiv x5 2)) + x7))) (([] : List (List (S64)))) 0) else (none)) else (none)) else (none)) else (none)) else (aj.nA k x0 x1 x5 x6 x7 (bI x0 (wrap64 ((wrap64 (x5 - 1)) - x7))) (bI x0 x7) (([] : List (List (S64)))) 0)) else (none)) else (none)) else (none)) else (none)) else (some x6)
def aj.l1 : Nat → List (List (List (S64))) → Int → Int → List (List (List (S64))) → Int → List (List (S64)) → List (List (S64)) → List (List (S64)) → Int → Option ((List (List (List (S64)))))
 | 0, _, _, _, _, _, _, _, _, _ => none
 | k + 1, x0, x1, x5, x6, x7, x8, x9, x10, x11 => if x11 < (x8.length : Int) then (if 0 ≤ x11 then ((bQ.f (ek x8 x11) false).bind fun t367 => (if x11 < (x9.length : Int) then (if t367.length + (ek x9 x11).length < 5864062014805 then (if x10.length < 5864062014805 then (aj.l1 k x0 x1 x5 x6 x7 x8 x9 (x10 ++ [(t367 ++ (ek x9 x11))]) (wrap64 (x11 + 1))) else (none)) else (none)) else (none))) else (none)) else (if x6.length < 5864062014805 then (aj.l0 k x0 x1 x5 (x6 ++ [x10]) (wrap64 (x7 + 1))) else (none))
def aj.nA : Nat → List (List (List (S64))) → Int → Int → List (List (List (S64))) → Int → List (List (S64)) → List (List (S64)) → List (List (S64)) → Int → Option ((List (List (List (S64)))))
 | 0, _, _, _, _, _, _, _, _, _ => none
 | k + 1, x0, x1, x5, x6, x7, x8, x9, x10, x11 => if x11 < (x8.length : Int) then (if 0 ≤ x11 then ((bQ.f (ek x8 x11) false).bind fun t384 => (if x11 < (x9.length : Int) then (if t384.length + (ek x9 x11).length < 5864062014805 then (if x10.length < 5864062014805 then (aj.nA k x0 x1 x5 x6 x7 x8 x9 (x10 ++ [(t384 ++ (ek x9 x11))]) (wrap64 (x11 + 1))) else (none)) else (none)) else (none))) else (none)) else (if x6.length < 5864062014805 then (aj.l0 k x0 x1 x5 (x6 ++ [x10]) (wrap64 (x7 + 1))) else (none))
end
def aj.f (k : Nat) (l0 : List (List (List (S64)))) (a1 : Int) : Option ((List (List (List (S64))))) := aj.l0 k l0 a1 (l0.length : Int) (([] : List (List (List (S64))))) 0
theorem aj.dC : ∀ k, (∀ y0 y1 y2 y3 y4, LeO (aj.l0 k y0 y1 y2 y3 y4) (aj.l0 (k + 1) y0 y1 y2 y3 y4)) ∧ (∀ y0 y1 y2 y3 y4 y5 y6 y7 y8, LeO (aj.l1 k y0 y1 y2 y3 y4 y5 y6 y7 y8) (aj.l1 (k + 1) y0 y1 y2 y3 y4 y5 y6 y7 y8)) ∧ (∀ y0 y1 y2 y3 y4 y5 y6 y7 y8, LeO (aj.nA k y0 y1 y2 y3 y4 y5 y6 y7 y8) (aj.nA (k + 1) y0 y1 y2 y3 y4 y5 y6 y7 y8))
 | 0 => ⟨fun _ _ _ _ _ r h => by simp [aj.l0] at h, fun _ _ _ _ _ _ _ _ _ r h => by simp [aj.l1] at h, fun _ _ _ _ _ _ _ _ _ r h => by simp [aj.nA] at h⟩
 | k + 1 => by
  obtain ⟨ih0, ih1, ih2⟩ := aj.dC k
  refine ⟨?_, ?_, ?_⟩ <;> intros <;> (first | unfold aj.l0 | unfold aj.l1 | unfold aj.nA) <;> (repeat' first | (with_reducible first | exact ih0 .. | exact ih1 .. | exact ih2 .. | exact LeO.refl .. | exact LeO.none .. | refine LeO.ite ?_ ?_ | refine LeO.bind ?_ (fun _ => ?_)))
theorem aj.mono : ∀ a0 a1 k, LeO (aj.f k a0 a1) (aj.f (k + 1) a0 a1) := by
 intro a0 a1 k
 obtain ⟨ih0, ih1, ih2⟩ := aj.dC k
 unfold aj.f
 repeat' first | (with_reducible first | exact ih0 .. | exact ih1 .. | exact ih2 .. | exact LeO.refl .. | exact LeO.none .. | refine LeO.ite ?_ ?_ | refine LeO.bind ?_ (fun _ => ?_))
def aj.T6 : Bool × List (List Nat × List Nat) := (true, [([], []), ([], []), ([1], [1]), ([], []), ([2, 3], [2, 3]), ([0, 4], [0, 4]), ([5], [5]), ([], []), ([], []), ([7, 8], [7, 8]), ([9], [9]), ([6, 0, 1, 2, 3, 4, 5, 6], [6]), ([10, 11, 0, 1, 2, 3, 4, 5, 6, 7, 8, 9, 10, 11], [10])])
def aj.B6 : List Nat := [0, 0, 2, 0, 14, 31, 63, 0, 0, 384, 896, 127, 4095]
theorem aj.BH : ig .any (opsOf Tryz.f99 6) = aj.T6 := by kernel_rfl
theorem aj.Ag : gm aj.T6.2 aj.B6 = true := by kernel_rfl
def aj.T8 : Bool × List (List Nat × List Nat) := (true, [([], []), ([], []), ([1], [1]), ([2], [2]), ([], []), ([3, 4], [3, 4]), ([0, 5], [0, 5]), ([6], [6]), ([], []), ([], []), ([9], [9]), ([], []), ([10, 11], [10, 11]), ([8, 12], [8, 12]), ([13], [13]), ([7, 0, 1, 2, 3, 4, 5, 6, 7], [7]), ([14, 15, 0, 1, 2, 3, 4, 5, 6, 7, 8, 9, 10, 11, 12, 13, 14, 15], [14])])
def aj.B8 : List Nat := [0, 0, 2, 6, 0, 30, 63, 127, 0, 0, 512, 0, 3584, 7936, 16128, 255, 65535]
theorem aj.Cu : ig .any (opsOf Tryz.f99 8) = aj.T8 := by kernel_rfl
theorem aj.BQ : gm aj.T8.2 aj.B8 = true := by kernel_rfl
def aj.T13 : Bool × List (List Nat × List Nat) := (true, [([], []), ([], []), ([], []), ([1, 2], [1, 2]), ([3], [3]), ([4], [4]), ([], []), ([], []), ([6, 7], [6, 7]), ([8], [8]), ([5, 9, 5], [5, 9]), ([10], [10]), ([0, 11, 10], [0, 11]), ([12, 12, 0, 1, 2, 3, 4, 5, 6, 7, 8, 9, 10, 11, 12], [0, 12])])
def aj.B13 : List Nat := [0, 0, 0, 6, 14, 30, 0, 0, 192, 448, 1022, 2046, 4095, 8191]
theorem aj.wZ : ig .any (opsOf Tryz.f99 13) = aj.T13 := by kernel_rfl
theorem aj.sU : gm aj.T13.2 aj.B13 = true := by kernel_rfl
theorem aj.calls (k : Nat) (A0 : Option Addr) (c0 : Nat) (l0 : List (List (List (S64)))) (a1 : Int) (r : List (List (List (S64)))) (w : World) (hr0 : Kd.C (Kd.slice 61 (Kd.slice 64 k64)) w A0 l0.length l0) (hc0 : l0.length ≤ c0) (h : aj.f k l0 a1 = some r) :
  Calls Tryz.prog 99 #[.slice A0 l0.length c0, .int .u8 a1] w fun e w' => ∃ v0_ : Value, e = .returned (v0_) ∧ Kd.R (Kd.slice 61 (Kd.slice 64 k64)) 96 w' w.heap.size (fun _ => True) v0_ r ∧ Below w.heap.size w w' := by
 have HR0 := a_ hr0
 have U2 := a_ hc0
 clear hr0 hc0
 have HB := a_ (Below.refl w.heap.size w)
 have H : (aj.l0 k l0 a1 (l0.length : Int) (([] : List (List (List (S64))))) 0) = some r := h
 clear h
 obtain ⟨M7, G8⟩ : ∃ y_ : List (List (List (S64))), y_ = (([] : List (List (List (S64))))) := ⟨_, rfl⟩
 replace H : (aj.l0 k l0 a1 (l0.length : Int) M7 0) = some r := rh_ G8 H
 have J4 := a_ G8
 clear G8
 have H' := a_ H
 clear H
 go_enter Tryz.func99, Tryz.ntmps99
 go_wp2_with (first | ((with_reducible refine bn (N := 14) rfl ?_); refine Kd.iM (Kd.slice 61 (Kd.slice 64 k64)) _ 96 ?hg (N := 14) ?hd (xs := ([] : List (List (List (S64))))) (inner := []) (ok := fun _ => True) (okp := fun _ => True) ?hr ?hp (fun _ hk => hk) trivial (Below.refl _ _) (Nat.le_refl _) (by simp) ?_; (case hd => rfl); (case hg => rfl); (case hr => first | (go_simp; done) | (go_simp; rfl)); (case hp => exact (dG.none _ _)); intro S4 w3 ho4 hb hg_ hnew_; clear hg_ hnew_; (first | rw [← J4.out] at ho4 | (simp only [Int.reduceToNat] at ho4; rw [← J4.out] at ho4)); have M8 := a_ (Kd.bE ho4 (ai bX)); replace HB := cK bX hb; clear hb ho4))
 go_loopg [6, 7] k (fun kq v6 v7 w' => ∃ (B0 : List (List (List (S64)))) (A2 : Int), v7 = .int .i64 A2 ∧ af (aj.l0 kq l0 a1 (l0.length : Int) B0 A2 = some r) ∧ af (kq ≤ k) ∧ af (Kd.R (Kd.slice 61 (Kd.slice 64 k64)) 96 w' w.heap.size (fun _ => True) v6 B0) ∧ af (Below w.heap.size w w'))
 case atStart => exact ⟨(M7), (0), cz, H', ⟨Nat.le_refl _⟩, ⟨by (with_reducible repeat (first | apply Kd.aC | apply Kd.aA | apply Kd.ay)); exact M8.out⟩, ⟨bX⟩⟩
 case round =>
  clear H'
  obtain ⟨B0, A2, rfl, HA, HK1, HO_6, HB⟩ := hrel
  cases gk with
  | zero => exact absurd HA.out (by simp [aj.l0])
  | succ k1 =>
   have H := HA.out
   clear HA
   simp only [aj.l0] at H
   (try simp only [show ∀ (n_ : Nat) (k_ : Int), Int.tdiv (n_ : Int) k_ = (n_ : Int) / k_ from fun n_ k_ => Int.tdiv_eq_ediv_of_nonneg (Int.natCast_nonneg n_), show ∀ (n_ : Nat) (k_ : Int), Int.tmod (n_ : Int) k_ = (n_ : Int) % k_ from fun n_ k_ => Int.tmod_eq_emod_of_nonneg (Int.natCast_nonneg n_)] at H)
   by_cases c5 : A2 < (wrap64 (((l0.length : Int) / 2)))
   ·rw [if_pos c5] at H
    have K0 := decide_eq_true c5
    clear c5
    obtain ⟨D4, I5⟩ : ∃ j_ : Int, (wrap64 ((wrap64 ((l0.length : Int) - 1)) - A2)) = j_ := ⟨_, rfl⟩
    replace H : (if 0 ≤ (D4) then (if (D4) < (l0.length : Int) then (if 0 ≤ A2 then (if A2 < (l0.length : Int) then (if a1 = 84 then (if 0 ≤ (wrap64 ((wrap64 ((wrap64 (((l0.length : Int) / 2))) - 1)) - A2)) then (if (wrap64 ((wrap64 ((wrap64 (((l0.length : Int) / 2))) - 1)) - A2)) < (l0.length : Int) then (if 0 ≤ (wrap64 ((wrap64 (((l0.length : Int) / 2))) + A2)) then (if (wrap64 ((wrap64 (((l0.length : Int) / 2))) + A2)) < (l0.length : Int) then (aj.l1 k1 l0 a1 (l0.length : Int) B0 A2 (bI l0 (wrap64 ((wrap64 ((wrap64 (((l0.length : Int) / 2))) - 1)) - A2))) (bI l0 (wrap64 ((wrap64 (((l0.length : Int) / 2))) + A2))) (([] : List (List (S64)))) 0) else (none)) else (none)) else (none)) else (none)) else (aj.nA k1 l0 a1 (l0.length : Int) B0 A2 (bI l0 (D4)) (bI l0 A2) (([] : List (List (S64)))) 0)) else (none)) else (none)) else (none)) else (none)) = some r := by first | (rw [I5] at H; exact H) | (simp only [I5] at H ⊢; exact H)
    have hji6w : (IntKind.i64.wrap ((wrap64 ((l0.length : Int) - 1)) - A2)) = D4 := (eX _).trans I5
    replace H := ig_ H; obtain ⟨c7, H⟩ := H
    have M9 := decide_eq_true c7
    clear c7
    replace H := ig_ H; obtain ⟨c8, H⟩ := H
    have N0 := decide_eq_true c8
    clear c8
    replace H := ig_ H; obtain ⟨c9, H⟩ := H
    have N1 := decide_eq_true c9
    clear c9
    replace H := ig_ H; obtain ⟨c10, H⟩ := H
    have J5 := decide_eq_true c10
    clear c10
    by_cases c11 : a1 = 84
    ·rw [if_pos c11] at H
     have G9 : (a1 == 84) = true := beq_iff_eq.mpr c11
     have H0 : (a1 != 84) = false := bne_eq_false_iff_eq.mpr c11
     clear c11
     obtain ⟨B3, E3⟩ : ∃ j_ : Int, (wrap64 ((wrap64 ((wrap64 (((l0.length : Int) / 2))) - 1)) - A2)) = j_ := ⟨_, rfl⟩
     replace H : (if 0 ≤ (B3) then (if (B3) < (l0.length : Int) then (if 0 ≤ (wrap64 ((wrap64 (((l0.length : Int) / 2))) + A2)) then (if (wrap64 ((wrap64 (((l0.length : Int) / 2))) + A2)) < (l0.length : Int) then (aj.l1 k1 l0 a1 (l0.length : Int) B0 A2 (bI l0 (B3)) (bI l0 (wrap64 ((wrap64 (((l0.length : Int) / 2))) + A2))) (([] : List (List (S64)))) 0) else (none)) else (none)) else (none)) else (none)) = some r := by first | (rw [E3] at H; exact H) | (simp only [E3] at H ⊢; exact H)
     have hji12w : (IntKind.i64.wrap ((wrap64 ((wrap64 (((l0.length : Int) / 2))) - 1)) - A2)) = B3 := (eX _).trans E3
     replace H := ig_ H; obtain ⟨c13, H⟩ := H
     have N2 := decide_eq_true c13
     clear c13
     replace H := ig_ H; obtain ⟨c14, H⟩ := H
     have N3 := decide_eq_true c14
     clear c14
     obtain ⟨B4, H1⟩ : ∃ j_ : Int, (wrap64 ((wrap64 (((l0.length : Int) / 2))) + A2)) = j_ := ⟨_, rfl⟩
     replace H : (if 0 ≤ (B4) then (if (B4) < (l0.length : Int) then (aj.l1 k1 l0 a1 (l0.length : Int) B0 A2 (bI l0 (B3)) (bI l0 (B4)) (([] : List (List (S64)))) 0) else (none)) else (none)) = some r := by first | (rw [H1] at H; exact H) | (simp only [H1] at H ⊢; exact H)
     have hji15w : (IntKind.i64.wrap ((wrap64 (((l0.length : Int) / 2))) + A2)) = B4 := (eX _).trans H1
     replace H := ig_ H; obtain ⟨c16, H⟩ := H
     have N4 := decide_eq_true c16
     clear c16
     replace H := ig_ H; obtain ⟨c17, H⟩ := H
     have N5 := decide_eq_true c17
     clear c17
     obtain ⟨N6, H2⟩ : ∃ y_ : List (List (S64)), y_ = (([] : List (List (S64)))) := ⟨_, rfl⟩
     replace H : (aj.l1 k1 l0 a1 (l0.length : Int) B0 A2 (bI l0 (B3)) (bI l0 (B4)) N6 0) = some r := rh_ H2 H
     have J6 := a_ H2
     clear H2
     have H' := a_ H
     clear H
     try go_wp2
     replace HO_6 := a_ (Kd.ay HO_6.out)
     replace HB := a_ (aM HB.out)
     have D5 : 0 ≤ ((D4) : Int) := of_decide_eq_true aX
     have D6 : (D4) < (l0.length : Int) := of_decide_eq_true aX
     obtain ⟨B7, D9, E0, K1, A3, C2, C3⟩ := kF HR0.out (D4) D5 D6
     have C4 := A3
     cases K1
     replace A3 := (HB.out.cell (World.block_lt_of_cell? _ _ A3)).trans A3
     have D2 := a_ C3
     have I6 := a_ C2
     clear C3 C2
     replace D5 := eq_true D5
     replace D6 := eq_true D6
     have D7 : 0 ≤ (A2 : Int) := of_decide_eq_true aX
     have D8 : A2 < (l0.length : Int) := of_decide_eq_true aX
     obtain ⟨H3, E1, E2, K2, A4, C5, C6⟩ := kF HR0.out A2 D7 D8
     have C7 := A4
     obtain rfl : B7 = H3 := (by injection K2)
     replace A4 := (HB.out.cell (World.block_lt_of_cell? _ _ A4)).trans A4
     have D3 := a_ C6
     have I7 := a_ C5
     clear C6 C5
     replace D7 := eq_true D7
     replace D8 := eq_true D8
     refine gW (n := 13) (S := fun w' => w'.cell? (B7.add ((D4)).toNat) = some (.slice D9 (bI l0 (D4)).length E0) ∧ w'.cell? (B7.add (A2).toNat) = some (.slice E1 (bI l0 A2).length E2)) (ds := []) #[false, false, false, false, false, false, false, false, false, false, false, false, false] (by kernel_rfl) rfl rfl ⟨((HB.out.cell (World.block_lt_of_cell? _ _ C4)).trans C4), ((HB.out.cell (World.block_lt_of_cell? _ _ C7)).trans C7)⟩ (fun hHeld => ?_); refine fq aj.BH aj.Ag (fun HT_ HW_ => ?_)
     generalize wr.drew = S5 at HO_6 HB D2 D3 A3 A4 hHeld ⊢
     refine pv_ 0 (some 21) ?_
     refine pv_ 1 (some 22) ?_
     refine pv_ 2 (some 23) ?_
     refine pv_ 3 (some 24) ?_
     refine pv_ 4 (some 25) ?_
     refine pv_ 5 (some 26) ?_
     refine pv_ 7 (some 28) ?_
     refine pv_ 8 (some 29) ?_
     refine pv_ 9 (some 30) ?_
     refine ow (i := 6) (N := some 27) hHeld ?_
     refine pv_ 11 (some 8) ?_
     refine ow (i := 10) (N := some 31) hHeld ?_
     refine pv_ 12 (some 9) ?_
     refine jl (iw HT_.out (by kernel_rfl)) ?_
     try go_wp2
     replace HO_6 := a_ (Kd.ay HO_6.out)
     replace HB := a_ (aM HB.out)
     have I8 : 0 ≤ ((B3) : Int) := of_decide_eq_true aX
     have I9 : (B3) < (l0.length : Int) := of_decide_eq_true aX
     obtain ⟨N7, K3, K4, Q6, C0, E4, E5⟩ := kF HR0.out (B3) I8 I9
     have E6 := C0
     obtain rfl : B7 = N7 := (by injection Q6)
     replace C0 := (HB.out.cell (World.block_lt_of_cell? _ _ C0)).trans C0
     have E7 := a_ E5
     have Q2 := a_ E4
     clear E5 E4
     replace I8 := eq_true I8
     replace I9 := eq_true I9
     have J0 : 0 ≤ ((B4) : Int) := of_decide_eq_true aX
     have J1 : (B4) < (l0.length : Int) := of_decide_eq_true aX
     obtain ⟨N8, K5, K6, Q7, C1, E8, E9⟩ := kF HR0.out (B4) J0 J1
     have F0 := C1
     obtain rfl : B7 = N8 := (by injection Q7)
     replace C1 := (HB.out.cell (World.block_lt_of_cell? _ _ C1)).trans C1
     have F1 := a_ E9
     have Q3 := a_ E8
     clear E9 E8
     replace J0 := eq_true J0
     replace J1 := eq_true J1
     refine gW (n := 17) (S := fun w' => w'.cell? (B7.add ((B3)).toNat) = some (.slice K3 (bI l0 (B3)).length K4) ∧ w'.cell? (B7.add ((B4)).toNat) = some (.slice K5 (bI l0 (B4)).length K6)) (ds := []) #[false, false, false, false, false, false, false, false, false, false, false, false, false, false, false, false, false] (by kernel_rfl) rfl rfl ⟨((HB.out.cell (World.block_lt_of_cell? _ _ E6)).trans E6), ((HB.out.cell (World.block_lt_of_cell? _ _ F0)).trans F0)⟩ (fun hHeld => ?_); refine fq aj.Cu aj.BQ (fun HT_ HW_ => ?_)
     generalize S5.drew = U3 at HO_6 HB E7 F1 C0 C1 hHeld ⊢
     refine pv_ 0 (some 34) ?_
     refine pv_ 1 (some 35) ?_
     refine pv_ 2 (some 36) ?_
     refine pv_ 3 (some 37) ?_
     refine pv_ 4 (some 38) ?_
     refine pv_ 5 (some 39) ?_
     refine pv_ 6 (some 40) ?_
     refine pv_ 8 (some 42) ?_
     refine pv_ 9 (some 43) ?_
     refine pv_ 10 (some 44) ?_
     refine pv_ 11 (some 45) ?_
     refine pv_ 12 (some 46) ?_
     refine pv_ 13 (some 47) ?_
     refine ow (i := 7) (N := some 41) hHeld ?_
     refine pv_ 15 (some 8) ?_
     refine ow (i := 14) (N := some 48) hHeld ?_
     refine pv_ 16 (some 9) ?_
     refine jl (iw HT_.out (by kernel_rfl)) ?_
     try go_wp2_with (first | ((with_reducible refine bn (N := 49) rfl ?_); refine Kd.rT (Kd.slice 64 k64) _ 61 ?hg (N := 49) ?hd (xs := ([] : List (List (S64)))) (inner := []) (ok := fun _ => True) (okp := fun _ => True) ?hr ?hp (fun _ hk => hk) trivial (Below.refl _ _) (Nat.le_refl _) (by simp) ?_; (case hd => rfl); (case hg => rfl); (case hr => first | (go_simp; done) | (go_simp; rfl)); (case hp => exact (dG.none _ _)); intro S6 U4 ho21 hb hg_ hnew_; clear hg_ hnew_; (first | rw [← J6.out] at ho21 | (simp only [Int.reduceToNat] at ho21; rw [← J6.out] at ho21)); replace HO_6 := a_ (Kd.bC (ra_ HO_6.out) (Kd.pm ho21) hb); have N9 := a_ (Kd.mP ho21 (ai bX)); replace HB := cK bX hb; clear hb ho21))
     go_loopg [10, 11] k1 (fun kq v10 v11 w' => ∃ (A5 : List (List (S64))) (A1 : Int), v11 = .int .i64 A1 ∧ af (aj.l1 kq l0 a1 (l0.length : Int) B0 A2 (bI l0 (B3)) (bI l0 (B4)) A5 A1 = some r) ∧ af (kq ≤ k1) ∧ af (Kd.R (Kd.slice 61 (Kd.slice 64 k64)) 96 w' w.heap.size (fun k_ => some k_ ≠ (v10 : Value).ownBlock) u6 B0) ∧ af (Kd.S (Kd.slice 64 k64) 61 w' w.heap.size (fun _ => True) v10 A5) ∧ af (Below w.heap.size w w'))
     case atStart => exact ⟨(N6), (0), cz, H', ⟨Nat.le_refl _⟩, ⟨zo⟩, ⟨by (with_reducible repeat (first | apply Kd.gX | apply Kd.ik | apply Kd.gZ)); exact N9.out⟩, ⟨bX⟩⟩
     case round =>
      clear H'
      try clear K0; try clear M9; try clear N0; try clear N1; try clear J5; try clear G9; try clear H0; try clear N2; try clear N3; try clear N4; try clear N5; try clear A3; try clear A4; try clear C0; try clear C1; try clear D5; try clear D7; try clear I8; try clear J0; try clear D6; try clear D8; try clear I9; try clear J1
      obtain ⟨A5, A1, rfl, HA, HK2, HO_6, HO_10, HB⟩ := hrel
      cases gk with
      | zero => exact absurd HA.out (by simp [aj.l1])
      | succ k2 =>
       have H := HA.out
       clear HA
       simp only [aj.l1] at H
       by_cases c22 : A1 < ((bI l0 (B3)).length : Int)
       ·rw [if_pos c22] at H
        have O0 := decide_eq_true c22
        clear c22
        replace H := ig_ H; obtain ⟨c23, H⟩ := H
        have S0 := decide_eq_true c23
        clear c23
        replace H := bo_ H; obtain ⟨K7, S7, H⟩ := H; (try dsimp only at H)
        replace H := ig_ H; obtain ⟨c25, H⟩ := H
        have S1 := decide_eq_true c25
        clear c25
        replace H := ig_ H; obtain ⟨c26, H⟩ := H
        have LMc26 := a_ c26
        clear c26
        obtain ⟨G6, H4⟩ : ∃ y_ : List (S64), y_ = (K7 ++ (ek (bI l0 (B4)) A1)) := ⟨_, rfl⟩
        replace H : (if A5.length < 5864062014805 then (aj.l1 k2 l0 a1 (l0.length : Int) B0 A2 (bI l0 (B3)) (bI l0 (B4)) (A5 ++ [G6]) (wrap64 (A1 + 1))) else (none)) = some r := rh_ H4 H
        have O1 := a_ H4
        clear H4
        replace H := ig_ H; obtain ⟨c27, H⟩ := H
        have LMc27 := a_ c27
        clear c27
        obtain ⟨O2, H5⟩ : ∃ y_ : List (List (S64)), y_ = (A5 ++ [G6]) := ⟨_, rfl⟩
        replace H : (aj.l1 k2 l0 a1 (l0.length : Int) B0 A2 (bI l0 (B3)) (bI l0 (B4)) O2 (wrap64 (A1 + 1))) = some r := rh_ H5 H
        have O3 := a_ H5
        clear H5
        have H' := a_ H
        clear H
        try go_wp2
        replace HO_6 := a_ (Kd.ay HO_6.out)
        replace HO_10 := a_ (Kd.gZ HO_10.out)
        replace HB := a_ (aM HB.out)
        have K8 : 0 ≤ (A1 : Int) := of_decide_eq_true aX
        have K9 : A1 < ((bI l0 (B3)).length : Int) := of_decide_eq_true aX
        obtain ⟨O4, H6, H7, Q8, C8, F2, F3⟩ := kV E7.out A1 K8 K9
        have A6 := C8
        cases Q8
        replace C8 := (HB.out.cell (World.block_lt_of_cell? _ _ C8)).trans C8
        have F4 := a_ F3
        have J2 := a_ F2
        clear F3 F2
        replace K8 := eq_true K8
        replace K9 := eq_true K9
        have L0 : 0 ≤ (A1 : Int) := of_decide_eq_true aX
        have L1 : A1 < ((bI l0 (B4)).length : Int) := of_decide_eq_true aX
        obtain ⟨O5, L2, L3, Q9, C9, F5, F6⟩ := kV F1.out A1 L0 L1
        have A7 := C9
        cases Q9
        replace C9 := (HB.out.cell (World.block_lt_of_cell? _ _ C9)).trans C9
        have F7 := a_ F6
        have Q4 := a_ F5
        clear F6 F5
        replace L0 := eq_true L0
        replace L1 := eq_true L1
        refine gW (n := 14) (S := fun w' => w'.cell? (O4.add (A1).toNat) = some (.slice H6 (ek (bI l0 (B3)) A1).length H7) ∧ w'.cell? (O5.add (A1).toNat) = some (.slice L2 (ek (bI l0 (B4)) A1).length L3)) (ds := []) #[false, false, false, false, false, false, false, false, false, false, false, false, false, false] (by kernel_rfl) rfl rfl ⟨((HB.out.cell (World.block_lt_of_cell? _ _ A6)).trans A6), ((HB.out.cell (World.block_lt_of_cell? _ _ A7)).trans A7)⟩ (fun hHeld => ?_); refine fq aj.wZ aj.sU (fun HT_ HW_ => ?_)
        generalize wr.drew = U5 at HO_6 HO_10 HB F4 F7 C8 C9 hHeld ⊢
        refine pv_ 0 (some 56) ?_
        refine pv_ 1 (some 57) ?_
        refine pv_ 2 (some 58) ?_
        refine pv_ 3 (some 59) ?_
        refine pv_ 6 (some 62) ?_
        refine pv_ 7 (some 63) ?_
        refine pv_ 8 (some 64) ?_
        refine ow (i := 4) (N := some 60) hHeld ?_
        refine ow (i := 9) (N := some 65) hHeld ?_
        refine on_ (i := 5) (N := some 61) (fun K hK => ?_)
        refine iQ Tryz.func115 (by kernel_rfl) rfl #[.slice H6 (ek (bI l0 (B3)) A1).length H7, .bool false] (by rfl) rfl rfl (by (try simp only [List.map_toArray, List.map_cons, List.map_nil]); first | done | (simp only [E3]; rfl) | rfl | (simp only [List.length_drop, List.length_take]; rfl)) ?_
        with_reducible refine (bQ.calls _ _ (ek (bI l0 (B3)) A1) false K7 _ ?side1 ?side2 S7.out).mono ?_
        (case side1 => exact kc_ (Kd.bT F4.out HB.out))
        (case side2 => exact J2.out)
        rintro e U6 ⟨R0, rfl, ho0, hb⟩
        refine ⟨_, rfl, ?_⟩
        replace HO_6 := a_ (Kd.bC (ra_ HO_6.out) (Kd.aH ho0) hb)
        replace HO_10 := a_ (Kd.kE wN (Kd.aH ho0) hb)
        have J7 := a_ (Kd.bE ho0 (ai bX))
        replace HB := cK bX hb
        (try clear hb)
        (try clear hb2)
        (try clear hk)
        (try clear hi)
        (try clear ho0)
        refine hK.out _ _ ⟨((HB.out.cell (World.block_lt_of_cell? _ _ A6)).trans A6), ((HB.out.cell (World.block_lt_of_cell? _ _ A7)).trans A7)⟩ (fun hHeld => ?_)
        clear hK K
        refine nm_ ?_
        refine on_ (i := 10) (N := some 66) (fun K hK => ?_)
        refine Kd.jF k64 (w0 := w) w.heap.size (by rfl) (.tmp 61) (.tmp 65) 61 64 (.agg #[(.int .i64 0), (.int .i64 0), (.bool false), (.bool false)]) 24 rfl Tryz.underlying61 lQ rfl (by decide) (by omega) R0 K7 (ek (bI l0 (B4)) A1) _ _ _ (fun _ => True) (fun _ => False) rfl rfl ?aO ?aR (fun _ _ h => h) (fun _ h => h.elim) ?aF ?aB ?aS ?aL ?_
        (case aR => exact kc_ (Kd.bT F7.out HB.out))
        (case aB => exact bX)
        (case aF => exact (fun _ _ => trivial))
        (case aO => exact (ra_ J7.out))
        (case aS => exact (ai bX))
        (case aL => have := LMc26.out; omega)
        intro S8 U7 ho hb hg hat
        rw [← O1.out] at ho
        replace HO_6 := a_ (Kd.fe (ok := (fun k_ => some k_ ≠ (u10 : Value).ownBlock)) (ra_ HO_6.out) hg hat)
        replace HO_10 := a_ (Kd.qf (ok := (fun _ => True)) wN hg hat)
        replace HB := a_ (hb)
        have F8 := a_ (ho)
        clear J7
        clear ho hb hg hat
        obtain ⟨L4, L5, L6⟩ := Kd.bg F8.out
        (first | subst L6 | (injection L6.symm with f1_ f2_ f3_; clear f2_ L6; subst f1_ f3_))
        refine hK.out _ _ ⟨((HB.out.cell (World.block_lt_of_cell? _ _ A6)).trans A6), ((HB.out.cell (World.block_lt_of_cell? _ _ A7)).trans A7)⟩ (fun hHeld => ?_)
        clear hK K
        refine nm_ ?_
        refine on_ (i := 11) (N := some 67) (fun K hK => ?_)
        refine ji (w1 := ?_) (v := ?_) (by rfl) rfl ?_ ?_
        rotate_left 2
        ·go_simp
         constructor
         ·rfl
         ·rfl
        refine hK.out _ _ ⟨(World.cell?_alloc_lt _ _ _ (World.block_lt_of_cell? _ _ (((HB.out.cell (World.block_lt_of_cell? _ _ A6)).trans A6)))).trans (((HB.out.cell (World.block_lt_of_cell? _ _ A6)).trans A6)), (World.cell?_alloc_lt _ _ _ (World.block_lt_of_cell? _ _ (((HB.out.cell (World.block_lt_of_cell? _ _ A7)).trans A7)))).trans (((HB.out.cell (World.block_lt_of_cell? _ _ A7)).trans A7))⟩ (fun hHeld => ?_)
        clear hK K
        refine nm_ ?_
        refine on_ (i := 12) (N := some 68) (fun K hK => ?_)
        refine Kd.lv (Kd.slice 64 k64) (w0 := w) w.heap.size (by rfl) (.tmp 56) (.tmp 67) 96 61 (.slice none 0 0) 24 rfl Tryz.underlying96 nL rfl (by decide) (by omega) u10 A5 G6 [.slice L4 G6.length L5] (fun _ => True) (fun k_ => some k_ = (.slice L4 G6.length L5 : Value).ownBlock) rfl rfl ?aP (fun k_ hk_ => ((Kd.ae (ok' := fun k_ => ((fun _ => True)) k_ ∧ some k_ ≠ (u10 : Value).ownBlock) (Kd.gL (F8.out) (Kd.jk HO_10.out) (by decide)) (fun k_ hk => ⟨trivial, hk.2⟩))).1 k_ hk_.symm) ?aF ?aO ?aB ?aS ?aL ?_
        (case aP => exact Kd.lM (Kd.ae (Kd.iX rfl (Kd.ae (ok' := fun k_ => ((fun _ => True)) k_ ∧ some k_ ≠ (u10 : Value).ownBlock) (Kd.gL (F8.out) (Kd.jk HO_10.out) (by decide)) (fun k_ hk => ⟨trivial, hk.2⟩))) (fun _ h_ => h_)))
        (case aB => exact bX)
        (case aF => exact (fun _ _ => trivial))
        (case aO => exact (by (with_reducible repeat (first | apply Kd.gX | apply Kd.ik | apply Kd.gZ)); exact Kd.mD HO_10.out (fun k_ hk => ⟨trivial, fun e_ => hk.2 e_⟩)))
        (case aS => exact (ai bX))
        (case aL => have := LMc27.out; omega)
        intro S9 U8 ho hb hg hat
        rw [← O3.out] at ho
        replace HO_6 := a_ (Kd.fe (ok := (fun k_ => nb_ k_ L4 G6.length L5)) (rc_ (h := by exact Kd.ae HO_6.out (fun _ hk => ⟨hk.2, hk.1⟩))) hg hat)
        replace HB := a_ (hb)
        have O6 := a_ (ho)
        clear F8; clear HO_10
        clear ho hb hg hat
        refine hK.out _ _ ⟨((HB.out.cell (World.block_lt_of_cell? _ _ A6)).trans A6), ((HB.out.cell (World.block_lt_of_cell? _ _ A7)).trans A7)⟩ (fun hHeld => ?_)
        clear hK K
        refine nm_ ?_
        refine pv_ 13 (some 10) ?_
        refine jl (iw HT_.out (by kernel_rfl)) ?_
        try go_wp2
        go_roundg k2
        case measure => have := HK1.out; have := HK2.out; omega
        case rel => exact ⟨(O2), (wrap64 (A1 + 1)), cz, H', ⟨jW⟩, ⟨zo⟩, ⟨by (with_reducible repeat (first | apply Kd.gX | apply Kd.ik | apply Kd.gZ)); exact O6.out⟩, ⟨bX⟩⟩
       rw [if_neg c22] at H
       have O0 := decide_eq_false c22
       clear c22
       replace H := ig_ H; obtain ⟨c33, H⟩ := H
       have LMc33 := a_ c33
       clear c33
       obtain ⟨O7, H8⟩ : ∃ y_ : List (List (List (S64))), y_ = (B0 ++ [A5]) := ⟨_, rfl⟩
       replace H : (aj.l0 k2 l0 a1 (l0.length : Int) O7 (wrap64 (A2 + 1))) = some r := rh_ H8 H
       have O8 := a_ H8
       clear H8
       have H' := a_ H
       clear H
       obtain ⟨R1, R2, R3⟩ := Kd.lT HO_10.out
       subst R3
       go_wp2_with (first | ((with_reducible refine di (b := .append) (xs := #[.tmp 69, .tmp 71]) rfl ?_); at_builtin; refine Kd.fZ (Kd.slice 61 (Kd.slice 64 k64)) (w0 := w) w.heap.size rfl (.tmp 69) (.tmp 71) 95 96 (.slice none 0 0) 24 rfl Tryz.underlying95 pg rfl (by decide) (by omega) u6 B0 A5 [.slice R1 A5.length R2] (fun _ => True) (fun k_ => ((fun _ => True)) k_ ∧ some k_ ≠ (u6 : Value).ownBlock) rfl rfl ?aP (fun _ hk => hk) ?aF ?aO ?aB ?aS ?aL ?_; (case aP => exact Kd.lM (Kd.ae (Kd.gL ((Kd.S_R HO_10.out)) (Kd.jf HO_6.out) (by decide)) (fun k_ hk => ⟨trivial, hk.2⟩))); (case aB => exact bX); (case aF => exact (fun _ _ => trivial)); (case aO => exact (rc_ (h := by exact Kd.ae HO_6.out (fun _ hk => trivial)))); (case aS => exact (ai bX)); (case aL => have := LMc33.out; omega); intro T0 U9 ho hb hg hat; rw [← O8.out] at ho; replace HB := a_ (hb); have O9 := a_ (ho); clear HO_10; clear HO_6; clear ho hb hg hat))
       go_roundg k2
       case measure => have := HK1.out; have := HK2.out; omega
       case rel => exact ⟨(O7), (wrap64 (A2 + 1)), cz, H', ⟨jW⟩, ⟨by (with_reducible repeat (first | apply Kd.aC | apply Kd.aA | apply Kd.ay)); exact O9.out⟩, ⟨bX⟩⟩
    rw [if_neg c11] at H
    have G9 : (a1 == 84) = false := beq_eq_false_iff_ne.mpr c11
    have H0 : (a1 != 84) = true := bne_iff_ne.mpr c11
    obtain ⟨P0, H9⟩ : ∃ y_ : List (List (S64)), y_ = (([] : List (List (S64)))) := ⟨_, rfl⟩
    replace H : (aj.nA k1 l0 a1 (l0.length : Int) B0 A2 (bI l0 (D4)) (bI l0 A2) P0 0) = some r := rh_ H9 H
    have J8 := a_ H9
    clear H9
    have H' := a_ H
    clear H
    try go_wp2
    replace HO_6 := a_ (Kd.ay HO_6.out)
    replace HB := a_ (aM HB.out)
    have D5 : 0 ≤ ((D4) : Int) := of_decide_eq_true aX
    have D6 : (D4) < (l0.length : Int) := of_decide_eq_true aX
    obtain ⟨B7, D9, E0, K1, A3, C2, C3⟩ := kF HR0.out (D4) D5 D6
    have C4 := A3
    cases K1
    replace A3 := (HB.out.cell (World.block_lt_of_cell? _ _ A3)).trans A3
    have D2 := a_ C3
    have I6 := a_ C2
    clear C3 C2
    replace D5 := eq_true D5
    replace D6 := eq_true D6
    have D7 : 0 ≤ (A2 : Int) := of_decide_eq_true aX
    have D8 : A2 < (l0.length : Int) := of_decide_eq_true aX
    obtain ⟨H3, E1, E2, K2, A4, C5, C6⟩ := kF HR0.out A2 D7 D8
    have C7 := A4
    obtain rfl : B7 = H3 := (by injection K2)
    replace A4 := (HB.out.cell (World.block_lt_of_cell? _ _ A4)).trans A4
    have D3 := a_ C6
    have I7 := a_ C5
    clear C6 C5
    replace D7 := eq_true D7
    replace D8 := eq_true D8
    refine gW (n := 13) (S := fun w' => w'.cell? (B7.add ((D4)).toNat) = some (.slice D9 (bI l0 (D4)).length E0) ∧ w'.cell? (B7.add (A2).toNat) = some (.slice E1 (bI l0 A2).length E2)) (ds := []) #[false, false, false, false, false, false, false, false, false, false, false, false, false] (by kernel_rfl) rfl rfl ⟨((HB.out.cell (World.block_lt_of_cell? _ _ C4)).trans C4), ((HB.out.cell (World.block_lt_of_cell? _ _ C7)).trans C7)⟩ (fun hHeld => ?_); refine fq aj.BH aj.Ag (fun HT_ HW_ => ?_)
    generalize wr.drew = V0 at HO_6 HB D2 D3 A3 A4 hHeld ⊢
    refine pv_ 0 (some 21) ?_
    refine pv_ 1 (some 22) ?_
    refine pv_ 2 (some 23) ?_
    refine pv_ 3 (some 24) ?_
    refine pv_ 4 (some 25) ?_
    refine pv_ 5 (some 26) ?_
    refine pv_ 7 (some 28) ?_
    refine pv_ 8 (some 29) ?_
    refine pv_ 9 (some 30) ?_
    refine ow (i := 6) (N := some 27) hHeld ?_
    refine pv_ 11 (some 8) ?_
    refine ow (i := 10) (N := some 31) hHeld ?_
    refine pv_ 12 (some 9) ?_
    refine jl (iw HT_.out (by kernel_rfl)) ?_
    try go_wp2_with (first | ((with_reducible refine bn (N := 49) rfl ?_); refine Kd.rT (Kd.slice 64 k64) _ 61 ?hg (N := 49) ?hd (xs := ([] : List (List (S64)))) (inner := []) (ok := fun _ => True) (okp := fun _ => True) ?hr ?hp (fun _ hk => hk) trivial (Below.refl _ _) (Nat.le_refl _) (by simp) ?_; (case hd => rfl); (case hg => rfl); (case hr => first | (go_simp; done) | (go_simp; rfl)); (case hp => exact (dG.none _ _)); intro T3 V1 ho38 hb hg_ hnew_; clear hg_ hnew_; (first | rw [← J8.out] at ho38 | (simp only [Int.reduceToNat] at ho38; rw [← J8.out] at ho38)); replace HO_6 := a_ (Kd.bC (ra_ HO_6.out) (Kd.pm ho38) hb); have P1 := a_ (Kd.mP ho38 (ai bX)); replace HB := cK bX hb; clear hb ho38))
    go_loopg [10, 11] k1 (fun kq v10 v11 w' => ∃ (A5 : List (List (S64))) (A1 : Int), v11 = .int .i64 A1 ∧ af (aj.nA kq l0 a1 (l0.length : Int) B0 A2 (bI l0 (D4)) (bI l0 A2) A5 A1 = some r) ∧ af (kq ≤ k1) ∧ af (Kd.R (Kd.slice 61 (Kd.slice 64 k64)) 96 w' w.heap.size (fun k_ => some k_ ≠ (v10 : Value).ownBlock) u6 B0) ∧ af (Kd.S (Kd.slice 64 k64) 61 w' w.heap.size (fun _ => True) v10 A5) ∧ af (Below w.heap.size w w'))
    case atStart => exact ⟨(P0), (0), cz, H', ⟨Nat.le_refl _⟩, ⟨zo⟩, ⟨by (with_reducible repeat (first | apply Kd.gX | apply Kd.ik | apply Kd.gZ)); exact P1.out⟩, ⟨bX⟩⟩
    case round =>
     clear H'
     try clear K0; try clear M9; try clear N0; try clear N1; try clear J5; try clear c11; try clear G9; try clear H0; try clear A3; try clear A4; try clear D5; try clear D7; try clear D6; try clear D8
     obtain ⟨A5, A1, rfl, HA, HK2, HO_6, HO_10, HB⟩ := hrel
     cases gk with
     | zero => exact absurd HA.out (by simp [aj.nA])
     | succ k2 =>
      have H := HA.out
      clear HA
      simp only [aj.nA] at H
      by_cases c39 : A1 < ((bI l0 (D4)).length : Int)
      ·rw [if_pos c39] at H
       have P2 := decide_eq_true c39
       clear c39
       replace H := ig_ H; obtain ⟨c40, H⟩ := H
       have S2 := decide_eq_true c40
       clear c40
       replace H := bo_ H; obtain ⟨L7, T4, H⟩ := H; (try dsimp only at H)
       replace H := ig_ H; obtain ⟨c42, H⟩ := H
       have S3 := decide_eq_true c42
       clear c42
       replace H := ig_ H; obtain ⟨c43, H⟩ := H
       have LMc43 := a_ c43
       clear c43
       obtain ⟨G7, I0⟩ : ∃ y_ : List (S64), y_ = (L7 ++ (ek (bI l0 A2) A1)) := ⟨_, rfl⟩
       replace H : (if A5.length < 5864062014805 then (aj.nA k2 l0 a1 (l0.length : Int) B0 A2 (bI l0 (D4)) (bI l0 A2) (A5 ++ [G7]) (wrap64 (A1 + 1))) else (none)) = some r := rh_ I0 H
       have P3 := a_ I0
       clear I0
       replace H := ig_ H; obtain ⟨c44, H⟩ := H
       have LMc44 := a_ c44
       clear c44
       obtain ⟨P4, I1⟩ : ∃ y_ : List (List (S64)), y_ = (A5 ++ [G7]) := ⟨_, rfl⟩
       replace H : (aj.nA k2 l0 a1 (l0.length : Int) B0 A2 (bI l0 (D4)) (bI l0 A2) P4 (wrap64 (A1 + 1))) = some r := rh_ I1 H
       have P5 := a_ I1
       clear I1
       have H' := a_ H
       clear H
       try go_wp2
       replace HO_6 := a_ (Kd.ay HO_6.out)
       replace HO_10 := a_ (Kd.gZ HO_10.out)
       replace HB := a_ (aM HB.out)
       have L8 : 0 ≤ (A1 : Int) := of_decide_eq_true aX
       have L9 : A1 < ((bI l0 (D4)).length : Int) := of_decide_eq_true aX
       obtain ⟨P6, I2, I3, R4, D0, F9, G0⟩ := kV D2.out A1 L8 L9
       have A8 := D0
       cases R4
       replace D0 := (HB.out.cell (World.block_lt_of_cell? _ _ D0)).trans D0
       have G1 := a_ G0
       have J3 := a_ F9
       clear G0 F9
       replace L8 := eq_true L8
       replace L9 := eq_true L9
       have M0 : 0 ≤ (A1 : Int) := of_decide_eq_true aX
       have M1 : A1 < ((bI l0 A2).length : Int) := of_decide_eq_true aX
       obtain ⟨P7, M2, M3, R5, D1, G2, G3⟩ := kV D3.out A1 M0 M1
       have A9 := D1
       cases R5
       replace D1 := (HB.out.cell (World.block_lt_of_cell? _ _ D1)).trans D1
       have G4 := a_ G3
       have Q5 := a_ G2
       clear G3 G2
       replace M0 := eq_true M0
       replace M1 := eq_true M1
       refine gW (n := 14) (S := fun w' => w'.cell? (P6.add (A1).toNat) = some (.slice I2 (ek (bI l0 (D4)) A1).length I3) ∧ w'.cell? (P7.add (A1).toNat) = some (.slice M2 (ek (bI l0 A2) A1).length M3)) (ds := []) #[false, false, false, false, false, false, false, false, false, false, false, false, false, false] (by kernel_rfl) rfl rfl ⟨((HB.out.cell (World.block_lt_of_cell? _ _ A8)).trans A8), ((HB.out.cell (World.block_lt_of_cell? _ _ A9)).trans A9)⟩ (fun hHeld => ?_); refine fq aj.wZ aj.sU (fun HT_ HW_ => ?_)
       generalize wr.drew = V2 at HO_6 HO_10 HB G1 G4 D0 D1 hHeld ⊢
       refine pv_ 0 (some 56) ?_
       refine pv_ 1 (some 57) ?_
       refine pv_ 2 (some 58) ?_
       refine pv_ 3 (some 59) ?_
       refine pv_ 6 (some 62) ?_
       refine pv_ 7 (some 63) ?_
       refine pv_ 8 (some 64) ?_
       refine ow (i := 4) (N := some 60) hHeld ?_
       refine ow (i := 9) (N := some 65) hHeld ?_
       refine on_ (i := 5) (N := some 61) (fun K hK => ?_)
       refine iQ Tryz.func115 (by kernel_rfl) rfl #[.slice I2 (ek (bI l0 (D4)) A1).length I3, .bool false] (by rfl) rfl rfl (by (try simp only [List.map_toArray, List.map_cons, List.map_nil]); first | done | (simp only [I5]; rfl) | rfl | (simp only [List.length_drop, List.length_take]; rfl)) ?_
       with_reducible refine (bQ.calls _ _ (ek (bI l0 (D4)) A1) false L7 _ ?side1 ?side2 T4.out).mono ?_
       (case side1 => exact kc_ (Kd.bT G1.out HB.out))
       (case side2 => exact J3.out)
       rintro e V3 ⟨R6, rfl, ho0, hb⟩
       refine ⟨_, rfl, ?_⟩
       replace HO_6 := a_ (Kd.bC (ra_ HO_6.out) (Kd.aH ho0) hb)
       replace HO_10 := a_ (Kd.kE wN (Kd.aH ho0) hb)
       have J9 := a_ (Kd.bE ho0 (ai bX))
       replace HB := cK bX hb
       (try clear hb)
       (try clear hb2)
       (try clear hk)
       (try clear hi)
       (try clear ho0)
       refine hK.out _ _ ⟨((HB.out.cell (World.block_lt_of_cell? _ _ A8)).trans A8), ((HB.out.cell (World.block_lt_of_cell? _ _ A9)).trans A9)⟩ (fun hHeld => ?_)
       clear hK K
       refine nm_ ?_
       refine on_ (i := 10) (N := some 66) (fun K hK => ?_)
       refine Kd.jF k64 (w0 := w) w.heap.size (by rfl) (.tmp 61) (.tmp 65) 61 64 (.agg #[(.int .i64 0), (.int .i64 0), (.bool false), (.bool false)]) 24 rfl Tryz.underlying61 lQ rfl (by decide) (by omega) R6 L7 (ek (bI l0 A2) A1) _ _ _ (fun _ => True) (fun _ => False) rfl rfl ?aO ?aR (fun _ _ h => h) (fun _ h => h.elim) ?aF ?aB ?aS ?aL ?_
       (case aR => exact kc_ (Kd.bT G4.out HB.out))
       (case aB => exact bX)
       (case aF => exact (fun _ _ => trivial))
       (case aO => exact (ra_ J9.out))
       (case aS => exact (ai bX))
       (case aL => have := LMc43.out; omega)
       intro T7 V4 ho hb hg hat
       rw [← P3.out] at ho
       replace HO_6 := a_ (Kd.fe (ok := (fun k_ => some k_ ≠ (u10 : Value).ownBlock)) (ra_ HO_6.out) hg hat)
       replace HO_10 := a_ (Kd.qf (ok := (fun _ => True)) wN hg hat)
       replace HB := a_ (hb)
       have G5 := a_ (ho)
       clear J9
       clear ho hb hg hat
       obtain ⟨M4, M5, M6⟩ := Kd.bg G5.out
       (first | subst M6 | (injection M6.symm with f1_ f2_ f3_; clear f2_ M6; subst f1_ f3_))
       refine hK.out _ _ ⟨((HB.out.cell (World.block_lt_of_cell? _ _ A8)).trans A8), ((HB.out.cell (World.block_lt_of_cell? _ _ A9)).trans A9)⟩ (fun hHeld => ?_)
       clear hK K
       refine nm_ ?_
       refine on_ (i := 11) (N := some 67) (fun K hK => ?_)
       refine ji (w1 := ?_) (v := ?_) (by rfl) rfl ?_ ?_
       rotate_left 2
       ·go_simp
        constructor
        ·rfl
        ·rfl
       refine hK.out _ _ ⟨(World.cell?_alloc_lt _ _ _ (World.block_lt_of_cell? _ _ (((HB.out.cell (World.block_lt_of_cell? _ _ A8)).trans A8)))).trans (((HB.out.cell (World.block_lt_of_cell? _ _ A8)).trans A8)), (World.cell?_alloc_lt _ _ _ (World.block_lt_of_cell? _ _ (((HB.out.cell (World.block_lt_of_cell? _ _ A9)).trans A9)))).trans (((HB.out.cell (World.block_lt_of_cell? _ _ A9)).trans A9))⟩ (fun hHeld => ?_)
       clear hK K
       refine nm_ ?_
       refine on_ (i := 12) (N := some 68) (fun K hK => ?_)
       refine Kd.lv (Kd.slice 64 k64) (w0 := w) w.heap.size (by rfl) (.tmp 56) (.tmp 67) 96 61 (.slice none 0 0) 24 rfl Tryz.underlying96 nL rfl (by decide) (by omega) u10 A5 G7 [.slice M4 G7.length M5] (fun _ => True) (fun k_ => some k_ = (.slice M4 G7.length M5 : Value).ownBlock) rfl rfl ?aP (fun k_ hk_ => ((Kd.ae (ok' := fun k_ => ((fun _ => True)) k_ ∧ some k_ ≠ (u10 : Value).ownBlock) (Kd.gL (G5.out) (Kd.jk HO_10.out) (by decide)) (fun k_ hk => ⟨trivial, hk.2⟩))).1 k_ hk_.symm) ?aF ?aO ?aB ?aS ?aL ?_
       (case aP => exact Kd.lM (Kd.ae (Kd.iX rfl (Kd.ae (ok' := fun k_ => ((fun _ => True)) k_ ∧ some k_ ≠ (u10 : Value).ownBlock) (Kd.gL (G5.out) (Kd.jk HO_10.out) (by decide)) (fun k_ hk => ⟨trivial, hk.2⟩))) (fun _ h_ => h_)))
       (case aB => exact bX)
       (case aF => exact (fun _ _ => trivial))
       (case aO => exact (by (with_reducible repeat (first | apply Kd.gX | apply Kd.ik | apply Kd.gZ)); exact Kd.mD HO_10.out (fun k_ hk => ⟨trivial, fun e_ => hk.2 e_⟩)))
       (case aS => exact (ai bX))
       (case aL => have := LMc44.out; omega)
       intro U0 V5 ho hb hg hat
       rw [← P5.out] at ho
       replace HO_6 := a_ (Kd.fe (ok := (fun k_ => nb_ k_ M4 G7.length M5)) (rc_ (h := by exact Kd.ae HO_6.out (fun _ hk => ⟨hk.2, hk.1⟩))) hg hat)
       replace HB := a_ (hb)
       have P8 := a_ (ho)
       clear G5; clear HO_10
       clear ho hb hg hat
       refine hK.out _ _ ⟨((HB.out.cell (World.block_lt_of_cell? _ _ A8)).trans A8), ((HB.out.cell (World.block_lt_of_cell? _ _ A9)).trans A9)⟩ (fun hHeld => ?_)
       clear hK K
       refine nm_ ?_
       refine pv_ 13 (some 10) ?_
       refine jl (iw HT_.out (by kernel_rfl)) ?_
       try go_wp2
       go_roundg k2
       case measure => have := HK1.out; have := HK2.out; omega
       case rel => exact ⟨(P4), (wrap64 (A1 + 1)), cz, H', ⟨jW⟩, ⟨zo⟩, ⟨by (with_reducible repeat (first | apply Kd.gX | apply Kd.ik | apply Kd.gZ)); exact P8.out⟩, ⟨bX⟩⟩
      rw [if_neg c39] at H
      have P2 := decide_eq_false c39
      clear c39
      replace H := ig_ H; obtain ⟨c50, H⟩ := H
      have LMc50 := a_ c50
      clear c50
      obtain ⟨P9, I4⟩ : ∃ y_ : List (List (List (S64))), y_ = (B0 ++ [A5]) := ⟨_, rfl⟩
      replace H : (aj.l0 k2 l0 a1 (l0.length : Int) P9 (wrap64 (A2 + 1))) = some r := rh_ I4 H
      have Q0 := a_ I4
      clear I4
      have H' := a_ H
      clear H
      obtain ⟨R7, R8, R9⟩ := Kd.lT HO_10.out
      subst R9
      go_wp2_with (first | ((with_reducible refine di (b := .append) (xs := #[.tmp 69, .tmp 71]) rfl ?_); at_builtin; refine Kd.fZ (Kd.slice 61 (Kd.slice 64 k64)) (w0 := w) w.heap.size rfl (.tmp 69) (.tmp 71) 95 96 (.slice none 0 0) 24 rfl Tryz.underlying95 pg rfl (by decide) (by omega) u6 B0 A5 [.slice R7 A5.length R8] (fun _ => True) (fun k_ => ((fun _ => True)) k_ ∧ some k_ ≠ (u6 : Value).ownBlock) rfl rfl ?aP (fun _ hk => hk) ?aF ?aO ?aB ?aS ?aL ?_; (case aP => exact Kd.lM (Kd.ae (Kd.gL ((Kd.S_R HO_10.out)) (Kd.jf HO_6.out) (by decide)) (fun k_ hk => ⟨trivial, hk.2⟩))); (case aB => exact bX); (case aF => exact (fun _ _ => trivial)); (case aO => exact (rc_ (h := by exact Kd.ae HO_6.out (fun _ hk => trivial)))); (case aS => exact (ai bX)); (case aL => have := LMc50.out; omega); intro U1 V6 ho hb hg hat; rw [← Q0.out] at ho; replace HB := a_ (hb); have Q1 := a_ (ho); clear HO_10; clear HO_6; clear ho hb hg hat))
      go_roundg k2
      case measure => have := HK1.out; have := HK2.out; omega
      case rel => exact ⟨(P9), (wrap64 (A2 + 1)), cz, H', ⟨jW⟩, ⟨by (with_reducible repeat (first | apply Kd.aC | apply Kd.aA | apply Kd.ay)); exact Q1.out⟩, ⟨bX⟩⟩
   rw [if_neg c5] at H
   have K0 := decide_eq_false c5
   clear c5
   obtain rfl := Option.some.inj H
   go_wp2
   go_ret
   exact ⟨_, gy, by (with_reducible repeat (first | apply Kd.aC | apply Kd.aA | apply Kd.ay)); exact HO_6.out, bX⟩
mutual
def aT.l0 : Nat → ByteArray → List (List (List (S64))) → Int → Option ((List (S64)))
 | 0, _, _, _ => none
 | k + 1, x2, x7, x8 => if x8 < (x2.size : Int) then (if 0 ≤ x8 then (if (bt x2 x8) = 76 then (aT.j1 k x2 x7 x8 true) else (aT.j1 k x2 x7 x8 ((bt x2 x8) == 82))) else (none)) else (if 0 < (x7.length : Int) then (if 0 < ((bI x7 0).length : Int) then (some (ek (bI x7 0) 0)) else (none)) else (none))
def aT.j1 : Nat → ByteArray → List (List (List (S64))) → Int → Bool → Option ((List (S64)))
 | 0, _, _, _, _ => none
 | k + 1, x2, x7, x8, x27 => if x27 = true then (if 0 ≤ x8 then (if x8 < (x2.size : Int) then ((aJ.f k x7 (bt x2 x8)).bind fun t402 => (aT.l0 k x2 t402 (wrap64 (x8 + 1)))) else (none)) else (none)) else (if 0 ≤ x8 then (if x8 < (x2.size : Int) then ((aj.f k x7 (bt x2 x8)).bind fun t405 => (aT.l0 k x2 t405 (wrap64 (x8 + 1)))) else (none)) else (none))
end
def aT.f (k : Nat) (a0 : Int) (a1 : Int) (a2 : ByteArray) : Option ((List (S64))) := (bD.f k a0 a1).bind fun t397 => (aT.l0 k a2 t397 0)
theorem aT.dC : ∀ k, (∀ y0 y1 y2, LeO (aT.l0 k y0 y1 y2) (aT.l0 (k + 1) y0 y1 y2)) ∧ (∀ y0 y1 y2 y3, LeO (aT.j1 k y0 y1 y2 y3) (aT.j1 (k + 1) y0 y1 y2 y3))
 | 0 => ⟨fun _ _ _ r h => by simp [aT.l0] at h, fun _ _ _ _ r h => by simp [aT.j1] at h⟩
 | k + 1 => by
  obtain ⟨ih0, ih1⟩ := aT.dC k
  refine ⟨?_, ?_⟩ <;> intros <;> (first | unfold aT.l0 | unfold aT.j1) <;> (repeat' first | (with_reducible first | exact ih0 .. | exact ih1 .. | exact aj.mono .. | exact aJ.mono .. | exact bD.mono .. | exact LeO.refl .. | exact LeO.none .. | refine LeO.ite ?_ ?_ | refine LeO.bind ?_ (fun _ => ?_)))
theorem aT.mono : ∀ a0 a1 a2 k, LeO (aT.f k a0 a1 a2) (aT.f (k + 1) a0 a1 a2) := by
 intro a0 a1 a2 k
 obtain ⟨ih0, ih1⟩ := aT.dC k
 unfold aT.f
 repeat' first | (with_reducible first | exact ih0 .. | exact ih1 .. | exact aj.mono .. | exact aJ.mono .. | exact bD.mono .. | exact LeO.refl .. | exact LeO.none .. | refine LeO.ite ?_ ?_ | refine LeO.bind ?_ (fun _ => ?_))
theorem aT.calls (k : Nat) (a0 : Int) (a1 : Int) (a2 : ByteArray) (r : List (S64)) (w : World) (h : aT.f k a0 a1 a2 = some r) :
  Calls Tryz.prog 82 #[.int .i64 a0, .int .i64 a1, .string a2] w fun e w' => ∃ v0_ : Value, e = .returned (v0_) ∧ Kd.R k64 64 w' w.heap.size (fun _ => True) v0_ r ∧ Below w.heap.size w w' := by
 have HB := a_ (Below.refl w.heap.size w)
 have H : ((bD.f k a0 a1).bind fun B4 => (aT.l0 k a2 B4 0)) = some r := h
 clear h
 replace H := bo_ H; obtain ⟨B4, A4, H⟩ := H; (try dsimp only at H)
 have H' := a_ H
 clear H
 go_enter Tryz.func82, Tryz.ntmps82
 go_wp2_with (first | ((with_reducible refine av (f := 97) rfl ?_); refine bJ (some 11) rfl rfl Tryz.func97 (by kernel_rfl) rfl #[.int .i64 a0, .int .i64 a1] rfl dN ?_; (with_reducible refine (bD.calls k a0 a1 B4 _ A4.out).mono ?_); rintro e w5 ⟨G7, rfl, ho0, hb⟩; refine ⟨_, rfl, ?_⟩; have C6 := a_ (Kd.bE ho0 (ai bX)); replace HB := cK bX hb; (try clear hb); (try clear ho0)))
 go_loopg [7, 8] k (fun kq v7 v8 w' => ∃ (A2 : List (List (List (S64)))) (A1 : Int), v8 = .int .i64 A1 ∧ af (aT.l0 kq a2 A2 A1 = some r) ∧ af (kq ≤ k) ∧ af (Kd.R (Kd.slice 61 (Kd.slice 64 k64)) 96 w' w.heap.size (fun _ => True) v7 A2) ∧ af (Below w.heap.size w w'))
 case atStart => exact ⟨(B4), (0), cz, H', ⟨Nat.le_refl _⟩, ⟨by (with_reducible repeat (first | apply Kd.aC | apply Kd.aA | apply Kd.ay)); exact C6.out⟩, ⟨bX⟩⟩
 case round =>
  clear H'
  obtain ⟨A2, A1, rfl, HA, HK1, HO_7, HB⟩ := hrel
  cases gk with
  | zero => exact absurd HA.out (by simp [aT.l0])
  | succ k1 =>
   have H := HA.out
   clear HA
   simp only [aT.l0] at H
   by_cases c6 : A1 < (a2.size : Int)
   ·rw [if_pos c6] at H
    have C7 := decide_eq_true c6
    clear c6
    have D7 := a_ H
    clear H
    go_upto_region 5 with (fail)
    go_cut [27] (fun v27 wc => ∃ (kq : Nat) (A6 : Bool), v27 = .bool A6 ∧ af (aT.j1 kq a2 A2 A1 A6 = some r) ∧ af (kq ≤ k1) ∧ af (Kd.R (Kd.slice 61 (Kd.slice 64 k64)) 96 wc w.heap.size (fun _ => True) u7 A2) ∧ af (Below w.heap.size w wc))
    case first =>
     have H := D7.out
     clear D7
     replace H := ig_ H; obtain ⟨c8, H⟩ := H
     have C8 := decide_eq_true c8
     clear c8
     (first | rw [C8] | (simp only [eX, iI]; rw [C8]) | skip)
     by_cases c10 : (bt a2 A1) = 76
     ·rw [if_pos c10] at H
      have C9 : ((bt a2 A1) == 76) = true := beq_iff_eq.mpr c10
      have D0 : ((bt a2 A1) != 76) = false := bne_eq_false_iff_eq.mpr c10
      clear c10
      have H' := a_ H
      clear H
      have p9 : 0 ≤ (A1 : Int) := of_decide_eq_true aX
      have q9 : A1 < (a2.size : Int) := of_decide_eq_true aX
      have hx9 := jG a2 A1
      replace p9 := eq_true p9
      replace q9 := eq_true q9
      go_wp2
      go_meet
      case rel => exact ⟨_, (true), cz, H', ⟨nC⟩, ⟨by (with_reducible repeat (first | apply Kd.aC | apply Kd.aA | apply Kd.ay)); exact HO_7.out⟩, ⟨bX⟩⟩
     rw [if_neg c10] at H
     have C9 : ((bt a2 A1) == 76) = false := beq_eq_false_iff_ne.mpr c10
     have D0 : ((bt a2 A1) != 76) = true := bne_iff_ne.mpr c10
     have H' := a_ H
     clear H
     have p9 : 0 ≤ (A1 : Int) := of_decide_eq_true aX
     have q9 : A1 < (a2.size : Int) := of_decide_eq_true aX
     have hx9 := jG a2 A1
     replace p9 := eq_true p9
     replace q9 := eq_true q9
     have F1 : 0 ≤ (A1 : Int) := of_decide_eq_true aX
     have F2 : A1 < (a2.size : Int) := of_decide_eq_true aX
     have hx11 := jG a2 A1
     replace F1 := eq_true F1
     replace F2 := eq_true F2
     go_wp2
     go_meet
     case rel => exact ⟨_, (((bt a2 A1) == 82)), cz, H', ⟨nC⟩, ⟨by (with_reducible repeat (first | apply Kd.aC | apply Kd.aA | apply Kd.ay)); exact HO_7.out⟩, ⟨bX⟩⟩
    case rest =>
     clear D7; try clear C7
     obtain ⟨kq, A6, rfl, HA, D3, HO_7, HB⟩ := hcut
     cases kq with
     | zero => exact absurd HA.out (by simp [aT.j1])
     | succ C5 =>
      have H := HA.out
      clear HA
      simp only [aT.j1] at H
      by_cases c12 : A6 = true
      ·subst c12
       have H1 : (if 0 ≤ A1 then (if A1 < (a2.size : Int) then ((aJ.f C5 A2 (bt a2 A1)).bind fun B7 => (aT.l0 C5 a2 B7 (wrap64 (A1 + 1)))) else (none)) else (none)) = some r := by rw [if_pos rfl] at H; exact H
       clear H
       have H := H1
       clear H1
       replace H := ig_ H; obtain ⟨c13, H⟩ := H
       have F3 := decide_eq_true c13
       clear c13
       replace H := ig_ H; obtain ⟨c14, H⟩ := H
       have F4 := decide_eq_true c14
       clear c14
       replace H := bo_ H; obtain ⟨B7, G8, H⟩ := H; (try dsimp only at H)
       have H' := a_ H
       clear H
       have F5 : 0 ≤ (A1 : Int) := of_decide_eq_true aX
       have F6 : A1 < (a2.size : Int) := of_decide_eq_true aX
       have hx15 := jG a2 A1
       replace F5 := eq_true F5
       replace F6 := eq_true F6
       obtain ⟨D8, D9, E0⟩ := Kd.bg HO_7.out
       subst E0
       go_wp2_with (first | ((with_reducible refine av (f := 98) rfl ?_); refine bJ (some 32) rfl rfl Tryz.func98 (by kernel_rfl) rfl #[.slice D8 A2.length D9, .int .u8 (bt a2 A1)] rfl dN ?_; (with_reducible refine (aJ.calls C5 _ _ A2 (bt a2 A1) B7 _ ?side1 ?side2 G8.out).mono ?_); (case side1 => exact xI); (case side2 => exact (Kd.aI HO_7.out).2.1); rintro e H5 ⟨G9, rfl, ho0, hb⟩; refine ⟨_, rfl, ?_⟩; have D1 := a_ (Kd.bE (Kd.bq ho0 (Kd.df (ra_ HO_7.out))) (ai bX)); replace HO_7 := a_ (Kd.bC (ra_ HO_7.out) (Kd.aH ho0) hb); replace HB := cK bX hb; (try clear hb); (try clear ho0)))
       go_roundg C5
       case measure => have := HK1.out; have := D3.out; omega
       case rel => exact ⟨(B7), (wrap64 (A1 + 1)), cz, H', ⟨by have := HK1.out; have := D3.out; omega⟩, ⟨by (with_reducible repeat (first | apply Kd.aC | apply Kd.aA | apply Kd.ay)); exact Kd.ae D1.out (fun _ hk => trivial)⟩, ⟨bX⟩⟩
      ·replace c12 := Bool.eq_false_iff.mpr c12
       subst c12
       have H1 : (if 0 ≤ A1 then (if A1 < (a2.size : Int) then ((aj.f C5 A2 (bt a2 A1)).bind fun C0 => (aT.l0 C5 a2 C0 (wrap64 (A1 + 1)))) else (none)) else (none)) = some r := by rw [if_neg (show ¬ (false = true) by decide)] at H; exact H
       clear H
       have H := H1
       clear H1
       replace H := ig_ H; obtain ⟨c19, H⟩ := H
       have F7 := decide_eq_true c19
       clear c19
       replace H := ig_ H; obtain ⟨c20, H⟩ := H
       have F8 := decide_eq_true c20
       clear c20
       replace H := bo_ H; obtain ⟨C0, H0, H⟩ := H; (try dsimp only at H)
       have H' := a_ H
       clear H
       have F9 : 0 ≤ (A1 : Int) := of_decide_eq_true aX
       have G0 : A1 < (a2.size : Int) := of_decide_eq_true aX
       have hx21 := jG a2 A1
       replace F9 := eq_true F9
       replace G0 := eq_true G0
       obtain ⟨E1, E2, E3⟩ := Kd.bg HO_7.out
       subst E3
       go_wp2_with (first | ((with_reducible refine av (f := 99) rfl ?_); refine bJ (some 37) rfl rfl Tryz.func99 (by kernel_rfl) rfl #[.slice E1 A2.length E2, .int .u8 (bt a2 A1)] rfl dN ?_; (with_reducible refine (aj.calls C5 _ _ A2 (bt a2 A1) C0 _ ?side1 ?side2 H0.out).mono ?_); (case side1 => exact xI); (case side2 => exact (Kd.aI HO_7.out).2.1); rintro e H6 ⟨H2, rfl, ho0, hb⟩; refine ⟨_, rfl, ?_⟩; have D2 := a_ (Kd.bE (Kd.bq ho0 (Kd.df (ra_ HO_7.out))) (ai bX)); replace HO_7 := a_ (Kd.bC (ra_ HO_7.out) (Kd.aH ho0) hb); replace HB := cK bX hb; (try clear hb); (try clear ho0)))
       go_roundg C5
       case measure => have := HK1.out; have := D3.out; omega
       case rel => exact ⟨(C0), (wrap64 (A1 + 1)), cz, H', ⟨by have := HK1.out; have := D3.out; omega⟩, ⟨by (with_reducible repeat (first | apply Kd.aC | apply Kd.aA | apply Kd.ay)); exact Kd.ae D2.out (fun _ hk => trivial)⟩, ⟨bX⟩⟩
   rw [if_neg c6] at H
   have C7 := decide_eq_false c6
   clear c6
   replace H := ig_ H; obtain ⟨c25, H⟩ := H
   have G1 := decide_eq_true c25
   have G2 : decide (0 < A2.length) = true := decide_eq_true (by omega)
   clear c25
   replace H := ig_ H; obtain ⟨c26, H⟩ := H
   have G3 := decide_eq_true c26
   have G4 : decide (0 < (bI A2 0).length) = true := decide_eq_true (by omega)
   clear c26
   obtain rfl := Option.some.inj H
   obtain ⟨H3, H4, E4⟩ := Kd.bg HO_7.out
   subst E4
   have C1 : 0 ≤ (0 : Int) := (by omega)
   have C2 : 0 < (A2.length : Int) := of_decide_eq_true aX
   obtain ⟨G5, E5, E6, E7, A3, A7, A8⟩ := kF (Kd.aI HO_7.out).2.2 0 C1 C2
   cases E7
   obtain ⟨ce400, hce400, hMe400, hcc400⟩ := Kd.wM HO_7.out [] 0 C1 (by first | exact C2 | exact of_decide_eq_true aX | (have e_ := (Kd.aI HO_7.out).1; omega))
   obtain ⟨ve400_0, rfl, ge400_0⟩ := hMe400
   have hv400_0 := hcc400 0 _ rfl
   rw [Nat.add_zero, show ((Kd.slice 61 (Kd.slice 64 k64))).sz = 1 from rfl, Nat.mul_one] at hv400_0
   replace hv400_0 := Option.some.inj (hv400_0.symm.trans A3)
   rw [hv400_0] at ge400_0
   have HL400_0 := a_ (show Kd.R (Kd.slice 64 k64) 61 _ _ _ _ (bI A2 0) from ge400_0)
   clear hv400_0 ge400_0
   clear hcc400 hce400
   have qi400 : (0 < A2.length) = True := eq_true (by omega)
   (try rw [show ((0 : Int)).toNat = 0 from rfl] at A3)
   (try rw [Addr.add_zero'] at A3)
   have A9 := a_ A8
   have D4 := a_ A7
   clear A8 A7
   replace C1 := eq_true C1
   replace C2 := eq_true C2
   have C3 : 0 ≤ (0 : Int) := (by omega)
   have C4 : 0 < ((bI A2 0).length : Int) := of_decide_eq_true aX
   obtain ⟨G6, E8, E9, F0, A5, B0, B3⟩ := kV (by repeat (first | (with_reducible exact A9.out) | (with_reducible refine Kd.dD ?_ _) | (with_reducible refine Kd.dH ?_ _) | (with_reducible refine Kd.dZ ?_) | exact A9.out)) 0 C3 C4
   cases F0
   obtain ⟨ce401, hce401, hMe401, hcc401⟩ := Kd.wM HL400_0.out [] 0 C3 (by first | exact C4 | exact of_decide_eq_true aX | (have e_ := (Kd.aI HL400_0.out).1; omega))
   obtain ⟨ve401_0, rfl, ge401_0⟩ := hMe401
   have hv401_0 := hcc401 0 _ rfl
   rw [Nat.add_zero, show ((Kd.slice 64 k64)).sz = 1 from rfl, Nat.mul_one] at hv401_0
   replace hv401_0 := Option.some.inj (hv401_0.symm.trans A5)
   rw [hv401_0] at ge401_0
   have HL401_0 := a_ (show Kd.R k64 64 _ _ _ _ (ek (bI A2 0) 0) from ge401_0)
   clear hv401_0 ge401_0
   clear hcc401 hce401
   have qi401 : (0 < (bI A2 0).length) = True := eq_true (by omega)
   (try rw [show ((0 : Int)).toNat = 0 from rfl] at A5)
   (try rw [Addr.add_zero'] at A5)
   have D5 := a_ B3
   have D6 := a_ B0
   clear B3 B0
   replace C3 := eq_true C3
   replace C4 := eq_true C4
   go_wp2
   go_ret
   exact ⟨_, gy, by (with_reducible repeat (first | apply Kd.aC | apply Kd.aA | apply Kd.ay)); exact Kd.ae HL401_0.out (fun _ hk => trivial), bX⟩
def iT.f (a0_0 : Int) (a0_1 : Int) (a0_2 : Bool) (a0_3 : Bool) : Option (Bool) := some (a0_2 != a0_3)
theorem iT.calls (a0_0 : Int) (a0_1 : Int) (a0_2 : Bool) (a0_3 : Bool) (r : Bool) (w : World) (h : iT.f a0_0 a0_1 a0_2 a0_3 = some r) :
  Calls Tryz.prog 83 #[.agg #[.int .i64 a0_0, .int .i64 a0_1, .bool a0_2, .bool a0_3]] w fun e w' => e = .returned (.bool r) ∧ Below w.heap.size w w' := by
 have hu64 := Tryz.underlying64
 have HB := a_ (Below.refl w.heap.size w)
 have H : (some (a0_2 != a0_3)) = some r := h
 clear h
 obtain rfl := Option.some.inj H
 go_enter Tryz.func83, Tryz.ntmps83
 go_wp2_with (first | ((with_reducible refine bn (N := 1) rfl ?_); refine bG ?hg (N := 1) ?hd (cs := #[.int .i64 a0_0, .int .i64 a0_1, .bool a0_2, .bool a0_3]) (t := 64) ?hr ?_; (case hd => rfl); (case hg => rfl); (case hr => first | (go_simp; done) | (go_simp; rfl)); intro A1 hg w2 hbox hb; have A2 := a_ (hbox); have B4 := a_ ((fO : w.heap.size ≤ A1)); have A3 := a_ ((fO : w.heap.size ≤ A1)); replace HB := cK bX hb; clear hb hbox hg; obtain ⟨A4, A5, A6, A7, A8, A9, B0, B3⟩ := rq (w := w2) A2.out))
 go_ret
 exact ⟨gy, by repeat (first | (with_reducible first | exact HB.out | apply aN | apply aD | apply aM | refine aG ?_ A3.out) | exact HB.out)⟩
end Go.Proofs.YtkpidjmhdagkfaaGreatDoor.QFnImposed
