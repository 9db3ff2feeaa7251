-- Written by own_print.py of this session's repo over the kit's print (its output, turned at some places).
import Derived.Test.YtkpidjmhdagkfaaGreatDoorQFnReadFormsx0
import Derived.Test.YtkpidjmhdagkfaaGreatDoorQFnReadFormsx1
namespace Go.Proofs.YtkpidjmhdagkfaaGreatDoor.QFnReadForms
open Go.RowKit Go.Proofs.YtkpidjmhdagkfaaGreatDoorW.PrintWords Go.Proofs.YtkpidjmhdagkfaaGreatDoorW.PrintLast Go.Proofs.YtkpidjmhdagkfaaGreatDoorW.PrintMore
attribute [local go_sem] ik iq iR iT gD gF il iw
set_option maxHeartbeats 8000000
set_option maxRecDepth 100000
set_option linter.unusedVariables false
set_option linter.unusedSimpArgs false
mutual
def aI.l0 : Nat → List (List (List (S64))) → Int → List (List (List (S64))) → Int → Option ((List (List (List (S64)))))
 | 0, _, _, _, _ => none
 | k + 1, x0, x1, x5, x6 => if x6 < (x0.length : Int) then (if 0 ≤ x6 then (aI.l1 k x0 x1 x5 x6 ((bJ x0 x6).length : Int) (([] : List (List (S64)))) 0) else (none)) else (some x5)
def aI.l1 : Nat → List (List (List (S64))) → Int → List (List (List (S64))) → Int → Int → List (List (S64)) → Int → Option ((List (List (List (S64)))))
 | 0, _, _, _, _, _, _, _ => none
 | k + 1, x0, x1, x5, x6, x7, x8, x9 => if x9 < (wrap64 (Int.tdiv x7 2)) then (if 0 ≤ x6 then (if x6 < (x0.length : Int) then (if 0 ≤ (wrap64 ((wrap64 (x7 - 1)) - x9)) then (if (wrap64 ((wrap64 (x7 - 1)) - x9)) < ((bJ x0 x6).length : Int) then (if 0 ≤ x9 then (if x9 < ((bJ x0 x6).length : Int) then (if x1 = 76 then (if 0 ≤ (wrap64 ((wrap64 ((wrap64 (Int.tdiv x7 2)) - 1)) - x9)) then (if (wrap64 ((wrap64 ((wrap64 (Int.tdiv x7 2)) - 1)) - x9)) < ((bJ x0 x6).length : Int) then (if 0 ≤ (wrap64 ((wrap64 (Int.tdiv x7 2)) + x9)) then (if (wrap64 ((wrap64 (Int.tdiv x7 2)) + x9)) < ((bJ x0 x6).length : Int) then ((bS.f (dY (bJ x0 x6) (wrap64 ((wrap64 ((wrap64 (Int.tdiv x7 2)) - 1)) - x9))) true).bind fun t173 => (if t173.length + (dY (bJ x0 x6) (wrap64 ((wrap64 (Int.tdiv x7 2)) + x9))).length < 5864062014805 then (if x8.length < 5864062014805 then (aI.l1 k x0 x1 x5 x6 x7 (x8 ++ [(t173 ++ (dY (bJ x0 x6) (wrap64 ((wrap64 (Int.tdiv x7 2)) + x9))))]) (wrap64 (x9 + 1))) else (none)) else (none))) else (none)) else (none)) else (none)) else (none)) else ((bS.f (dY (bJ x0 x6) (wrap64 ((wrap64 (x7 - 1)) - x9))) true).bind fun t182 => (if t182.length + (dY (bJ x0 x6) x9).length < 5864062014805 then (if x8.length < 5864062014805 then (aI.l1 k x0 x1 x5 x6 x7 (x8 ++ [(t182 ++ (dY (bJ x0 x6) x9))]) (wrap64 (x9 + 1))) else (none)) else (none)))) else (none)) else (none)) else (none)) else (none)) else (none)) else (none)) else (if x5.length < 5864062014805 then (aI.l0 k x0 x1 (x5 ++ [x8]) (wrap64 (x6 + 1))) else (none))
end
def aI.f (k : Nat) (l0 : List (List (List (S64)))) (a1 : Int) : Option ((List (List (List (S64))))) := aI.l0 k l0 a1 (([] : List (List (List (S64))))) 0
theorem aI.di : ∀ k, (∀ y0 y1 y2 y3, LeO (aI.l0 k y0 y1 y2 y3) (aI.l0 (k + 1) y0 y1 y2 y3)) ∧ (∀ y0 y1 y2 y3 y4 y5 y6, LeO (aI.l1 k y0 y1 y2 y3 y4 y5 y6) (aI.l1 (k + 1) y0 y1 y2 y3 y4 y5 y6))
 | 0 => ⟨fun _ _ _ _ r h => by simp [aI.l0] at h, fun _ _ _ _ _ _ _ r h => by simp [aI.l1] at h⟩
 | k + 1 => by
  obtain ⟨ih0, ih1⟩ := aI.di k
  refine ⟨?_, ?_⟩ <;> intros <;> (first | unfold aI.l0 | unfold aI.l1) <;> (repeat' first | (with_reducible first | exact ih0 .. | exact ih1 .. | exact LeO.refl .. | exact LeO.none .. | refine LeO.ite ?_ ?_ | refine LeO.bind ?_ (fun _ => ?_)))
theorem aI.mono : ∀ a0 a1 k, LeO (aI.f k a0 a1) (aI.f (k + 1) a0 a1) := by
 intro a0 a1 k
 obtain ⟨ih0, ih1⟩ := aI.di k
 unfold aI.f
 repeat' first | (with_reducible first | exact ih0 .. | exact ih1 .. | exact LeO.refl .. | exact LeO.none .. | refine LeO.ite ?_ ?_ | refine LeO.bind ?_ (fun _ => ?_))
def aI.T10 : Bool × List (List Nat × List Nat) := (true, [([], []), ([], []), ([0, 1], [0, 1]), ([2], [2]), ([], []), ([4], [4]), ([], []), ([5, 6], [5, 6]), ([3, 7], [3, 7]), ([8], [8]), ([], []), ([], []), ([10, 11], [10, 11]), ([12], [12]), ([], []), ([13, 14], [13, 14]), ([15], [15]), ([9, 0, 1, 2, 3, 4, 5, 6, 7, 8, 9], [9]), ([16, 17, 0, 1, 2, 3, 4, 5, 6, 7, 8, 9, 10, 11, 12, 13, 14, 15, 16, 17], [16])])
def aI.B10 : List Nat := [0, 0, 3, 7, 0, 16, 0, 112, 255, 511, 0, 0, 3072, 7168, 0, 31744, 64512, 1023, 262143]
theorem aI.Au : ic .any (opsOf Tryz.f98 10) = aI.T10 := by kernel_rfl
theorem aI.yz : fZ aI.T10.2 aI.B10 = true := by kernel_rfl
def aI.T12 : Bool × List (List Nat × List Nat) := (true, [([], []), ([], []), ([0, 1], [0, 1]), ([2], [2]), ([], []), ([4], [4]), ([5], [5]), ([], []), ([6, 7], [6, 7]), ([3, 8], [3, 8]), ([9], [9]), ([], []), ([], []), ([11, 12], [11, 12]), ([13], [13]), ([], []), ([15], [15]), ([], []), ([16, 17], [16, 17]), ([14, 18], [14, 18]), ([19], [19]), ([10, 0, 1, 2, 3, 4, 5, 6, 7, 8, 9, 10], [10]), ([20, 21, 0, 1, 2, 3, 4, 5, 6, 7, 8, 9, 10, 11, 12, 13, 14, 15, 16, 17, 18, 19, 20, 21], [20])])
def aI.B12 : List Nat := [0, 0, 3, 7, 0, 16, 48, 0, 240, 511, 1023, 0, 0, 6144, 14336, 0, 32768, 0, 229376, 522240, 1046528, 2047, 4194303]
theorem aI.CQ : ic .any (opsOf Tryz.f98 12) = aI.T12 := by kernel_rfl
theorem aI.AZ : fZ aI.T12.2 aI.B12 = true := by kernel_rfl
theorem aI.calls (k : Nat) (A0 : Option Addr) (c0 : Nat) (l0 : List (List (List (S64)))) (a1 : Int) (r : List (List (List (S64)))) (w : World) (hr0 : Kd.C (Kd.slice 61 (Kd.slice 64 k64)) w A0 l0.length l0) (hc0 : l0.length ≤ c0) (h : aI.f k l0 a1 = some r) :
  Calls Tryz.prog 98 #[.slice A0 l0.length c0, .int .u8 a1] w fun e w' => ∃ v0_ : Value, e = .returned (v0_) ∧ Kd.R (Kd.slice 61 (Kd.slice 64 k64)) 96 w' w.heap.size (fun _ => True) v0_ r ∧ Below w.heap.size w w' := by
 have HR0 := a_ hr0
 have T4 := a_ hc0
 clear hr0 hc0
 have HB := a_ (Below.refl w.heap.size w)
 have H : (aI.l0 k l0 a1 (([] : List (List (List (S64))))) 0) = some r := h
 clear h
 obtain ⟨M6, I2⟩ : ∃ y_ : List (List (List (S64))), y_ = (([] : List (List (List (S64))))) := ⟨_, rfl⟩
 replace H : (aI.l0 k l0 a1 M6 0) = some r := rh_ I2 H
 have K1 := a_ I2
 clear I2
 have H' := a_ H
 clear H
 go_enter Tryz.func98, Tryz.ntmps98
 go_wp2_with (first | ((with_reducible refine bf (N := 12) rfl ?_); refine Kd.fU (Kd.slice 61 (Kd.slice 64 k64)) _ 96 ?hg (N := 12) ?hd (xs := ([] : List (List (List (S64))))) (inner := []) (ok := fun _ => True) (okp := fun _ => True) ?hr ?hp (fun _ hk => hk) trivial (Below.refl _ _) (Nat.le_refl _) (by simp) ?_; (case hd => rfl); (case hg => rfl); (case hr => first | (go_simp; done) | (go_simp; rfl)); (case hp => exact (dm.none _ _)); intro S2 w3 ho4 hb hg_ hnew_; clear hg_ hnew_; (first | rw [← K1.out] at ho4 | (simp only [Int.reduceToNat] at ho4; rw [← K1.out] at ho4)); have M7 := a_ (Kd.bu ho4 (af bO)); replace HB := df bO hb; clear hb ho4))
 go_loopg [5, 6] k (fun kq v5 v6 w' => ∃ (B3 : List (List (List (S64)))) (A1 : Int), v6 = .int .i64 A1 ∧ ah (aI.l0 kq l0 a1 B3 A1 = some r) ∧ ah (kq ≤ k) ∧ ah (Kd.R (Kd.slice 61 (Kd.slice 64 k64)) 96 w' w.heap.size (fun _ => True) v5 B3) ∧ ah (Below w.heap.size w w'))
 case atStart => exact ⟨(M6), (0), bZ, H', ⟨Nat.le_refl _⟩, ⟨by (with_reducible repeat (first | apply Kd.aC | apply Kd.aD | apply Kd.az)); exact M7.out⟩, ⟨bO⟩⟩
 case round =>
  clear H'
  obtain ⟨B3, A1, rfl, HA, HK1, HO_5, HB⟩ := hrel
  cases gk with
  | zero => exact absurd HA.out (by simp [aI.l0])
  | succ k1 =>
   have H := HA.out
   clear HA
   simp only [aI.l0] at H
   by_cases c5 : A1 < (l0.length : Int)
   ·rw [if_pos c5] at H
    have M8 := decide_eq_true c5
    clear c5
    replace H := ig_ H; obtain ⟨c6, H⟩ := H
    have P2 := decide_eq_true c6
    clear c6
    obtain ⟨M9, I3⟩ : ∃ y_ : List (List (S64)), y_ = (([] : List (List (S64)))) := ⟨_, rfl⟩
    replace H : (aI.l1 k1 l0 a1 B3 A1 ((bJ l0 A1).length : Int) M9 0) = some r := rh_ I3 H
    have K2 := a_ I3
    clear I3
    have H' := a_ H
    clear H
    have J5 : 0 ≤ (A1 : Int) := of_decide_eq_true aG
    have J6 : A1 < (l0.length : Int) := of_decide_eq_true aG
    obtain ⟨A8, P3, P4, P5, D9, F5, F6⟩ := kD HR0.out A1 J5 J6
    cases P5
    replace D9 := (HB.out.cell (World.block_lt_of_cell? _ _ D9)).trans D9
    have O7 := a_ F6
    have O8 := a_ F5
    clear F6 F5
    replace J5 := eq_true J5
    replace J6 := eq_true J6
    go_wp2_with (first | ((with_reducible refine bf (N := 24) rfl ?_); refine Kd.sI (Kd.slice 64 k64) _ 61 ?hg (N := 24) ?hd (xs := ([] : List (List (S64)))) (inner := []) (ok := fun _ => True) (okp := fun _ => True) ?hr ?hp (fun _ hk => hk) trivial (Below.refl _ _) (Nat.le_refl _) (by simp) ?_; (case hd => rfl); (case hg => rfl); (case hr => first | (go_simp; done) | (go_simp; rfl)); (case hp => exact (dm.none _ _)); intro S3 w7 ho8 hb hg_ hnew_; clear hg_ hnew_; (first | rw [← K2.out] at ho8 | (simp only [Int.reduceToNat] at ho8; rw [← K2.out] at ho8)); replace HO_5 := a_ (Kd.bB (ra_ HO_5.out) (Kd.oV ho8) hb); have N0 := a_ (Kd.mP ho8 (af bO)); replace HB := df bO hb; clear hb ho8))
    go_loopg [8, 9] k1 (fun kq v8 v9 w' => ∃ (A7 : List (List (S64))) (A2 : Int), v9 = .int .i64 A2 ∧ ah (aI.l1 kq l0 a1 B3 A1 ((bJ l0 A1).length : Int) A7 A2 = some r) ∧ ah (kq ≤ k1) ∧ ah (Kd.R (Kd.slice 61 (Kd.slice 64 k64)) 96 w' w.heap.size (fun k_ => some k_ ≠ (v8 : Value).ownBlock) u5 B3) ∧ ah (Kd.S (Kd.slice 64 k64) 61 w' w.heap.size (fun _ => True) v8 A7) ∧ ah (Below w.heap.size w w'))
    case atStart => exact ⟨(M9), (0), bZ, H', ⟨Nat.le_refl _⟩, ⟨wO⟩, ⟨by (with_reducible repeat (first | apply Kd.gI | apply Kd.gM | apply Kd.gL)); exact N0.out⟩, ⟨bO⟩⟩
    case round =>
     clear H'
     try clear M8; try clear P2; try clear D9; try clear J5; try clear J6
     obtain ⟨A7, A2, rfl, HA, HK2, HO_5, HO_8, HB⟩ := hrel
     cases gk with
     | zero => exact absurd HA.out (by simp [aI.l1])
     | succ k2 =>
      have H := HA.out
      clear HA
      simp only [aI.l1] at H
      (try simp only [show ∀ (n_ : Nat) (k_ : Int), Int.tdiv (n_ : Int) k_ = (n_ : Int) / k_ from fun n_ k_ => Int.tdiv_eq_ediv_of_nonneg (Int.natCast_nonneg n_), show ∀ (n_ : Nat) (k_ : Int), Int.tmod (n_ : Int) k_ = (n_ : Int) % k_ from fun n_ k_ => Int.tmod_eq_emod_of_nonneg (Int.natCast_nonneg n_)] at H)
      by_cases c9 : A2 < (wrap64 ((((bJ l0 A1).length : Int) / 2)))
      ·rw [if_pos c9] at H
       have P6 := decide_eq_true c9
       clear c9
       replace H := ig_ H; obtain ⟨c10, H⟩ := H
       have R1 := decide_eq_true c10
       clear c10
       replace H := ig_ H; obtain ⟨c11, H⟩ := H
       have R2 := decide_eq_true c11
       clear c11
       obtain ⟨B4, F7⟩ : ∃ j_ : Int, (wrap64 ((wrap64 (((bJ l0 A1).length : Int) - 1)) - A2)) = j_ := ⟨_, rfl⟩
       replace H : (if 0 ≤ (B4) then (if (B4) < ((bJ l0 A1).length : Int) then (if 0 ≤ A2 then (if A2 < ((bJ l0 A1).length : Int) then (if a1 = 76 then (if 0 ≤ (wrap64 ((wrap64 ((wrap64 ((((bJ l0 A1).length : Int) / 2))) - 1)) - A2)) then (if (wrap64 ((wrap64 ((wrap64 ((((bJ l0 A1).length : Int) / 2))) - 1)) - A2)) < ((bJ l0 A1).length : Int) then (if 0 ≤ (wrap64 ((wrap64 ((((bJ l0 A1).length : Int) / 2))) + A2)) then (if (wrap64 ((wrap64 ((((bJ l0 A1).length : Int) / 2))) + A2)) < ((bJ l0 A1).length : Int) then ((bS.f (dY (bJ l0 A1) (wrap64 ((wrap64 ((wrap64 ((((bJ l0 A1).length : Int) / 2))) - 1)) - A2))) true).bind fun D6 => (if D6.length + (dY (bJ l0 A1) (wrap64 ((wrap64 ((((bJ l0 A1).length : Int) / 2))) + A2))).length < 5864062014805 then (if A7.length < 5864062014805 then (aI.l1 k2 l0 a1 B3 A1 ((bJ l0 A1).length : Int) (A7 ++ [(D6 ++ (dY (bJ l0 A1) (wrap64 ((wrap64 ((((bJ l0 A1).length : Int) / 2))) + A2))))]) (wrap64 (A2 + 1))) else (none)) else (none))) else (none)) else (none)) else (none)) else (none)) else ((bS.f (dY (bJ l0 A1) (B4)) true).bind fun H9 => (if H9.length + (dY (bJ l0 A1) A2).length < 5864062014805 then (if A7.length < 5864062014805 then (aI.l1 k2 l0 a1 B3 A1 ((bJ l0 A1).length : Int) (A7 ++ [(H9 ++ (dY (bJ l0 A1) A2))]) (wrap64 (A2 + 1))) else (none)) else (none)))) else (none)) else (none)) else (none)) else (none)) = some r := by first | (rw [F7] at H; exact H) | (simp only [F7] at H ⊢; exact H)
       have hji12w : (IntKind.i64.wrap ((wrap64 (((bJ l0 A1).length : Int) - 1)) - A2)) = B4 := (eU _).trans F7
       replace H := ig_ H; obtain ⟨c13, H⟩ := H
       have R3 := decide_eq_true c13
       clear c13
       replace H := ig_ H; obtain ⟨c14, H⟩ := H
       have R4 := decide_eq_true c14
       clear c14
       replace H := ig_ H; obtain ⟨c15, H⟩ := H
       have R5 := decide_eq_true c15
       clear c15
       replace H := ig_ H; obtain ⟨c16, H⟩ := H
       have R6 := decide_eq_true c16
       clear c16
       by_cases c17 : a1 = 76
       ·rw [if_pos c17] at H
        have N1 : (a1 == 76) = true := beq_iff_eq.mpr c17
        have N2 : (a1 != 76) = false := bne_eq_false_iff_eq.mpr c17
        clear c17
        obtain ⟨D7, F8⟩ : ∃ j_ : Int, (wrap64 ((wrap64 ((wrap64 ((((bJ l0 A1).length : Int) / 2))) - 1)) - A2)) = j_ := ⟨_, rfl⟩
        replace H : (if 0 ≤ (D7) then (if (D7) < ((bJ l0 A1).length : Int) then (if 0 ≤ (wrap64 ((wrap64 ((((bJ l0 A1).length : Int) / 2))) + A2)) then (if (wrap64 ((wrap64 ((((bJ l0 A1).length : Int) / 2))) + A2)) < ((bJ l0 A1).length : Int) then ((bS.f (dY (bJ l0 A1) (D7)) true).bind fun D6 => (if D6.length + (dY (bJ l0 A1) (wrap64 ((wrap64 ((((bJ l0 A1).length : Int) / 2))) + A2))).length < 5864062014805 then (if A7.length < 5864062014805 then (aI.l1 k2 l0 a1 B3 A1 ((bJ l0 A1).length : Int) (A7 ++ [(D6 ++ (dY (bJ l0 A1) (wrap64 ((wrap64 ((((bJ l0 A1).length : Int) / 2))) + A2))))]) (wrap64 (A2 + 1))) else (none)) else (none))) else (none)) else (none)) else (none)) else (none)) = some r := by first | (rw [F8] at H; exact H) | (simp only [F8] at H ⊢; exact H)
        have hji18w : (IntKind.i64.wrap ((wrap64 ((wrap64 ((((bJ l0 A1).length : Int) / 2))) - 1)) - A2)) = D7 := (eU _).trans F8
        replace H := ig_ H; obtain ⟨c19, H⟩ := H
        have R7 := decide_eq_true c19
        clear c19
        replace H := ig_ H; obtain ⟨c20, H⟩ := H
        have R8 := decide_eq_true c20
        clear c20
        obtain ⟨D8, I4⟩ : ∃ j_ : Int, (wrap64 ((wrap64 ((((bJ l0 A1).length : Int) / 2))) + A2)) = j_ := ⟨_, rfl⟩
        replace H : (if 0 ≤ (D8) then (if (D8) < ((bJ l0 A1).length : Int) then ((bS.f (dY (bJ l0 A1) (D7)) true).bind fun D6 => (if D6.length + (dY (bJ l0 A1) (D8)).length < 5864062014805 then (if A7.length < 5864062014805 then (aI.l1 k2 l0 a1 B3 A1 ((bJ l0 A1).length : Int) (A7 ++ [(D6 ++ (dY (bJ l0 A1) (D8)))]) (wrap64 (A2 + 1))) else (none)) else (none))) else (none)) else (none)) = some r := by first | (rw [I4] at H; exact H) | (simp only [I4] at H ⊢; exact H)
        have hji21w : (IntKind.i64.wrap ((wrap64 ((((bJ l0 A1).length : Int) / 2))) + A2)) = D8 := (eU _).trans I4
        replace H := ig_ H; obtain ⟨c22, H⟩ := H
        have R9 := decide_eq_true c22
        clear c22
        replace H := ig_ H; obtain ⟨c23, H⟩ := H
        have S0 := decide_eq_true c23
        clear c23
        replace H := bo_ H; obtain ⟨D6, S4, H⟩ := H; (try dsimp only at H)
        replace H := ig_ H; obtain ⟨c25, H⟩ := H
        have LMc25 := a_ c25
        clear c25
        obtain ⟨I0, I5⟩ : ∃ y_ : List (S64), y_ = (D6 ++ (dY (bJ l0 A1) (D8))) := ⟨_, rfl⟩
        replace H : (if A7.length < 5864062014805 then (aI.l1 k2 l0 a1 B3 A1 ((bJ l0 A1).length : Int) (A7 ++ [I0]) (wrap64 (A2 + 1))) else (none)) = some r := rh_ I5 H
        have N3 := a_ I5
        clear I5
        replace H := ig_ H; obtain ⟨c26, H⟩ := H
        have LMc26 := a_ c26
        clear c26
        obtain ⟨N4, I6⟩ : ∃ y_ : List (List (S64)), y_ = (A7 ++ [I0]) := ⟨_, rfl⟩
        replace H : (aI.l1 k2 l0 a1 B3 A1 ((bJ l0 A1).length : Int) N4 (wrap64 (A2 + 1))) = some r := rh_ I6 H
        have N5 := a_ I6
        clear I6
        have H' := a_ H
        clear H
        try go_wp2
        replace HO_5 := a_ (Kd.az HO_5.out)
        replace HO_8 := a_ (Kd.gL HO_8.out)
        replace HB := a_ (aU HB.out)
        have E5 : 0 ≤ (A1 : Int) := of_decide_eq_true aG
        have E6 : A1 < (l0.length : Int) := of_decide_eq_true aG
        obtain ⟨I7, K5, E2, K6, A3, B7, C0⟩ := kD HR0.out A1 E5 E6
        have C1 := A3
        obtain rfl : A8 = I7 := (by injection K6)
        replace A3 := (HB.out.cell (World.block_lt_of_cell? _ _ A3)).trans A3
        have C2 := a_ C0
        have J7 := a_ B7
        clear C0 B7
        replace E5 := eq_true E5
        replace E6 := eq_true E6
        have E7 : 0 ≤ ((B4) : Int) := of_decide_eq_true aG
        have E8 : (B4) < ((bJ l0 A1).length : Int) := of_decide_eq_true aG
        obtain ⟨C3, E3, E4, K7, A5, C4, C5⟩ := kT C2.out (B4) E7 E8
        have C6 := A5
        cases K7
        replace A5 := (HB.out.cell (World.block_lt_of_cell? _ _ A5)).trans A5
        have E0 := a_ C5
        have F9 := a_ C4
        clear C5 C4
        replace E7 := eq_true E7
        replace E8 := eq_true E8
        have E9 : 0 ≤ (A1 : Int) := of_decide_eq_true aG
        have F0 : A1 < (l0.length : Int) := of_decide_eq_true aG
        obtain ⟨I8, K8, K9, L0, A4, C7, C8⟩ := kD HR0.out A1 E9 F0
        have C9 := A4
        obtain rfl : A8 = I8 := (by injection L0)
        replace A4 := (HB.out.cell (World.block_lt_of_cell? _ _ A4)).trans A4
        have D0 := a_ C8
        have J8 := a_ C7
        clear C8 C7
        replace E9 := eq_true E9
        replace F0 := eq_true F0
        have ea_ := Option.some.inj (A3.symm.trans A4)
        injection ea_ with ea_ en_ ec_
        subst ea_
        subst ec_
        clear en_
        have F1 : 0 ≤ (A2 : Int) := of_decide_eq_true aG
        have F2 : A2 < ((bJ l0 A1).length : Int) := of_decide_eq_true aG
        obtain ⟨N6, F3, F4, L1, A6, D1, D2⟩ := kT D0.out A2 F1 F2
        have D3 := A6
        cases L1
        replace A6 := (HB.out.cell (World.block_lt_of_cell? _ _ A6)).trans A6
        have E1 := a_ D2
        have J9 := a_ D1
        clear D2 D1
        replace F1 := eq_true F1
        replace F2 := eq_true F2
        refine gQ (n := 19) (S := fun w' => w'.cell? (A8.add (A1).toNat) = some (.slice (some C3) (bJ l0 A1).length E2) ∧ w'.cell? (C3.add ((B4)).toNat) = some (.slice E3 (dY (bJ l0 A1) (B4)).length E4) ∧ w'.cell? (A8.add (A1).toNat) = some (.slice (some C3) (bJ l0 A1).length E2) ∧ w'.cell? (C3.add (A2).toNat) = some (.slice F3 (dY (bJ l0 A1) A2).length F4)) (ds := []) #[false, false, false, false, false, false, false, false, false, false, false, false, false, false, false, false, false, false, false] (by kernel_rfl) rfl rfl ⟨((HB.out.cell (World.block_lt_of_cell? _ _ C1)).trans C1), ((HB.out.cell (World.block_lt_of_cell? _ _ C6)).trans C6), ((HB.out.cell (World.block_lt_of_cell? _ _ C9)).trans C9), ((HB.out.cell (World.block_lt_of_cell? _ _ D3)).trans D3)⟩ (fun hHeld => ?_); refine fI aI.Au aI.yz (fun HT_ HW_ => ?_)
        generalize wr.drew = S5 at HO_5 HO_8 HB C2 E0 D0 E1 A3 A5 A4 A6 hHeld ⊢
        refine pv_ 0 (some 31) ?_
        refine pv_ 1 (some 32) ?_
        refine pv_ 2 (some 33) ?_
        refine pv_ 4 (some 35) ?_
        refine pv_ 5 (some 36) ?_
        refine pv_ 6 (some 37) ?_
        refine pv_ 7 (some 38) ?_
        refine pv_ 10 (some 41) ?_
        refine pv_ 11 (some 42) ?_
        refine pv_ 12 (some 43) ?_
        refine pv_ 14 (some 45) ?_
        refine mf 3 (some 34) hHeld ?_
        refine pv_ 8 (some 39) ?_
        refine mf 9 (some 40) hHeld ?_
        refine pv_ 17 (some 10) ?_
        refine mf 13 (some 44) hHeld ?_
        refine pv_ 15 (some 46) ?_
        refine mf 16 (some 47) hHeld ?_
        refine pv_ 18 (some 11) ?_
        refine ja (gU HT_.out (by kernel_rfl)) ?_
        try go_wp2
        replace HO_5 := a_ (Kd.az HO_5.out)
        replace HO_8 := a_ (Kd.gL HO_8.out)
        replace HB := a_ (aU HB.out)
        have L2 : 0 ≤ (A1 : Int) := of_decide_eq_true aG
        have L3 : A1 < (l0.length : Int) := of_decide_eq_true aG
        obtain ⟨N7, P7, I9, P8, A9, G0, G1⟩ := kD HR0.out A1 L2 L3
        have G2 := A9
        obtain rfl : A8 = N7 := (by injection P8)
        replace A9 := (HB.out.cell (World.block_lt_of_cell? _ _ A9)).trans A9
        have G3 := a_ G1
        have O9 := a_ G0
        clear G1 G0
        replace L2 := eq_true L2
        replace L3 := eq_true L3
        have L4 : 0 ≤ ((D7) : Int) := of_decide_eq_true aG
        have L5 : (D7) < ((bJ l0 A1).length : Int) := of_decide_eq_true aG
        obtain ⟨G4, J0, J1, P9, D4, G5, G6⟩ := kT G3.out (D7) L4 L5
        have G7 := D4
        cases P9
        replace D4 := (HB.out.cell (World.block_lt_of_cell? _ _ D4)).trans D4
        have G8 := a_ G6
        have K0 := a_ G5
        clear G6 G5
        replace L4 := eq_true L4
        replace L5 := eq_true L5
        have L6 : 0 ≤ (A1 : Int) := of_decide_eq_true aG
        have L7 : A1 < (l0.length : Int) := of_decide_eq_true aG
        obtain ⟨N8, Q0, Q1, Q2, B0, G9, H0⟩ := kD HR0.out A1 L6 L7
        have H1 := B0
        obtain rfl : A8 = N8 := (by injection Q2)
        replace B0 := (HB.out.cell (World.block_lt_of_cell? _ _ B0)).trans B0
        have H2 := a_ H0
        have P0 := a_ G9
        clear H0 G9
        replace L6 := eq_true L6
        replace L7 := eq_true L7
        have ea_ := Option.some.inj (A9.symm.trans B0)
        injection ea_ with ea_ en_ ec_
        subst ea_
        subst ec_
        clear en_
        have L8 : 0 ≤ ((D8) : Int) := of_decide_eq_true aG
        have L9 : (D8) < ((bJ l0 A1).length : Int) := of_decide_eq_true aG
        obtain ⟨S1, M0, M1, Q3, D5, H3, H4⟩ := kT H2.out (D8) L8 L9
        have H5 := D5
        cases Q3
        replace D5 := (HB.out.cell (World.block_lt_of_cell? _ _ D5)).trans D5
        have H6 := a_ H4
        have P1 := a_ H3
        clear H4 H3
        replace L8 := eq_true L8
        replace L9 := eq_true L9
        refine gQ (n := 23) (S := fun w' => w'.cell? (A8.add (A1).toNat) = some (.slice (some G4) (bJ l0 A1).length I9) ∧ w'.cell? (G4.add ((D7)).toNat) = some (.slice J0 (dY (bJ l0 A1) (D7)).length J1) ∧ w'.cell? (A8.add (A1).toNat) = some (.slice (some G4) (bJ l0 A1).length I9) ∧ w'.cell? (G4.add ((D8)).toNat) = some (.slice M0 (dY (bJ l0 A1) (D8)).length M1)) (ds := []) #[false, false, false, false, false, false, false, false, false, false, false, false, false, false, false, false, false, false, false, false, false, false, false] (by kernel_rfl) rfl rfl ⟨((HB.out.cell (World.block_lt_of_cell? _ _ G2)).trans G2), ((HB.out.cell (World.block_lt_of_cell? _ _ G7)).trans G7), ((HB.out.cell (World.block_lt_of_cell? _ _ H1)).trans H1), ((HB.out.cell (World.block_lt_of_cell? _ _ H5)).trans H5)⟩ (fun hHeld => ?_); refine fI aI.CQ aI.AZ (fun HT_ HW_ => ?_)
        generalize S5.drew = T7 at HO_5 HO_8 HB G3 G8 H2 H6 A9 D4 B0 D5 hHeld ⊢
        refine pv_ 0 (some 50) ?_
        refine pv_ 1 (some 51) ?_
        refine pv_ 2 (some 52) ?_
        refine pv_ 4 (some 54) ?_
        refine pv_ 5 (some 55) ?_
        refine pv_ 6 (some 56) ?_
        refine pv_ 7 (some 57) ?_
        refine pv_ 8 (some 58) ?_
        refine pv_ 11 (some 61) ?_
        refine pv_ 12 (some 62) ?_
        refine pv_ 13 (some 63) ?_
        refine pv_ 15 (some 65) ?_
        refine pv_ 16 (some 66) ?_
        refine pv_ 17 (some 67) ?_
        refine pv_ 18 (some 68) ?_
        refine mf 3 (some 53) hHeld ?_
        refine pv_ 9 (some 59) ?_
        refine mf 10 (some 60) hHeld ?_
        refine pv_ 21 (some 10) ?_
        refine mf 14 (some 64) hHeld ?_
        refine pv_ 19 (some 69) ?_
        refine mf 20 (some 70) hHeld ?_
        refine pv_ 22 (some 11) ?_
        refine ja (gU HT_.out (by kernel_rfl)) ?_
        try go_wp2_with (first | ((with_reducible refine av (f := 115) rfl ?_); refine bI (some 73) rfl rfl Tryz.func115 (by kernel_rfl) rfl #[.slice J0 (dY (bJ l0 A1) (D7)).length J1, .bool true] rfl (by (try simp only [List.map_toArray, List.map_cons, List.map_nil]); first | done | (simp only [F8]; rfl) | rfl | (simp only [List.length_drop, List.length_take]; rfl)) ?_; (with_reducible refine (bS.calls _ _ (dY (bJ l0 A1) (D7)) true D6 _ ?side1 ?side2 S4.out).mono ?_); (case side1 => exact kc_ (Kd.bE G8.out HB.out)); (case side2 => exact K0.out); rintro e U0 ⟨Q4, rfl, ho0, hb⟩; refine ⟨_, rfl, ?_⟩; replace HO_5 := a_ (Kd.bB (ra_ HO_5.out) (Kd.bN ho0) hb); replace HO_8 := a_ (Kd.kC xm (Kd.bN ho0) hb); have K3 := a_ (Kd.bu ho0 (af bO)); replace HB := df bO hb; (try clear hb); (try clear ho0)) | ((with_reducible refine bF (b := .append) (xs := #[.tmp 73, .tmp 74]) rfl ?_); at_builtin; refine Kd.dO k64 (w0 := w) w.heap.size rfl (.tmp 73) (.tmp 74) 61 64 (.agg #[(.int .i64 0), (.int .i64 0), (.bool false), (.bool false)]) 24 rfl Tryz.underlying61 lN rfl (by decide) (by omega) Q4 D6 (dY (bJ l0 A1) (D8)) _ _ _ (fun _ => True) (fun _ => False) rfl rfl ?aO ?aR (fun _ _ h => h) (fun _ h => h.elim) ?aF ?aB ?aS ?aL ?_; (case aR => exact kc_ (Kd.bE H6.out HB.out)); (case aB => exact bO); (case aF => exact (fun _ _ => trivial)); (case aO => exact (ra_ K3.out)); (case aS => exact (af bO)); (case aL => have := LMc25.out; omega); intro S6 U1 ho hb hg hat; rw [← N3.out] at ho; replace HO_5 := a_ (Kd.dn (ok := (fun k_ => some k_ ≠ (u8 : Value).ownBlock)) (ra_ HO_5.out) hg hat); replace HO_8 := a_ (Kd.qz (ok := (fun _ => True)) xm hg hat); replace HB := a_ (hb); have H7 := a_ (ho); clear K3; clear ho hb hg hat; obtain ⟨M2, M3, Q5⟩ := Kd.bg H7.out; subst Q5) | ((with_reducible refine bF (b := .append) (xs := #[.tmp 71, .tmp 76]) rfl ?_); at_builtin; refine Kd.oq (Kd.slice 64 k64) (w0 := w) w.heap.size rfl (.tmp 71) (.tmp 76) 96 61 (.slice none 0 0) 24 rfl Tryz.underlying96 nW rfl (by decide) (by omega) u8 A7 I0 [.slice M2 I0.length M3] (fun _ => True) (fun k_ => some k_ = (.slice M2 I0.length M3 : Value).ownBlock) rfl rfl ?aP (fun k_ hk_ => ((Kd.ae (ok' := fun k_ => ((fun _ => True)) k_ ∧ some k_ ≠ (u8 : Value).ownBlock) (Kd.gm (H7.out) (Kd.ji HO_8.out) (by decide)) (fun k_ hk => ⟨trivial, hk.2⟩))).1 k_ hk_.symm) ?aF ?aO ?aB ?aS ?aL ?_; (case aP => exact Kd.lm (Kd.ae (Kd.kS rfl (Kd.ae (ok' := fun k_ => ((fun _ => True)) k_ ∧ some k_ ≠ (u8 : Value).ownBlock) (Kd.gm (H7.out) (Kd.ji HO_8.out) (by decide)) (fun k_ hk => ⟨trivial, hk.2⟩))) (fun _ h_ => h_))); (case aB => exact bO); (case aF => exact (fun _ _ => trivial)); (case aO => exact (by (with_reducible repeat (first | apply Kd.gI | apply Kd.gM | apply Kd.gL)); exact Kd.mi HO_8.out (fun k_ hk => ⟨trivial, fun e_ => hk.2 e_⟩))); (case aS => exact (af bO)); (case aL => have := LMc26.out; omega); intro S7 U2 ho hb hg hat; rw [← N5.out] at ho; replace HO_5 := a_ (Kd.dn (ok := (fun k_ => nb_ k_ M2 I0.length M3)) (rc_ (h := by exact Kd.ae HO_5.out (fun _ hk => ⟨hk.2, hk.1⟩))) hg hat); replace HB := a_ (hb); have N9 := a_ (ho); clear H7; clear HO_8; clear ho hb hg hat))
        go_roundg k2
        case measure => have := HK1.out; have := HK2.out; omega
        case rel => exact ⟨(N4), (wrap64 (A2 + 1)), bZ, H', ⟨ko⟩, ⟨wO⟩, ⟨by (with_reducible repeat (first | apply Kd.gI | apply Kd.gM | apply Kd.gL)); exact N9.out⟩, ⟨bO⟩⟩
       rw [if_neg c17] at H
       have N1 : (a1 == 76) = false := beq_eq_false_iff_ne.mpr c17
       have N2 : (a1 != 76) = true := bne_iff_ne.mpr c17
       replace H := bo_ H; obtain ⟨H9, S8, H⟩ := H; (try dsimp only at H)
       replace H := ig_ H; obtain ⟨c34, H⟩ := H
       have LMc34 := a_ c34
       clear c34
       obtain ⟨I1, J2⟩ : ∃ y_ : List (S64), y_ = (H9 ++ (dY (bJ l0 A1) A2)) := ⟨_, rfl⟩
       replace H : (if A7.length < 5864062014805 then (aI.l1 k2 l0 a1 B3 A1 ((bJ l0 A1).length : Int) (A7 ++ [I1]) (wrap64 (A2 + 1))) else (none)) = some r := rh_ J2 H
       have O0 := a_ J2
       clear J2
       replace H := ig_ H; obtain ⟨c35, H⟩ := H
       have LMc35 := a_ c35
       clear c35
       obtain ⟨O1, J3⟩ : ∃ y_ : List (List (S64)), y_ = (A7 ++ [I1]) := ⟨_, rfl⟩
       replace H : (aI.l1 k2 l0 a1 B3 A1 ((bJ l0 A1).length : Int) O1 (wrap64 (A2 + 1))) = some r := rh_ J3 H
       have O2 := a_ J3
       clear J3
       have H' := a_ H
       clear H
       try go_wp2
       replace HO_5 := a_ (Kd.az HO_5.out)
       replace HO_8 := a_ (Kd.gL HO_8.out)
       replace HB := a_ (aU HB.out)
       have E5 : 0 ≤ (A1 : Int) := of_decide_eq_true aG
       have E6 : A1 < (l0.length : Int) := of_decide_eq_true aG
       obtain ⟨I7, K5, E2, K6, A3, B7, C0⟩ := kD HR0.out A1 E5 E6
       have C1 := A3
       obtain rfl : A8 = I7 := (by injection K6)
       replace A3 := (HB.out.cell (World.block_lt_of_cell? _ _ A3)).trans A3
       have C2 := a_ C0
       have J7 := a_ B7
       clear C0 B7
       replace E5 := eq_true E5
       replace E6 := eq_true E6
       have E7 : 0 ≤ ((B4) : Int) := of_decide_eq_true aG
       have E8 : (B4) < ((bJ l0 A1).length : Int) := of_decide_eq_true aG
       obtain ⟨C3, E3, E4, K7, A5, C4, C5⟩ := kT C2.out (B4) E7 E8
       have C6 := A5
       cases K7
       replace A5 := (HB.out.cell (World.block_lt_of_cell? _ _ A5)).trans A5
       have E0 := a_ C5
       have F9 := a_ C4
       clear C5 C4
       replace E7 := eq_true E7
       replace E8 := eq_true E8
       have E9 : 0 ≤ (A1 : Int) := of_decide_eq_true aG
       have F0 : A1 < (l0.length : Int) := of_decide_eq_true aG
       obtain ⟨I8, K8, K9, L0, A4, C7, C8⟩ := kD HR0.out A1 E9 F0
       have C9 := A4
       obtain rfl : A8 = I8 := (by injection L0)
       replace A4 := (HB.out.cell (World.block_lt_of_cell? _ _ A4)).trans A4
       have D0 := a_ C8
       have J8 := a_ C7
       clear C8 C7
       replace E9 := eq_true E9
       replace F0 := eq_true F0
       have ea_ := Option.some.inj (A3.symm.trans A4)
       injection ea_ with ea_ en_ ec_
       subst ea_
       subst ec_
       clear en_
       have F1 : 0 ≤ (A2 : Int) := of_decide_eq_true aG
       have F2 : A2 < ((bJ l0 A1).length : Int) := of_decide_eq_true aG
       obtain ⟨N6, F3, F4, L1, A6, D1, D2⟩ := kT D0.out A2 F1 F2
       have D3 := A6
       cases L1
       replace A6 := (HB.out.cell (World.block_lt_of_cell? _ _ A6)).trans A6
       have E1 := a_ D2
       have J9 := a_ D1
       clear D2 D1
       replace F1 := eq_true F1
       replace F2 := eq_true F2
       refine gQ (n := 19) (S := fun w' => w'.cell? (A8.add (A1).toNat) = some (.slice (some C3) (bJ l0 A1).length E2) ∧ w'.cell? (C3.add ((B4)).toNat) = some (.slice E3 (dY (bJ l0 A1) (B4)).length E4) ∧ w'.cell? (A8.add (A1).toNat) = some (.slice (some C3) (bJ l0 A1).length E2) ∧ w'.cell? (C3.add (A2).toNat) = some (.slice F3 (dY (bJ l0 A1) A2).length F4)) (ds := []) #[false, false, false, false, false, false, false, false, false, false, false, false, false, false, false, false, false, false, false] (by kernel_rfl) rfl rfl ⟨((HB.out.cell (World.block_lt_of_cell? _ _ C1)).trans C1), ((HB.out.cell (World.block_lt_of_cell? _ _ C6)).trans C6), ((HB.out.cell (World.block_lt_of_cell? _ _ C9)).trans C9), ((HB.out.cell (World.block_lt_of_cell? _ _ D3)).trans D3)⟩ (fun hHeld => ?_); refine fI aI.Au aI.yz (fun HT_ HW_ => ?_)
       generalize wr.drew = U3 at HO_5 HO_8 HB C2 E0 D0 E1 A3 A5 A4 A6 hHeld ⊢
       refine pv_ 0 (some 31) ?_
       refine pv_ 1 (some 32) ?_
       refine pv_ 2 (some 33) ?_
       refine pv_ 4 (some 35) ?_
       refine pv_ 5 (some 36) ?_
       refine pv_ 6 (some 37) ?_
       refine pv_ 7 (some 38) ?_
       refine pv_ 10 (some 41) ?_
       refine pv_ 11 (some 42) ?_
       refine pv_ 12 (some 43) ?_
       refine pv_ 14 (some 45) ?_
       refine mf 3 (some 34) hHeld ?_
       refine pv_ 8 (some 39) ?_
       refine mf 9 (some 40) hHeld ?_
       refine pv_ 17 (some 10) ?_
       refine mf 13 (some 44) hHeld ?_
       refine pv_ 15 (some 46) ?_
       refine mf 16 (some 47) hHeld ?_
       refine pv_ 18 (some 11) ?_
       refine ja (gU HT_.out (by kernel_rfl)) ?_
       try go_wp2_with (first | ((with_reducible refine av (f := 115) rfl ?_); refine bI (some 73) rfl rfl Tryz.func115 (by kernel_rfl) rfl #[.slice E3 (dY (bJ l0 A1) (B4)).length E4, .bool true] rfl (by (try simp only [List.map_toArray, List.map_cons, List.map_nil]); first | done | (simp only [F7]; rfl) | rfl | (simp only [List.length_drop, List.length_take]; rfl)) ?_; (with_reducible refine (bS.calls _ _ (dY (bJ l0 A1) (B4)) true H9 _ ?side1 ?side2 S8.out).mono ?_); (case side1 => exact kc_ (Kd.bE E0.out HB.out)); (case side2 => exact F9.out); rintro e U4 ⟨Q6, rfl, ho0, hb⟩; refine ⟨_, rfl, ?_⟩; replace HO_5 := a_ (Kd.bB (ra_ HO_5.out) (Kd.bN ho0) hb); replace HO_8 := a_ (Kd.kC xm (Kd.bN ho0) hb); have K4 := a_ (Kd.bu ho0 (af bO)); replace HB := df bO hb; (try clear hb); (try clear ho0)) | ((with_reducible refine bF (b := .append) (xs := #[.tmp 73, .tmp 74]) rfl ?_); at_builtin; refine Kd.dO k64 (w0 := w) w.heap.size rfl (.tmp 73) (.tmp 74) 61 64 (.agg #[(.int .i64 0), (.int .i64 0), (.bool false), (.bool false)]) 24 rfl Tryz.underlying61 lN rfl (by decide) (by omega) Q6 H9 (dY (bJ l0 A1) A2) _ _ _ (fun _ => True) (fun _ => False) rfl rfl ?aO ?aR (fun _ _ h => h) (fun _ h => h.elim) ?aF ?aB ?aS ?aL ?_; (case aR => exact kc_ (Kd.bE E1.out HB.out)); (case aB => exact bO); (case aF => exact (fun _ _ => trivial)); (case aO => exact (ra_ K4.out)); (case aS => exact (af bO)); (case aL => have := LMc34.out; omega); intro S9 U5 ho hb hg hat; rw [← O0.out] at ho; replace HO_5 := a_ (Kd.dn (ok := (fun k_ => some k_ ≠ (u8 : Value).ownBlock)) (ra_ HO_5.out) hg hat); replace HO_8 := a_ (Kd.qz (ok := (fun _ => True)) xm hg hat); replace HB := a_ (hb); have H8 := a_ (ho); clear K4; clear ho hb hg hat; obtain ⟨M4, M5, Q7⟩ := Kd.bg H8.out; subst Q7) | ((with_reducible refine bF (b := .append) (xs := #[.tmp 71, .tmp 76]) rfl ?_); at_builtin; refine Kd.oq (Kd.slice 64 k64) (w0 := w) w.heap.size rfl (.tmp 71) (.tmp 76) 96 61 (.slice none 0 0) 24 rfl Tryz.underlying96 nW rfl (by decide) (by omega) u8 A7 I1 [.slice M4 I1.length M5] (fun _ => True) (fun k_ => some k_ = (.slice M4 I1.length M5 : Value).ownBlock) rfl rfl ?aP (fun k_ hk_ => ((Kd.ae (ok' := fun k_ => ((fun _ => True)) k_ ∧ some k_ ≠ (u8 : Value).ownBlock) (Kd.gm (H8.out) (Kd.ji HO_8.out) (by decide)) (fun k_ hk => ⟨trivial, hk.2⟩))).1 k_ hk_.symm) ?aF ?aO ?aB ?aS ?aL ?_; (case aP => exact Kd.lm (Kd.ae (Kd.kS rfl (Kd.ae (ok' := fun k_ => ((fun _ => True)) k_ ∧ some k_ ≠ (u8 : Value).ownBlock) (Kd.gm (H8.out) (Kd.ji HO_8.out) (by decide)) (fun k_ hk => ⟨trivial, hk.2⟩))) (fun _ h_ => h_))); (case aB => exact bO); (case aF => exact (fun _ _ => trivial)); (case aO => exact (by (with_reducible repeat (first | apply Kd.gI | apply Kd.gM | apply Kd.gL)); exact Kd.mi HO_8.out (fun k_ hk => ⟨trivial, fun e_ => hk.2 e_⟩))); (case aS => exact (af bO)); (case aL => have := LMc35.out; omega); intro T0 U6 ho hb hg hat; rw [← O2.out] at ho; replace HO_5 := a_ (Kd.dn (ok := (fun k_ => nb_ k_ M4 I1.length M5)) (rc_ (h := by exact Kd.ae HO_5.out (fun _ hk => ⟨hk.2, hk.1⟩))) hg hat); replace HB := a_ (hb); have O3 := a_ (ho); clear H8; clear HO_8; clear ho hb hg hat))
       go_roundg k2
       case measure => have := HK1.out; have := HK2.out; omega
       case rel => exact ⟨(O1), (wrap64 (A2 + 1)), bZ, H', ⟨ko⟩, ⟨wO⟩, ⟨by (with_reducible repeat (first | apply Kd.gI | apply Kd.gM | apply Kd.gL)); exact O3.out⟩, ⟨bO⟩⟩
      rw [if_neg c9] at H
      have P6 := decide_eq_false c9
      clear c9
      replace H := ig_ H; obtain ⟨c41, H⟩ := H
      have LMc41 := a_ c41
      clear c41
      obtain ⟨O4, J4⟩ : ∃ y_ : List (List (List (S64))), y_ = (B3 ++ [A7]) := ⟨_, rfl⟩
      replace H : (aI.l0 k2 l0 a1 O4 (wrap64 (A1 + 1))) = some r := rh_ J4 H
      have O5 := a_ J4
      clear J4
      have H' := a_ H
      clear H
      obtain ⟨Q8, Q9, R0⟩ := Kd.lK HO_8.out
      subst R0
      go_wp2_with (first | ((with_reducible refine bF (b := .append) (xs := #[.tmp 78, .tmp 80]) rfl ?_); at_builtin; refine Kd.fH (Kd.slice 61 (Kd.slice 64 k64)) (w0 := w) w.heap.size rfl (.tmp 78) (.tmp 80) 95 96 (.slice none 0 0) 24 rfl Tryz.underlying95 pz rfl (by decide) (by omega) u5 B3 A7 [.slice Q8 A7.length Q9] (fun _ => True) (fun k_ => ((fun _ => True)) k_ ∧ some k_ ≠ (u5 : Value).ownBlock) rfl rfl ?aP (fun _ hk => hk) ?aF ?aO ?aB ?aS ?aL ?_; (case aP => exact Kd.lm (Kd.ae (Kd.gm ((Kd.S_R HO_8.out)) (Kd.fV HO_5.out) (by decide)) (fun k_ hk => ⟨trivial, hk.2⟩))); (case aB => exact bO); (case aF => exact (fun _ _ => trivial)); (case aO => exact (rc_ (h := by exact Kd.ae HO_5.out (fun _ hk => trivial)))); (case aS => exact (af bO)); (case aL => have := LMc41.out; omega); intro T3 U7 ho hb hg hat; rw [← O5.out] at ho; replace HB := a_ (hb); have O6 := a_ (ho); clear HO_5; clear HO_8; clear ho hb hg hat))
      go_roundg k2
      case measure => have := HK1.out; have := HK2.out; omega
      case rel => exact ⟨(O4), (wrap64 (A1 + 1)), bZ, H', ⟨ko⟩, ⟨by (with_reducible repeat (first | apply Kd.aC | apply Kd.aD | apply Kd.az)); exact O6.out⟩, ⟨bO⟩⟩
   rw [if_neg c5] at H
   have M8 := decide_eq_false c5
   clear c5
   obtain rfl := Option.some.inj H
   go_wp2
   go_ret
   exact ⟨_, fO, lG, bO⟩
mutual
def ak.l0 : Nat → List (List (List (S64))) → Int → Int → List (List (List (S64))) → Int → Option ((List (List (List (S64)))))
 | 0, _, _, _, _, _ => none
 | k + 1, x0, x1, x5, x6, x7 => if x7 < (wrap64 (Int.tdiv x5 2)) then (if 0 ≤ (wrap64 ((wrap64 (x5 - 1)) - x7)) then (if (wrap64 ((wrap64 (x5 - 1)) - x7)) < (x0.length : Int) then (if 0 ≤ x7 then (if x7 < (x0.length : Int) then (if x1 = 84 then (if 0 ≤ (wrap64 ((wrap64 ((wrap64 (Int.tdiv x5 2)) - 1)) - x7)) then (if (wrap64 ((wrap64 ((wrap64 (Int.tdiv x5 2)) - 1)) - x7)) < (x0.length : Int) then (if 0 ≤ (wrap64 ((wrap64 (Int.tdiv x5 2)) + x7)) then (if (wrap64 ((wrap64 (Int.tdiv x5 2)) + x7)) < (x0.length : Int) then (ak.l1 k x0 x1 x5 x6 x7 (bJ x0 (wrap64 ((wrap64 ((wrap64 (Int.tdiv x5 2)) - 1)) - x7))) (bJ x0 (wrap64 ((wrap64 (Int.tdiv x5 2)) + x7))) (([] : List (List (S64)))) 0) else (none)) else (none)) else (none)) else (none)) else (ak.nE k x0 x1 x5 x6 x7 (bJ x0 (wrap64 ((wrap64 (x5 - 1)) - x7))) (bJ x0 x7) (([] : List (List (S64)))) 0)) else (none)) else (none)) else (none)) else (none)) else (some x6)
def ak.l1 : Nat → List (List (List (S64))) → Int → Int → List (List (List (S64))) → Int → List (List (S64)) → List (List (S64)) → List (List (S64)) → Int → Option ((List (List (List (S64)))))
 | 0, _, _, _, _, _, _, _, _, _ => none
 | k + 1, x0, x1, x5, x6, x7, x8, x9, x10, x11 => if x11 < (x8.length : Int) then (if 0 ≤ x11 then ((bS.f (dY x8 x11) false).bind fun t205 => (if x11 < (x9.length : Int) then (if t205.length + (dY x9 x11).length < 5864062014805 then (if x10.length < 5864062014805 then (ak.l1 k x0 x1 x5 x6 x7 x8 x9 (x10 ++ [(t205 ++ (dY x9 x11))]) (wrap64 (x11 + 1))) else (none)) else (none)) else (none))) else (none)) else (if x6.length < 5864062014805 then (ak.l0 k x0 x1 x5 (x6 ++ [x10]) (wrap64 (x7 + 1))) else (none))
def ak.nE : Nat → List (List (List (S64))) → Int → Int → List (List (List (S64))) → Int → List (List (S64)) → List (List (S64)) → List (List (S64)) → Int → Option ((List (List (List (S64)))))
 | 0, _, _, _, _, _, _, _, _, _ => none
 | k + 1, x0, x1, x5, x6, x7, x8, x9, x10, x11 => if x11 < (x8.length : Int) then (if 0 ≤ x11 then ((bS.f (dY x8 x11) false).bind fun t222 => (if x11 < (x9.length : Int) then (if t222.length + (dY x9 x11).length < 5864062014805 then (if x10.length < 5864062014805 then (ak.nE k x0 x1 x5 x6 x7 x8 x9 (x10 ++ [(t222 ++ (dY x9 x11))]) (wrap64 (x11 + 1))) else (none)) else (none)) else (none))) else (none)) else (if x6.length < 5864062014805 then (ak.l0 k x0 x1 x5 (x6 ++ [x10]) (wrap64 (x7 + 1))) else (none))
end
def ak.f (k : Nat) (l0 : List (List (List (S64)))) (a1 : Int) : Option ((List (List (List (S64))))) := ak.l0 k l0 a1 (l0.length : Int) (([] : List (List (List (S64))))) 0
theorem ak.di : ∀ k, (∀ y0 y1 y2 y3 y4, LeO (ak.l0 k y0 y1 y2 y3 y4) (ak.l0 (k + 1) y0 y1 y2 y3 y4)) ∧ (∀ y0 y1 y2 y3 y4 y5 y6 y7 y8, LeO (ak.l1 k y0 y1 y2 y3 y4 y5 y6 y7 y8) (ak.l1 (k + 1) y0 y1 y2 y3 y4 y5 y6 y7 y8)) ∧ (∀ y0 y1 y2 y3 y4 y5 y6 y7 y8, LeO (ak.nE k y0 y1 y2 y3 y4 y5 y6 y7 y8) (ak.nE (k + 1) y0 y1 y2 y3 y4 y5 y6 y7 y8))
 | 0 => ⟨fun _ _ _ _ _ r h => by simp [ak.l0] at h, fun _ _ _ _ _ _ _ _ _ r h => by simp [ak.l1] at h, fun _ _ _ _ _ _ _ _ _ r h => by simp [ak.nE] at h⟩
 | k + 1 => by
  obtain ⟨ih0, ih1, ih2⟩ := ak.di k
  refine ⟨?_, ?_, ?_⟩ <;> intros <;> (first | unfold ak.l0 | unfold ak.l1 | unfold ak.nE) <;> (repeat' first | (with_reducible first | exact ih0 .. | exact ih1 .. | exact ih2 .. | exact LeO.refl .. | exact LeO.none .. | refine LeO.ite ?_ ?_ | refine LeO.bind ?_ (fun _ => ?_)))
theorem ak.mono : ∀ a0 a1 k, LeO (ak.f k a0 a1) (ak.f (k + 1) a0 a1) := by
 intro a0 a1 k
 obtain ⟨ih0, ih1, ih2⟩ := ak.di k
 unfold ak.f
 repeat' first | (with_reducible first | exact ih0 .. | exact ih1 .. | exact ih2 .. | exact LeO.refl .. | exact LeO.none .. | refine LeO.ite ?_ ?_ | refine LeO.bind ?_ (fun _ => ?_))
def ak.T6 : Bool × List (List Nat × List Nat) := (true, [([], []), ([], []), ([1], [1]), ([], []), ([2, 3], [2, 3]), ([0, 4], [0, 4]), ([5], [5]), ([], []), ([], []), ([7, 8], [7, 8]), ([9], [9]), ([6, 0, 1, 2, 3, 4, 5, 6], [6]), ([10, 11, 0, 1, 2, 3, 4, 5, 6, 7, 8, 9, 10, 11], [10])])
def ak.B6 : List Nat := [0, 0, 2, 0, 14, 31, 63, 0, 0, 384, 896, 127, 4095]
theorem ak.CX : ic .any (opsOf Tryz.f99 6) = ak.T6 := by kernel_rfl
theorem ak.Ak : fZ ak.T6.2 ak.B6 = true := by kernel_rfl
def ak.T8 : Bool × List (List Nat × List Nat) := (true, [([], []), ([], []), ([1], [1]), ([2], [2]), ([], []), ([3, 4], [3, 4]), ([0, 5], [0, 5]), ([6], [6]), ([], []), ([], []), ([9], [9]), ([], []), ([10, 11], [10, 11]), ([8, 12], [8, 12]), ([13], [13]), ([7, 0, 1, 2, 3, 4, 5, 6, 7], [7]), ([14, 15, 0, 1, 2, 3, 4, 5, 6, 7, 8, 9, 10, 11, 12, 13, 14, 15], [14])])
def ak.B8 : List Nat := [0, 0, 2, 6, 0, 30, 63, 127, 0, 0, 512, 0, 3584, 7936, 16128, 255, 65535]
theorem ak.Dv : ic .any (opsOf Tryz.f99 8) = ak.T8 := by kernel_rfl
theorem ak.Cw : fZ ak.T8.2 ak.B8 = true := by kernel_rfl
def ak.T13 : Bool × List (List Nat × List Nat) := (true, [([], []), ([], []), ([], []), ([1, 2], [1, 2]), ([3], [3]), ([4], [4]), ([], []), ([], []), ([6, 7], [6, 7]), ([8], [8]), ([5, 9, 5], [5, 9]), ([10], [10]), ([0, 11, 10], [0, 11]), ([12, 12, 0, 1, 2, 3, 4, 5, 6, 7, 8, 9, 10, 11, 12], [0, 12])])
def ak.B13 : List Nat := [0, 0, 0, 6, 14, 30, 0, 0, 192, 448, 1022, 2046, 4095, 8191]
theorem ak.Av : ic .any (opsOf Tryz.f99 13) = ak.T13 := by kernel_rfl
theorem ak.yA : fZ ak.T13.2 ak.B13 = true := by kernel_rfl
theorem ak.calls (k : Nat) (A0 : Option Addr) (c0 : Nat) (l0 : List (List (List (S64)))) (a1 : Int) (r : List (List (List (S64)))) (w : World) (hr0 : Kd.C (Kd.slice 61 (Kd.slice 64 k64)) w A0 l0.length l0) (hc0 : l0.length ≤ c0) (h : ak.f k l0 a1 = some r) :
  Calls Tryz.prog 99 #[.slice A0 l0.length c0, .int .u8 a1] w fun e w' => ∃ v0_ : Value, e = .returned (v0_) ∧ Kd.R (Kd.slice 61 (Kd.slice 64 k64)) 96 w' w.heap.size (fun _ => True) v0_ r ∧ Below w.heap.size w w' := by
 have HR0 := a_ hr0
 have U2 := a_ hc0
 clear hr0 hc0
 have HB := a_ (Below.refl w.heap.size w)
 have H : (ak.l0 k l0 a1 (l0.length : Int) (([] : List (List (List (S64))))) 0) = some r := h
 clear h
 obtain ⟨M7, G8⟩ : ∃ y_ : List (List (List (S64))), y_ = (([] : List (List (List (S64))))) := ⟨_, rfl⟩
 replace H : (ak.l0 k l0 a1 (l0.length : Int) M7 0) = some r := rh_ G8 H
 have J4 := a_ G8
 clear G8
 have H' := a_ H
 clear H
 go_enter Tryz.func99, Tryz.ntmps99
 go_wp2_with (first | ((with_reducible refine bf (N := 14) rfl ?_); refine Kd.fU (Kd.slice 61 (Kd.slice 64 k64)) _ 96 ?hg (N := 14) ?hd (xs := ([] : List (List (List (S64))))) (inner := []) (ok := fun _ => True) (okp := fun _ => True) ?hr ?hp (fun _ hk => hk) trivial (Below.refl _ _) (Nat.le_refl _) (by simp) ?_; (case hd => rfl); (case hg => rfl); (case hr => first | (go_simp; done) | (go_simp; rfl)); (case hp => exact (dm.none _ _)); intro S4 w3 ho4 hb hg_ hnew_; clear hg_ hnew_; (first | rw [← J4.out] at ho4 | (simp only [Int.reduceToNat] at ho4; rw [← J4.out] at ho4)); have M8 := a_ (Kd.bu ho4 (af bO)); replace HB := df bO hb; clear hb ho4))
 go_loopg [6, 7] k (fun kq v6 v7 w' => ∃ (B0 : List (List (List (S64)))) (A2 : Int), v7 = .int .i64 A2 ∧ ah (ak.l0 kq l0 a1 (l0.length : Int) B0 A2 = some r) ∧ ah (kq ≤ k) ∧ ah (Kd.R (Kd.slice 61 (Kd.slice 64 k64)) 96 w' w.heap.size (fun _ => True) v6 B0) ∧ ah (Below w.heap.size w w'))
 case atStart => exact ⟨(M7), (0), bZ, H', ⟨Nat.le_refl _⟩, ⟨by (with_reducible repeat (first | apply Kd.aC | apply Kd.aD | apply Kd.az)); exact M8.out⟩, ⟨bO⟩⟩
 case round =>
  clear H'
  obtain ⟨B0, A2, rfl, HA, HK1, HO_6, HB⟩ := hrel
  cases gk with
  | zero => exact absurd HA.out (by simp [ak.l0])
  | succ k1 =>
   have H := HA.out
   clear HA
   simp only [ak.l0] at H
   (try simp only [show ∀ (n_ : Nat) (k_ : Int), Int.tdiv (n_ : Int) k_ = (n_ : Int) / k_ from fun n_ k_ => Int.tdiv_eq_ediv_of_nonneg (Int.natCast_nonneg n_), show ∀ (n_ : Nat) (k_ : Int), Int.tmod (n_ : Int) k_ = (n_ : Int) % k_ from fun n_ k_ => Int.tmod_eq_emod_of_nonneg (Int.natCast_nonneg n_)] at H)
   by_cases c5 : A2 < (wrap64 (((l0.length : Int) / 2)))
   ·rw [if_pos c5] at H
    have K0 := decide_eq_true c5
    clear c5
    obtain ⟨D4, I5⟩ : ∃ j_ : Int, (wrap64 ((wrap64 ((l0.length : Int) - 1)) - A2)) = j_ := ⟨_, rfl⟩
    replace H : (if 0 ≤ (D4) then (if (D4) < (l0.length : Int) then (if 0 ≤ A2 then (if A2 < (l0.length : Int) then (if a1 = 84 then (if 0 ≤ (wrap64 ((wrap64 ((wrap64 (((l0.length : Int) / 2))) - 1)) - A2)) then (if (wrap64 ((wrap64 ((wrap64 (((l0.length : Int) / 2))) - 1)) - A2)) < (l0.length : Int) then (if 0 ≤ (wrap64 ((wrap64 (((l0.length : Int) / 2))) + A2)) then (if (wrap64 ((wrap64 (((l0.length : Int) / 2))) + A2)) < (l0.length : Int) then (ak.l1 k1 l0 a1 (l0.length : Int) B0 A2 (bJ l0 (wrap64 ((wrap64 ((wrap64 (((l0.length : Int) / 2))) - 1)) - A2))) (bJ l0 (wrap64 ((wrap64 (((l0.length : Int) / 2))) + A2))) (([] : List (List (S64)))) 0) else (none)) else (none)) else (none)) else (none)) else (ak.nE k1 l0 a1 (l0.length : Int) B0 A2 (bJ l0 (D4)) (bJ l0 A2) (([] : List (List (S64)))) 0)) else (none)) else (none)) else (none)) else (none)) = some r := by first | (rw [I5] at H; exact H) | (simp only [I5] at H ⊢; exact H)
    have hji6w : (IntKind.i64.wrap ((wrap64 ((l0.length : Int) - 1)) - A2)) = D4 := (eU _).trans I5
    replace H := ig_ H; obtain ⟨c7, H⟩ := H
    have M9 := decide_eq_true c7
    clear c7
    replace H := ig_ H; obtain ⟨c8, H⟩ := H
    have N0 := decide_eq_true c8
    clear c8
    replace H := ig_ H; obtain ⟨c9, H⟩ := H
    have N1 := decide_eq_true c9
    clear c9
    replace H := ig_ H; obtain ⟨c10, H⟩ := H
    have J5 := decide_eq_true c10
    clear c10
    by_cases c11 : a1 = 84
    ·rw [if_pos c11] at H
     have G9 : (a1 == 84) = true := beq_iff_eq.mpr c11
     have H0 : (a1 != 84) = false := bne_eq_false_iff_eq.mpr c11
     clear c11
     obtain ⟨B3, E3⟩ : ∃ j_ : Int, (wrap64 ((wrap64 ((wrap64 (((l0.length : Int) / 2))) - 1)) - A2)) = j_ := ⟨_, rfl⟩
     replace H : (if 0 ≤ (B3) then (if (B3) < (l0.length : Int) then (if 0 ≤ (wrap64 ((wrap64 (((l0.length : Int) / 2))) + A2)) then (if (wrap64 ((wrap64 (((l0.length : Int) / 2))) + A2)) < (l0.length : Int) then (ak.l1 k1 l0 a1 (l0.length : Int) B0 A2 (bJ l0 (B3)) (bJ l0 (wrap64 ((wrap64 (((l0.length : Int) / 2))) + A2))) (([] : List (List (S64)))) 0) else (none)) else (none)) else (none)) else (none)) = some r := by first | (rw [E3] at H; exact H) | (simp only [E3] at H ⊢; exact H)
     have hji12w : (IntKind.i64.wrap ((wrap64 ((wrap64 (((l0.length : Int) / 2))) - 1)) - A2)) = B3 := (eU _).trans E3
     replace H := ig_ H; obtain ⟨c13, H⟩ := H
     have N2 := decide_eq_true c13
     clear c13
     replace H := ig_ H; obtain ⟨c14, H⟩ := H
     have N3 := decide_eq_true c14
     clear c14
     obtain ⟨B4, H1⟩ : ∃ j_ : Int, (wrap64 ((wrap64 (((l0.length : Int) / 2))) + A2)) = j_ := ⟨_, rfl⟩
     replace H : (if 0 ≤ (B4) then (if (B4) < (l0.length : Int) then (ak.l1 k1 l0 a1 (l0.length : Int) B0 A2 (bJ l0 (B3)) (bJ l0 (B4)) (([] : List (List (S64)))) 0) else (none)) else (none)) = some r := by first | (rw [H1] at H; exact H) | (simp only [H1] at H ⊢; exact H)
     have hji15w : (IntKind.i64.wrap ((wrap64 (((l0.length : Int) / 2))) + A2)) = B4 := (eU _).trans H1
     replace H := ig_ H; obtain ⟨c16, H⟩ := H
     have N4 := decide_eq_true c16
     clear c16
     replace H := ig_ H; obtain ⟨c17, H⟩ := H
     have N5 := decide_eq_true c17
     clear c17
     obtain ⟨N6, H2⟩ : ∃ y_ : List (List (S64)), y_ = (([] : List (List (S64)))) := ⟨_, rfl⟩
     replace H : (ak.l1 k1 l0 a1 (l0.length : Int) B0 A2 (bJ l0 (B3)) (bJ l0 (B4)) N6 0) = some r := rh_ H2 H
     have J6 := a_ H2
     clear H2
     have H' := a_ H
     clear H
     try go_wp2
     replace HO_6 := a_ (Kd.az HO_6.out)
     replace HB := a_ (aU HB.out)
     have D5 : 0 ≤ ((D4) : Int) := of_decide_eq_true aG
     have D6 : (D4) < (l0.length : Int) := of_decide_eq_true aG
     obtain ⟨B7, D9, E0, K1, A3, C2, C3⟩ := kD HR0.out (D4) D5 D6
     have C4 := A3
     cases K1
     replace A3 := (HB.out.cell (World.block_lt_of_cell? _ _ A3)).trans A3
     have D2 := a_ C3
     have I6 := a_ C2
     clear C3 C2
     replace D5 := eq_true D5
     replace D6 := eq_true D6
     have D7 : 0 ≤ (A2 : Int) := of_decide_eq_true aG
     have D8 : A2 < (l0.length : Int) := of_decide_eq_true aG
     obtain ⟨H3, E1, E2, K2, A4, C5, C6⟩ := kD HR0.out A2 D7 D8
     have C7 := A4
     obtain rfl : B7 = H3 := (by injection K2)
     replace A4 := (HB.out.cell (World.block_lt_of_cell? _ _ A4)).trans A4
     have D3 := a_ C6
     have I7 := a_ C5
     clear C6 C5
     replace D7 := eq_true D7
     replace D8 := eq_true D8
     refine gQ (n := 13) (S := fun w' => w'.cell? (B7.add ((D4)).toNat) = some (.slice D9 (bJ l0 (D4)).length E0) ∧ w'.cell? (B7.add (A2).toNat) = some (.slice E1 (bJ l0 A2).length E2)) (ds := []) #[false, false, false, false, false, false, false, false, false, false, false, false, false] (by kernel_rfl) rfl rfl ⟨((HB.out.cell (World.block_lt_of_cell? _ _ C4)).trans C4), ((HB.out.cell (World.block_lt_of_cell? _ _ C7)).trans C7)⟩ (fun hHeld => ?_); refine fI ak.CX ak.Ak (fun HT_ HW_ => ?_)
     generalize wr.drew = S5 at HO_6 HB D2 D3 A3 A4 hHeld ⊢
     refine pv_ 0 (some 21) ?_
     refine pv_ 1 (some 22) ?_
     refine pv_ 2 (some 23) ?_
     refine pv_ 3 (some 24) ?_
     refine pv_ 4 (some 25) ?_
     refine pv_ 5 (some 26) ?_
     refine pv_ 7 (some 28) ?_
     refine pv_ 8 (some 29) ?_
     refine pv_ 9 (some 30) ?_
     refine nG (i := 6) (N := some 27) hHeld ?_
     refine pv_ 11 (some 8) ?_
     refine nG (i := 10) (N := some 31) hHeld ?_
     refine pv_ 12 (some 9) ?_
     refine ja (gU HT_.out (by kernel_rfl)) ?_
     try go_wp2
     replace HO_6 := a_ (Kd.az HO_6.out)
     replace HB := a_ (aU HB.out)
     have I8 : 0 ≤ ((B3) : Int) := of_decide_eq_true aG
     have I9 : (B3) < (l0.length : Int) := of_decide_eq_true aG
     obtain ⟨N7, K3, K4, Q6, C0, E4, E5⟩ := kD HR0.out (B3) I8 I9
     have E6 := C0
     obtain rfl : B7 = N7 := (by injection Q6)
     replace C0 := (HB.out.cell (World.block_lt_of_cell? _ _ C0)).trans C0
     have E7 := a_ E5
     have Q2 := a_ E4
     clear E5 E4
     replace I8 := eq_true I8
     replace I9 := eq_true I9
     have J0 : 0 ≤ ((B4) : Int) := of_decide_eq_true aG
     have J1 : (B4) < (l0.length : Int) := of_decide_eq_true aG
     obtain ⟨N8, K5, K6, Q7, C1, E8, E9⟩ := kD HR0.out (B4) J0 J1
     have F0 := C1
     obtain rfl : B7 = N8 := (by injection Q7)
     replace C1 := (HB.out.cell (World.block_lt_of_cell? _ _ C1)).trans C1
     have F1 := a_ E9
     have Q3 := a_ E8
     clear E9 E8
     replace J0 := eq_true J0
     replace J1 := eq_true J1
     refine gQ (n := 17) (S := fun w' => w'.cell? (B7.add ((B3)).toNat) = some (.slice K3 (bJ l0 (B3)).length K4) ∧ w'.cell? (B7.add ((B4)).toNat) = some (.slice K5 (bJ l0 (B4)).length K6)) (ds := []) #[false, false, false, false, false, false, false, false, false, false, false, false, false, false, false, false, false] (by kernel_rfl) rfl rfl ⟨((HB.out.cell (World.block_lt_of_cell? _ _ E6)).trans E6), ((HB.out.cell (World.block_lt_of_cell? _ _ F0)).trans F0)⟩ (fun hHeld => ?_); refine fI ak.Dv ak.Cw (fun HT_ HW_ => ?_)
     generalize S5.drew = U3 at HO_6 HB E7 F1 C0 C1 hHeld ⊢
     refine pv_ 0 (some 34) ?_
     refine pv_ 1 (some 35) ?_
     refine pv_ 2 (some 36) ?_
     refine pv_ 3 (some 37) ?_
     refine pv_ 4 (some 38) ?_
     refine pv_ 5 (some 39) ?_
     refine pv_ 6 (some 40) ?_
     refine pv_ 8 (some 42) ?_
     refine pv_ 9 (some 43) ?_
     refine pv_ 10 (some 44) ?_
     refine pv_ 11 (some 45) ?_
     refine pv_ 12 (some 46) ?_
     refine pv_ 13 (some 47) ?_
     refine nG (i := 7) (N := some 41) hHeld ?_
     refine pv_ 15 (some 8) ?_
     refine nG (i := 14) (N := some 48) hHeld ?_
     refine pv_ 16 (some 9) ?_
     refine ja (gU HT_.out (by kernel_rfl)) ?_
     try go_wp2_with (first | ((with_reducible refine bf (N := 49) rfl ?_); refine Kd.sI (Kd.slice 64 k64) _ 61 ?hg (N := 49) ?hd (xs := ([] : List (List (S64)))) (inner := []) (ok := fun _ => True) (okp := fun _ => True) ?hr ?hp (fun _ hk => hk) trivial (Below.refl _ _) (Nat.le_refl _) (by simp) ?_; (case hd => rfl); (case hg => rfl); (case hr => first | (go_simp; done) | (go_simp; rfl)); (case hp => exact (dm.none _ _)); intro S6 U4 ho21 hb hg_ hnew_; clear hg_ hnew_; (first | rw [← J6.out] at ho21 | (simp only [Int.reduceToNat] at ho21; rw [← J6.out] at ho21)); replace HO_6 := a_ (Kd.bB (ra_ HO_6.out) (Kd.oV ho21) hb); have N9 := a_ (Kd.mP ho21 (af bO)); replace HB := df bO hb; clear hb ho21))
     go_loopg [10, 11] k1 (fun kq v10 v11 w' => ∃ (A5 : List (List (S64))) (A1 : Int), v11 = .int .i64 A1 ∧ ah (ak.l1 kq l0 a1 (l0.length : Int) B0 A2 (bJ l0 (B3)) (bJ l0 (B4)) A5 A1 = some r) ∧ ah (kq ≤ k1) ∧ ah (Kd.R (Kd.slice 61 (Kd.slice 64 k64)) 96 w' w.heap.size (fun k_ => some k_ ≠ (v10 : Value).ownBlock) u6 B0) ∧ ah (Kd.S (Kd.slice 64 k64) 61 w' w.heap.size (fun _ => True) v10 A5) ∧ ah (Below w.heap.size w w'))
     case atStart => exact ⟨(N6), (0), bZ, H', ⟨Nat.le_refl _⟩, ⟨Ad⟩, ⟨by (with_reducible repeat (first | apply Kd.gI | apply Kd.gM | apply Kd.gL)); exact N9.out⟩, ⟨bO⟩⟩
     case round =>
      clear H'
      try clear K0; try clear M9; try clear N0; try clear N1; try clear J5; try clear G9; try clear H0; try clear N2; try clear N3; try clear N4; try clear N5; try clear A3; try clear A4; try clear C0; try clear C1; try clear D5; try clear D7; try clear I8; try clear J0; try clear D6; try clear D8; try clear I9; try clear J1
      obtain ⟨A5, A1, rfl, HA, HK2, HO_6, HO_10, HB⟩ := hrel
      cases gk with
      | zero => exact absurd HA.out (by simp [ak.l1])
      | succ k2 =>
       have H := HA.out
       clear HA
       simp only [ak.l1] at H
       by_cases c22 : A1 < ((bJ l0 (B3)).length : Int)
       ·rw [if_pos c22] at H
        have O0 := decide_eq_true c22
        clear c22
        replace H := ig_ H; obtain ⟨c23, H⟩ := H
        have S0 := decide_eq_true c23
        clear c23
        replace H := bo_ H; obtain ⟨K7, S7, H⟩ := H; (try dsimp only at H)
        replace H := ig_ H; obtain ⟨c25, H⟩ := H
        have S1 := decide_eq_true c25
        clear c25
        replace H := ig_ H; obtain ⟨c26, H⟩ := H
        have LMc26 := a_ c26
        clear c26
        obtain ⟨G6, H4⟩ : ∃ y_ : List (S64), y_ = (K7 ++ (dY (bJ l0 (B4)) A1)) := ⟨_, rfl⟩
        replace H : (if A5.length < 5864062014805 then (ak.l1 k2 l0 a1 (l0.length : Int) B0 A2 (bJ l0 (B3)) (bJ l0 (B4)) (A5 ++ [G6]) (wrap64 (A1 + 1))) else (none)) = some r := rh_ H4 H
        have O1 := a_ H4
        clear H4
        replace H := ig_ H; obtain ⟨c27, H⟩ := H
        have LMc27 := a_ c27
        clear c27
        obtain ⟨O2, H5⟩ : ∃ y_ : List (List (S64)), y_ = (A5 ++ [G6]) := ⟨_, rfl⟩
        replace H : (ak.l1 k2 l0 a1 (l0.length : Int) B0 A2 (bJ l0 (B3)) (bJ l0 (B4)) O2 (wrap64 (A1 + 1))) = some r := rh_ H5 H
        have O3 := a_ H5
        clear H5
        have H' := a_ H
        clear H
        try go_wp2
        replace HO_6 := a_ (Kd.az HO_6.out)
        replace HO_10 := a_ (Kd.gL HO_10.out)
        replace HB := a_ (aU HB.out)
        have K8 : 0 ≤ (A1 : Int) := of_decide_eq_true aG
        have K9 : A1 < ((bJ l0 (B3)).length : Int) := of_decide_eq_true aG
        obtain ⟨O4, H6, H7, Q8, C8, F2, F3⟩ := kT E7.out A1 K8 K9
        have A6 := C8
        cases Q8
        replace C8 := (HB.out.cell (World.block_lt_of_cell? _ _ C8)).trans C8
        have F4 := a_ F3
        have J2 := a_ F2
        clear F3 F2
        replace K8 := eq_true K8
        replace K9 := eq_true K9
        have L0 : 0 ≤ (A1 : Int) := of_decide_eq_true aG
        have L1 : A1 < ((bJ l0 (B4)).length : Int) := of_decide_eq_true aG
        obtain ⟨O5, L2, L3, Q9, C9, F5, F6⟩ := kT F1.out A1 L0 L1
        have A7 := C9
        cases Q9
        replace C9 := (HB.out.cell (World.block_lt_of_cell? _ _ C9)).trans C9
        have F7 := a_ F6
        have Q4 := a_ F5
        clear F6 F5
        replace L0 := eq_true L0
        replace L1 := eq_true L1
        refine gQ (n := 14) (S := fun w' => w'.cell? (O4.add (A1).toNat) = some (.slice H6 (dY (bJ l0 (B3)) A1).length H7) ∧ w'.cell? (O5.add (A1).toNat) = some (.slice L2 (dY (bJ l0 (B4)) A1).length L3)) (ds := []) #[false, false, false, false, false, false, false, false, false, false, false, false, false, false] (by kernel_rfl) rfl rfl ⟨((HB.out.cell (World.block_lt_of_cell? _ _ A6)).trans A6), ((HB.out.cell (World.block_lt_of_cell? _ _ A7)).trans A7)⟩ (fun hHeld => ?_); refine fI ak.Av ak.yA (fun HT_ HW_ => ?_)
        generalize wr.drew = U5 at HO_6 HO_10 HB F4 F7 C8 C9 hHeld ⊢
        refine pv_ 0 (some 56) ?_
        refine pv_ 1 (some 57) ?_
        refine pv_ 2 (some 58) ?_
        refine pv_ 3 (some 59) ?_
        refine pv_ 6 (some 62) ?_
        refine pv_ 7 (some 63) ?_
        refine pv_ 8 (some 64) ?_
        refine nG (i := 4) (N := some 60) hHeld ?_
        refine nG (i := 9) (N := some 65) hHeld ?_
        refine on_ (i := 5) (N := some 61) (fun K hK => ?_)
        refine jq Tryz.func115 (by kernel_rfl) rfl #[.slice H6 (dY (bJ l0 (B3)) A1).length H7, .bool false] (by rfl) rfl rfl (by (try simp only [List.map_toArray, List.map_cons, List.map_nil]); first | done | (simp only [E3]; rfl) | rfl | (simp only [List.length_drop, List.length_take]; rfl)) ?_
        with_reducible refine (bS.calls _ _ (dY (bJ l0 (B3)) A1) false K7 _ ?side1 ?side2 S7.out).mono ?_
        (case side1 => exact kc_ (Kd.bE F4.out HB.out))
        (case side2 => exact J2.out)
        rintro e U6 ⟨R0, rfl, ho0, hb⟩
        refine ⟨_, rfl, ?_⟩
        replace HO_6 := a_ (Kd.bB (ra_ HO_6.out) (Kd.bN ho0) hb)
        replace HO_10 := a_ (Kd.kC xk (Kd.bN ho0) hb)
        have J7 := a_ (Kd.bu ho0 (af bO))
        replace HB := df bO hb
        (try clear hb)
        (try clear hb2)
        (try clear hk)
        (try clear hi)
        (try clear ho0)
        refine hK.out _ _ ⟨((HB.out.cell (World.block_lt_of_cell? _ _ A6)).trans A6), ((HB.out.cell (World.block_lt_of_cell? _ _ A7)).trans A7)⟩ (fun hHeld => ?_)
        clear hK K
        refine nm_ ?_
        refine on_ (i := 10) (N := some 66) (fun K hK => ?_)
        refine Kd.iD k64 (w0 := w) w.heap.size (by rfl) (.tmp 61) (.tmp 65) 61 64 (.agg #[(.int .i64 0), (.int .i64 0), (.bool false), (.bool false)]) 24 rfl Tryz.underlying61 lN rfl (by decide) (by omega) R0 K7 (dY (bJ l0 (B4)) A1) _ _ _ (fun _ => True) (fun _ => False) rfl rfl ?aO ?aR (fun _ _ h => h) (fun _ h => h.elim) ?aF ?aB ?aS ?aL ?_
        (case aR => exact kc_ (Kd.bE F7.out HB.out))
        (case aB => exact bO)
        (case aF => exact (fun _ _ => trivial))
        (case aO => exact (ra_ J7.out))
        (case aS => exact (af bO))
        (case aL => have := LMc26.out; omega)
        intro S8 U7 ho hb hg hat
        rw [← O1.out] at ho
        replace HO_6 := a_ (Kd.dn (ok := (fun k_ => some k_ ≠ (u10 : Value).ownBlock)) (ra_ HO_6.out) hg hat)
        replace HO_10 := a_ (Kd.qz (ok := (fun _ => True)) xk hg hat)
        replace HB := a_ (hb)
        have F8 := a_ (ho)
        clear J7
        clear ho hb hg hat
        obtain ⟨L4, L5, L6⟩ := Kd.bg F8.out
        (first | subst L6 | (injection L6.symm with f1_ f2_ f3_; clear f2_ L6; subst f1_ f3_))
        refine hK.out _ _ ⟨((HB.out.cell (World.block_lt_of_cell? _ _ A6)).trans A6), ((HB.out.cell (World.block_lt_of_cell? _ _ A7)).trans A7)⟩ (fun hHeld => ?_)
        clear hK K
        refine nm_ ?_
        refine on_ (i := 11) (N := some 67) (fun K hK => ?_)
        refine rF (w1 := ?_) (v := ?_) (by rfl) rfl ?_ ?_
        rotate_left 2
        ·go_simp
         constructor
         ·rfl
         ·rfl
        refine hK.out _ _ ⟨(World.cell?_alloc_lt _ _ _ (World.block_lt_of_cell? _ _ (((HB.out.cell (World.block_lt_of_cell? _ _ A6)).trans A6)))).trans (((HB.out.cell (World.block_lt_of_cell? _ _ A6)).trans A6)), (World.cell?_alloc_lt _ _ _ (World.block_lt_of_cell? _ _ (((HB.out.cell (World.block_lt_of_cell? _ _ A7)).trans A7)))).trans (((HB.out.cell (World.block_lt_of_cell? _ _ A7)).trans A7))⟩ (fun hHeld => ?_)
        clear hK K
        refine nm_ ?_
        refine on_ (i := 12) (N := some 68) (fun K hK => ?_)
        refine Kd.lc (Kd.slice 64 k64) (w0 := w) w.heap.size (by rfl) (.tmp 56) (.tmp 67) 96 61 (.slice none 0 0) 24 rfl Tryz.underlying96 nW rfl (by decide) (by omega) u10 A5 G6 [.slice L4 G6.length L5] (fun _ => True) (fun k_ => some k_ = (.slice L4 G6.length L5 : Value).ownBlock) rfl rfl ?aP (fun k_ hk_ => ((Kd.ae (ok' := fun k_ => ((fun _ => True)) k_ ∧ some k_ ≠ (u10 : Value).ownBlock) (Kd.gm (F8.out) (Kd.ji HO_10.out) (by decide)) (fun k_ hk => ⟨trivial, hk.2⟩))).1 k_ hk_.symm) ?aF ?aO ?aB ?aS ?aL ?_
        (case aP => exact Kd.lm (Kd.ae (Kd.kS rfl (Kd.ae (ok' := fun k_ => ((fun _ => True)) k_ ∧ some k_ ≠ (u10 : Value).ownBlock) (Kd.gm (F8.out) (Kd.ji HO_10.out) (by decide)) (fun k_ hk => ⟨trivial, hk.2⟩))) (fun _ h_ => h_)))
        (case aB => exact bO)
        (case aF => exact (fun _ _ => trivial))
        (case aO => exact (by (with_reducible repeat (first | apply Kd.gI | apply Kd.gM | apply Kd.gL)); exact Kd.mi HO_10.out (fun k_ hk => ⟨trivial, fun e_ => hk.2 e_⟩)))
        (case aS => exact (af bO))
        (case aL => have := LMc27.out; omega)
        intro S9 U8 ho hb hg hat
        rw [← O3.out] at ho
        replace HO_6 := a_ (Kd.dn (ok := (fun k_ => nb_ k_ L4 G6.length L5)) (rc_ (h := by exact Kd.ae HO_6.out (fun _ hk => ⟨hk.2, hk.1⟩))) hg hat)
        replace HB := a_ (hb)
        have O6 := a_ (ho)
        clear F8; clear HO_10
        clear ho hb hg hat
        refine hK.out _ _ ⟨((HB.out.cell (World.block_lt_of_cell? _ _ A6)).trans A6), ((HB.out.cell (World.block_lt_of_cell? _ _ A7)).trans A7)⟩ (fun hHeld => ?_)
        clear hK K
        refine nm_ ?_
        refine pv_ 13 (some 10) ?_
        refine ja (gU HT_.out (by kernel_rfl)) ?_
        try go_wp2
        go_roundg k2
        case measure => have := HK1.out; have := HK2.out; omega
        case rel => exact ⟨(O2), (wrap64 (A1 + 1)), bZ, H', ⟨ko⟩, ⟨Ad⟩, ⟨by (with_reducible repeat (first | apply Kd.gI | apply Kd.gM | apply Kd.gL)); exact O6.out⟩, ⟨bO⟩⟩
       rw [if_neg c22] at H
       have O0 := decide_eq_false c22
       clear c22
       replace H := ig_ H; obtain ⟨c33, H⟩ := H
       have LMc33 := a_ c33
       clear c33
       obtain ⟨O7, H8⟩ : ∃ y_ : List (List (List (S64))), y_ = (B0 ++ [A5]) := ⟨_, rfl⟩
       replace H : (ak.l0 k2 l0 a1 (l0.length : Int) O7 (wrap64 (A2 + 1))) = some r := rh_ H8 H
       have O8 := a_ H8
       clear H8
       have H' := a_ H
       clear H
       obtain ⟨R1, R2, R3⟩ := Kd.lK HO_10.out
       subst R3
       go_wp2_with (first | ((with_reducible refine bF (b := .append) (xs := #[.tmp 69, .tmp 71]) rfl ?_); at_builtin; refine Kd.fH (Kd.slice 61 (Kd.slice 64 k64)) (w0 := w) w.heap.size rfl (.tmp 69) (.tmp 71) 95 96 (.slice none 0 0) 24 rfl Tryz.underlying95 pz rfl (by decide) (by omega) u6 B0 A5 [.slice R1 A5.length R2] (fun _ => True) (fun k_ => ((fun _ => True)) k_ ∧ some k_ ≠ (u6 : Value).ownBlock) rfl rfl ?aP (fun _ hk => hk) ?aF ?aO ?aB ?aS ?aL ?_; (case aP => exact Kd.lm (Kd.ae (Kd.gm ((Kd.S_R HO_10.out)) (Kd.fV HO_6.out) (by decide)) (fun k_ hk => ⟨trivial, hk.2⟩))); (case aB => exact bO); (case aF => exact (fun _ _ => trivial)); (case aO => exact (rc_ (h := by exact Kd.ae HO_6.out (fun _ hk => trivial)))); (case aS => exact (af bO)); (case aL => have := LMc33.out; omega); intro T0 U9 ho hb hg hat; rw [← O8.out] at ho; replace HB := a_ (hb); have O9 := a_ (ho); clear HO_10; clear HO_6; clear ho hb hg hat))
       go_roundg k2
       case measure => have := HK1.out; have := HK2.out; omega
       case rel => exact ⟨(O7), (wrap64 (A2 + 1)), bZ, H', ⟨ko⟩, ⟨by (with_reducible repeat (first | apply Kd.aC | apply Kd.aD | apply Kd.az)); exact O9.out⟩, ⟨bO⟩⟩
    rw [if_neg c11] at H
    have G9 : (a1 == 84) = false := beq_eq_false_iff_ne.mpr c11
    have H0 : (a1 != 84) = true := bne_iff_ne.mpr c11
    obtain ⟨P0, H9⟩ : ∃ y_ : List (List (S64)), y_ = (([] : List (List (S64)))) := ⟨_, rfl⟩
    replace H : (ak.nE k1 l0 a1 (l0.length : Int) B0 A2 (bJ l0 (D4)) (bJ l0 A2) P0 0) = some r := rh_ H9 H
    have J8 := a_ H9
    clear H9
    have H' := a_ H
    clear H
    try go_wp2
    replace HO_6 := a_ (Kd.az HO_6.out)
    replace HB := a_ (aU HB.out)
    have D5 : 0 ≤ ((D4) : Int) := of_decide_eq_true aG
    have D6 : (D4) < (l0.length : Int) := of_decide_eq_true aG
    obtain ⟨B7, D9, E0, K1, A3, C2, C3⟩ := kD HR0.out (D4) D5 D6
    have C4 := A3
    cases K1
    replace A3 := (HB.out.cell (World.block_lt_of_cell? _ _ A3)).trans A3
    have D2 := a_ C3
    have I6 := a_ C2
    clear C3 C2
    replace D5 := eq_true D5
    replace D6 := eq_true D6
    have D7 : 0 ≤ (A2 : Int) := of_decide_eq_true aG
    have D8 : A2 < (l0.length : Int) := of_decide_eq_true aG
    obtain ⟨H3, E1, E2, K2, A4, C5, C6⟩ := kD HR0.out A2 D7 D8
    have C7 := A4
    obtain rfl : B7 = H3 := (by injection K2)
    replace A4 := (HB.out.cell (World.block_lt_of_cell? _ _ A4)).trans A4
    have D3 := a_ C6
    have I7 := a_ C5
    clear C6 C5
    replace D7 := eq_true D7
    replace D8 := eq_true D8
    refine gQ (n := 13) (S := fun w' => w'.cell? (B7.add ((D4)).toNat) = some (.slice D9 (bJ l0 (D4)).length E0) ∧ w'.cell? (B7.add (A2).toNat) = some (.slice E1 (bJ l0 A2).length E2)) (ds := []) #[false, false, false, false, false, false, false, false, false, false, false, false, false] (by kernel_rfl) rfl rfl ⟨((HB.out.cell (World.block_lt_of_cell? _ _ C4)).trans C4), ((HB.out.cell (World.block_lt_of_cell? _ _ C7)).trans C7)⟩ (fun hHeld => ?_); refine fI ak.CX ak.Ak (fun HT_ HW_ => ?_)
    generalize wr.drew = V0 at HO_6 HB D2 D3 A3 A4 hHeld ⊢
    refine pv_ 0 (some 21) ?_
    refine pv_ 1 (some 22) ?_
    refine pv_ 2 (some 23) ?_
    refine pv_ 3 (some 24) ?_
    refine pv_ 4 (some 25) ?_
    refine pv_ 5 (some 26) ?_
    refine pv_ 7 (some 28) ?_
    refine pv_ 8 (some 29) ?_
    refine pv_ 9 (some 30) ?_
    refine nG (i := 6) (N := some 27) hHeld ?_
    refine pv_ 11 (some 8) ?_
    refine nG (i := 10) (N := some 31) hHeld ?_
    refine pv_ 12 (some 9) ?_
    refine ja (gU HT_.out (by kernel_rfl)) ?_
    try go_wp2_with (first | ((with_reducible refine bf (N := 49) rfl ?_); refine Kd.sI (Kd.slice 64 k64) _ 61 ?hg (N := 49) ?hd (xs := ([] : List (List (S64)))) (inner := []) (ok := fun _ => True) (okp := fun _ => True) ?hr ?hp (fun _ hk => hk) trivial (Below.refl _ _) (Nat.le_refl _) (by simp) ?_; (case hd => rfl); (case hg => rfl); (case hr => first | (go_simp; done) | (go_simp; rfl)); (case hp => exact (dm.none _ _)); intro T3 V1 ho38 hb hg_ hnew_; clear hg_ hnew_; (first | rw [← J8.out] at ho38 | (simp only [Int.reduceToNat] at ho38; rw [← J8.out] at ho38)); replace HO_6 := a_ (Kd.bB (ra_ HO_6.out) (Kd.oV ho38) hb); have P1 := a_ (Kd.mP ho38 (af bO)); replace HB := df bO hb; clear hb ho38))
    go_loopg [10, 11] k1 (fun kq v10 v11 w' => ∃ (A5 : List (List (S64))) (A1 : Int), v11 = .int .i64 A1 ∧ ah (ak.nE kq l0 a1 (l0.length : Int) B0 A2 (bJ l0 (D4)) (bJ l0 A2) A5 A1 = some r) ∧ ah (kq ≤ k1) ∧ ah (Kd.R (Kd.slice 61 (Kd.slice 64 k64)) 96 w' w.heap.size (fun k_ => some k_ ≠ (v10 : Value).ownBlock) u6 B0) ∧ ah (Kd.S (Kd.slice 64 k64) 61 w' w.heap.size (fun _ => True) v10 A5) ∧ ah (Below w.heap.size w w'))
    case atStart => exact ⟨(P0), (0), bZ, H', ⟨Nat.le_refl _⟩, ⟨Ad⟩, ⟨by (with_reducible repeat (first | apply Kd.gI | apply Kd.gM | apply Kd.gL)); exact P1.out⟩, ⟨bO⟩⟩
    case round =>
     clear H'
     try clear K0; try clear M9; try clear N0; try clear N1; try clear J5; try clear c11; try clear G9; try clear H0; try clear A3; try clear A4; try clear D5; try clear D7; try clear D6; try clear D8
     obtain ⟨A5, A1, rfl, HA, HK2, HO_6, HO_10, HB⟩ := hrel
     cases gk with
     | zero => exact absurd HA.out (by simp [ak.nE])
     | succ k2 =>
      have H := HA.out
      clear HA
      simp only [ak.nE] at H
      by_cases c39 : A1 < ((bJ l0 (D4)).length : Int)
      ·rw [if_pos c39] at H
       have P2 := decide_eq_true c39
       clear c39
       replace H := ig_ H; obtain ⟨c40, H⟩ := H
       have S2 := decide_eq_true c40
       clear c40
       replace H := bo_ H; obtain ⟨L7, T4, H⟩ := H; (try dsimp only at H)
       replace H := ig_ H; obtain ⟨c42, H⟩ := H
       have S3 := decide_eq_true c42
       clear c42
       replace H := ig_ H; obtain ⟨c43, H⟩ := H
       have LMc43 := a_ c43
       clear c43
       obtain ⟨G7, I0⟩ : ∃ y_ : List (S64), y_ = (L7 ++ (dY (bJ l0 A2) A1)) := ⟨_, rfl⟩
       replace H : (if A5.length < 5864062014805 then (ak.nE k2 l0 a1 (l0.length : Int) B0 A2 (bJ l0 (D4)) (bJ l0 A2) (A5 ++ [G7]) (wrap64 (A1 + 1))) else (none)) = some r := rh_ I0 H
       have P3 := a_ I0
       clear I0
       replace H := ig_ H; obtain ⟨c44, H⟩ := H
       have LMc44 := a_ c44
       clear c44
       obtain ⟨P4, I1⟩ : ∃ y_ : List (List (S64)), y_ = (A5 ++ [G7]) := ⟨_, rfl⟩
       replace H : (ak.nE k2 l0 a1 (l0.length : Int) B0 A2 (bJ l0 (D4)) (bJ l0 A2) P4 (wrap64 (A1 + 1))) = some r := rh_ I1 H
       have P5 := a_ I1
       clear I1
       have H' := a_ H
       clear H
       try go_wp2
       replace HO_6 := a_ (Kd.az HO_6.out)
       replace HO_10 := a_ (Kd.gL HO_10.out)
       replace HB := a_ (aU HB.out)
       have L8 : 0 ≤ (A1 : Int) := of_decide_eq_true aG
       have L9 : A1 < ((bJ l0 (D4)).length : Int) := of_decide_eq_true aG
       obtain ⟨P6, I2, I3, R4, D0, F9, G0⟩ := kT D2.out A1 L8 L9
       have A8 := D0
       cases R4
       replace D0 := (HB.out.cell (World.block_lt_of_cell? _ _ D0)).trans D0
       have G1 := a_ G0
       have J3 := a_ F9
       clear G0 F9
       replace L8 := eq_true L8
       replace L9 := eq_true L9
       have M0 : 0 ≤ (A1 : Int) := of_decide_eq_true aG
       have M1 : A1 < ((bJ l0 A2).length : Int) := of_decide_eq_true aG
       obtain ⟨P7, M2, M3, R5, D1, G2, G3⟩ := kT D3.out A1 M0 M1
       have A9 := D1
       cases R5
       replace D1 := (HB.out.cell (World.block_lt_of_cell? _ _ D1)).trans D1
       have G4 := a_ G3
       have Q5 := a_ G2
       clear G3 G2
       replace M0 := eq_true M0
       replace M1 := eq_true M1
       refine gQ (n := 14) (S := fun w' => w'.cell? (P6.add (A1).toNat) = some (.slice I2 (dY (bJ l0 (D4)) A1).length I3) ∧ w'.cell? (P7.add (A1).toNat) = some (.slice M2 (dY (bJ l0 A2) A1).length M3)) (ds := []) #[false, false, false, false, false, false, false, false, false, false, false, false, false, false] (by kernel_rfl) rfl rfl ⟨((HB.out.cell (World.block_lt_of_cell? _ _ A8)).trans A8), ((HB.out.cell (World.block_lt_of_cell? _ _ A9)).trans A9)⟩ (fun hHeld => ?_); refine fI ak.Av ak.yA (fun HT_ HW_ => ?_)
       generalize wr.drew = V2 at HO_6 HO_10 HB G1 G4 D0 D1 hHeld ⊢
       refine pv_ 0 (some 56) ?_
       refine pv_ 1 (some 57) ?_
       refine pv_ 2 (some 58) ?_
       refine pv_ 3 (some 59) ?_
       refine pv_ 6 (some 62) ?_
       refine pv_ 7 (some 63) ?_
       refine pv_ 8 (some 64) ?_
       refine nG (i := 4) (N := some 60) hHeld ?_
       refine nG (i := 9) (N := some 65) hHeld ?_
       refine on_ (i := 5) (N := some 61) (fun K hK => ?_)
       refine jq Tryz.func115 (by kernel_rfl) rfl #[.slice I2 (dY (bJ l0 (D4)) A1).length I3, .bool false] (by rfl) rfl rfl (by (try simp only [List.map_toArray, List.map_cons, List.map_nil]); first | done | (simp only [I5]; rfl) | rfl | (simp only [List.length_drop, List.length_take]; rfl)) ?_
       with_reducible refine (bS.calls _ _ (dY (bJ l0 (D4)) A1) false L7 _ ?side1 ?side2 T4.out).mono ?_
       (case side1 => exact kc_ (Kd.bE G1.out HB.out))
       (case side2 => exact J3.out)
       rintro e V3 ⟨R6, rfl, ho0, hb⟩
       refine ⟨_, rfl, ?_⟩
       replace HO_6 := a_ (Kd.bB (ra_ HO_6.out) (Kd.bN ho0) hb)
       replace HO_10 := a_ (Kd.kC xk (Kd.bN ho0) hb)
       have J9 := a_ (Kd.bu ho0 (af bO))
       replace HB := df bO hb
       (try clear hb)
       (try clear hb2)
       (try clear hk)
       (try clear hi)
       (try clear ho0)
       refine hK.out _ _ ⟨((HB.out.cell (World.block_lt_of_cell? _ _ A8)).trans A8), ((HB.out.cell (World.block_lt_of_cell? _ _ A9)).trans A9)⟩ (fun hHeld => ?_)
       clear hK K
       refine nm_ ?_
       refine on_ (i := 10) (N := some 66) (fun K hK => ?_)
       refine Kd.iD k64 (w0 := w) w.heap.size (by rfl) (.tmp 61) (.tmp 65) 61 64 (.agg #[(.int .i64 0), (.int .i64 0), (.bool false), (.bool false)]) 24 rfl Tryz.underlying61 lN rfl (by decide) (by omega) R6 L7 (dY (bJ l0 A2) A1) _ _ _ (fun _ => True) (fun _ => False) rfl rfl ?aO ?aR (fun _ _ h => h) (fun _ h => h.elim) ?aF ?aB ?aS ?aL ?_
       (case aR => exact kc_ (Kd.bE G4.out HB.out))
       (case aB => exact bO)
       (case aF => exact (fun _ _ => trivial))
       (case aO => exact (ra_ J9.out))
       (case aS => exact (af bO))
       (case aL => have := LMc43.out; omega)
       intro T7 V4 ho hb hg hat
       rw [← P3.out] at ho
       replace HO_6 := a_ (Kd.dn (ok := (fun k_ => some k_ ≠ (u10 : Value).ownBlock)) (ra_ HO_6.out) hg hat)
       replace HO_10 := a_ (Kd.qz (ok := (fun _ => True)) xk hg hat)
       replace HB := a_ (hb)
       have G5 := a_ (ho)
       clear J9
       clear ho hb hg hat
       obtain ⟨M4, M5, M6⟩ := Kd.bg G5.out
       (first | subst M6 | (injection M6.symm with f1_ f2_ f3_; clear f2_ M6; subst f1_ f3_))
       refine hK.out _ _ ⟨((HB.out.cell (World.block_lt_of_cell? _ _ A8)).trans A8), ((HB.out.cell (World.block_lt_of_cell? _ _ A9)).trans A9)⟩ (fun hHeld => ?_)
       clear hK K
       refine nm_ ?_
       refine on_ (i := 11) (N := some 67) (fun K hK => ?_)
       refine rF (w1 := ?_) (v := ?_) (by rfl) rfl ?_ ?_
       rotate_left 2
       ·go_simp
        constructor
        ·rfl
        ·rfl
       refine hK.out _ _ ⟨(World.cell?_alloc_lt _ _ _ (World.block_lt_of_cell? _ _ (((HB.out.cell (World.block_lt_of_cell? _ _ A8)).trans A8)))).trans (((HB.out.cell (World.block_lt_of_cell? _ _ A8)).trans A8)), (World.cell?_alloc_lt _ _ _ (World.block_lt_of_cell? _ _ (((HB.out.cell (World.block_lt_of_cell? _ _ A9)).trans A9)))).trans (((HB.out.cell (World.block_lt_of_cell? _ _ A9)).trans A9))⟩ (fun hHeld => ?_)
       clear hK K
       refine nm_ ?_
       refine on_ (i := 12) (N := some 68) (fun K hK => ?_)
       refine Kd.lc (Kd.slice 64 k64) (w0 := w) w.heap.size (by rfl) (.tmp 56) (.tmp 67) 96 61 (.slice none 0 0) 24 rfl Tryz.underlying96 nW rfl (by decide) (by omega) u10 A5 G7 [.slice M4 G7.length M5] (fun _ => True) (fun k_ => some k_ = (.slice M4 G7.length M5 : Value).ownBlock) rfl rfl ?aP (fun k_ hk_ => ((Kd.ae (ok' := fun k_ => ((fun _ => True)) k_ ∧ some k_ ≠ (u10 : Value).ownBlock) (Kd.gm (G5.out) (Kd.ji HO_10.out) (by decide)) (fun k_ hk => ⟨trivial, hk.2⟩))).1 k_ hk_.symm) ?aF ?aO ?aB ?aS ?aL ?_
       (case aP => exact Kd.lm (Kd.ae (Kd.kS rfl (Kd.ae (ok' := fun k_ => ((fun _ => True)) k_ ∧ some k_ ≠ (u10 : Value).ownBlock) (Kd.gm (G5.out) (Kd.ji HO_10.out) (by decide)) (fun k_ hk => ⟨trivial, hk.2⟩))) (fun _ h_ => h_)))
       (case aB => exact bO)
       (case aF => exact (fun _ _ => trivial))
       (case aO => exact (by (with_reducible repeat (first | apply Kd.gI | apply Kd.gM | apply Kd.gL)); exact Kd.mi HO_10.out (fun k_ hk => ⟨trivial, fun e_ => hk.2 e_⟩)))
       (case aS => exact (af bO))
       (case aL => have := LMc44.out; omega)
       intro U0 V5 ho hb hg hat
       rw [← P5.out] at ho
       replace HO_6 := a_ (Kd.dn (ok := (fun k_ => nb_ k_ M4 G7.length M5)) (rc_ (h := by exact Kd.ae HO_6.out (fun _ hk => ⟨hk.2, hk.1⟩))) hg hat)
       replace HB := a_ (hb)
       have P8 := a_ (ho)
       clear G5; clear HO_10
       clear ho hb hg hat
       refine hK.out _ _ ⟨((HB.out.cell (World.block_lt_of_cell? _ _ A8)).trans A8), ((HB.out.cell (World.block_lt_of_cell? _ _ A9)).trans A9)⟩ (fun hHeld => ?_)
       clear hK K
       refine nm_ ?_
       refine pv_ 13 (some 10) ?_
       refine ja (gU HT_.out (by kernel_rfl)) ?_
       try go_wp2
       go_roundg k2
       case measure => have := HK1.out; have := HK2.out; omega
       case rel => exact ⟨(P4), (wrap64 (A1 + 1)), bZ, H', ⟨ko⟩, ⟨Ad⟩, ⟨by (with_reducible repeat (first | apply Kd.gI | apply Kd.gM | apply Kd.gL)); exact P8.out⟩, ⟨bO⟩⟩
      rw [if_neg c39] at H
      have P2 := decide_eq_false c39
      clear c39
      replace H := ig_ H; obtain ⟨c50, H⟩ := H
      have LMc50 := a_ c50
      clear c50
      obtain ⟨P9, I4⟩ : ∃ y_ : List (List (List (S64))), y_ = (B0 ++ [A5]) := ⟨_, rfl⟩
      replace H : (ak.l0 k2 l0 a1 (l0.length : Int) P9 (wrap64 (A2 + 1))) = some r := rh_ I4 H
      have Q0 := a_ I4
      clear I4
      have H' := a_ H
      clear H
      obtain ⟨R7, R8, R9⟩ := Kd.lK HO_10.out
      subst R9
      go_wp2_with (first | ((with_reducible refine bF (b := .append) (xs := #[.tmp 69, .tmp 71]) rfl ?_); at_builtin; refine Kd.fH (Kd.slice 61 (Kd.slice 64 k64)) (w0 := w) w.heap.size rfl (.tmp 69) (.tmp 71) 95 96 (.slice none 0 0) 24 rfl Tryz.underlying95 pz rfl (by decide) (by omega) u6 B0 A5 [.slice R7 A5.length R8] (fun _ => True) (fun k_ => ((fun _ => True)) k_ ∧ some k_ ≠ (u6 : Value).ownBlock) rfl rfl ?aP (fun _ hk => hk) ?aF ?aO ?aB ?aS ?aL ?_; (case aP => exact Kd.lm (Kd.ae (Kd.gm ((Kd.S_R HO_10.out)) (Kd.fV HO_6.out) (by decide)) (fun k_ hk => ⟨trivial, hk.2⟩))); (case aB => exact bO); (case aF => exact (fun _ _ => trivial)); (case aO => exact (rc_ (h := by exact Kd.ae HO_6.out (fun _ hk => trivial)))); (case aS => exact (af bO)); (case aL => have := LMc50.out; omega); intro U1 V6 ho hb hg hat; rw [← Q0.out] at ho; replace HB := a_ (hb); have Q1 := a_ (ho); clear HO_10; clear HO_6; clear ho hb hg hat))
      go_roundg k2
      case measure => have := HK1.out; have := HK2.out; omega
      case rel => exact ⟨(P9), (wrap64 (A2 + 1)), bZ, H', ⟨ko⟩, ⟨by (with_reducible repeat (first | apply Kd.aC | apply Kd.aD | apply Kd.az)); exact Q1.out⟩, ⟨bO⟩⟩
   rw [if_neg c5] at H
   have K0 := decide_eq_false c5
   clear c5
   obtain rfl := Option.some.inj H
   go_wp2
   go_ret
   exact ⟨_, fO, tQ, bO⟩
end Go.Proofs.YtkpidjmhdagkfaaGreatDoor.QFnReadForms
