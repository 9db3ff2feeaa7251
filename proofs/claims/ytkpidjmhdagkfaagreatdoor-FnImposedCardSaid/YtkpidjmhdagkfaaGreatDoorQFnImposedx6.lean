-- Written by own_print.py of this session's repo over the kit's print (its output, turned at some places).
import Derived.Test.YtkpidjmhdagkfaaGreatDoorQFnImposedx0
import Derived.Test.YtkpidjmhdagkfaaGreatDoorQFnImposedx2
import Derived.Test.YtkpidjmhdagkfaaGreatDoorQFnImposedx5
namespace Go.Proofs.YtkpidjmhdagkfaaGreatDoor.QFnImposed
open Go.RowKit Go.Proofs.YtkpidjmhdagkfaaGreatDoorW.PrintWords Go.Proofs.YtkpidjmhdagkfaaGreatDoorW.PrintLast Go.Proofs.YtkpidjmhdagkfaaGreatDoorW.PrintMore
attribute [local go_sem] fU fT gP gQ fw fA fQ fV
set_option maxHeartbeats 8000000
set_option maxRecDepth 100000
set_option linter.unusedVariables false
set_option linter.unusedSimpArgs false
mutual
def ah.l0 : Nat → Int → List (S64) → Int → Int → Int → Int → List Int → List Int → List Int → Option (Int × Int × List Int × List Int × List Int × Int)
 | 0, _, _, _, _, _, _, _, _, _ => none
 | k + 1, x0, x38, x39, x40, x282000, x282001, x282002, x282003, x282004 => if x40 < x39 then (if 0 ≤ x40 then (if x40 < (x38.length : Int) then ((gu.f ((ag x38 x40).f0) ((ag x38 x40).f1) ((ag x38 x40).f2) ((ag x38 x40).f3)).bind fun t287 => (if t287 = true then (ah.j1 k x0 (wrap64 ((wrap64 (2 * x40)) + 2)) (wrap64 ((wrap64 (2 * x40)) + 1)) x38 x39 x40 x282000 x282001 x282002 x282003 x282004 ((ag x38 x40).f0) ((ag x38 x40).f1) ((ag x38 x40).f2) ((ag x38 x40).f3)) else (ah.j1 k x0 (wrap64 ((wrap64 (2 * x40)) + 1)) (wrap64 ((wrap64 (2 * x40)) + 2)) x38 x39 x40 x282000 x282001 x282002 x282003 x282004 ((ag x38 x40).f0) ((ag x38 x40).f1) ((ag x38 x40).f2) ((ag x38 x40).f3)))) else (none)) else (none)) else (some (x282000, x282001, x282002, x282003, x282004, 0))
def ah.j1 : Nat → Int → Int → Int → List (S64) → Int → Int → Int → Int → List Int → List Int → List Int → Int → Int → Bool → Bool → Option (Int × Int × List Int × List Int × List Int × Int)
 | 0, _, _, _, _, _, _, _, _, _, _, _, _, _, _, _ => none
 | k + 1, x0, x13, x14, x38, x39, x40, x282000, x282001, x282002, x282003, x282004, x287000, x287001, x287002, x287003 => (eT.f x0 x287000 x287001).bind fun t288 => (if 0 ≤ t288 then (if t288 < (x282002.length : Int) then ((fM.f x0 x287000 x287001).bind fun t290 => (if 0 ≤ t290 then (if t290 < (x282003.length : Int) then ((eT.f x0 x287000 x287001).bind fun t292 => ((iL.f x287003).bind fun t293 => (if 0 ≤ t292 then (if t292 < (x282004.length : Int) then (ah.l0 k x0 x38 x39 (wrap64 (x40 + 1)) x282000 x282001 (x282002.set (t288 : Int).toNat x13) (x282003.set (t290 : Int).toNat x14) (x282004.set (t292 : Int).toNat t293)) else (none)) else (none)))) else (none)) else (none))) else (none)) else (none))
end
def ah.f (k : Nat) (a0 : Int) (a1 : Int) (a2 : ByteArray) : Option (Int × Int × List Int × List Int × List Int × Int) := (eP.f k a0 a1 a2).bind fun t271 => (if t271 = 0 then (if 0 ≤ (wrap64 (a0 * a1)) then (if (wrap64 (a0 * a1) : Int).toNat ≤ 35184372088832 then ((ax.f k a0 a1 a2).bind fun t282 => (ah.l0 k a0 t282 (t282.length : Int) 0 a0 a1 (List.replicate (wrap64 (a0 * a1) : Int).toNat 0) (List.replicate (wrap64 (a0 * a1) : Int).toNat 0) (List.replicate (wrap64 (a0 * a1) : Int).toNat 0))) else (none)) else (none)) else (some (0, 0, ([] : List Int), ([] : List Int), ([] : List Int), t271)))
theorem ah.dC : ∀ k, (∀ y0 y1 y2 y3 y4 y5 y6 y7 y8, LeO (ah.l0 k y0 y1 y2 y3 y4 y5 y6 y7 y8) (ah.l0 (k + 1) y0 y1 y2 y3 y4 y5 y6 y7 y8)) ∧ (∀ y0 y1 y2 y3 y4 y5 y6 y7 y8 y9 y10 y11 y12 y13 y14, LeO (ah.j1 k y0 y1 y2 y3 y4 y5 y6 y7 y8 y9 y10 y11 y12 y13 y14) (ah.j1 (k + 1) y0 y1 y2 y3 y4 y5 y6 y7 y8 y9 y10 y11 y12 y13 y14))
 | 0 => ⟨fun _ _ _ _ _ _ _ _ _ r h => by simp [ah.l0] at h, fun _ _ _ _ _ _ _ _ _ _ _ _ _ _ _ r h => by simp [ah.j1] at h⟩
 | k + 1 => by
  obtain ⟨ih0, ih1⟩ := ah.dC k
  refine ⟨?_, ?_⟩ <;> intros <;> (first | unfold ah.l0 | unfold ah.j1) <;> (repeat' first | (with_reducible first | exact ih0 .. | exact ih1 .. | exact eP.mono .. | exact ax.mono .. | exact LeO.refl .. | exact LeO.none .. | refine LeO.ite ?_ ?_ | refine LeO.bind ?_ (fun _ => ?_)))
theorem ah.mono : ∀ a0 a1 a2 k, LeO (ah.f k a0 a1 a2) (ah.f (k + 1) a0 a1 a2) := by
 intro a0 a1 a2 k
 obtain ⟨ih0, ih1⟩ := ah.dC k
 unfold ah.f
 repeat' first | (with_reducible first | exact ih0 .. | exact ih1 .. | exact eP.mono .. | exact ax.mono .. | exact LeO.refl .. | exact LeO.none .. | refine LeO.ite ?_ ?_ | refine LeO.bind ?_ (fun _ => ?_))
def ah.T5 : Bool × List (List Nat × List Nat) := (true, [([], []), ([], []), ([], []), ([2, 2], [2]), ([], []), ([4, 4], [4]), ([], []), ([6, 6], [6]), ([0, 1, 3, 5, 7], [0, 1, 3, 5, 7]), ([], []), ([9, 8, 0, 1, 2, 3, 4, 5, 6, 7, 8, 9], [8, 9])])
def ah.B5 : List Nat := [0, 0, 0, 4, 0, 16, 0, 64, 255, 0, 1023]
theorem ah.vP : ig .any (opsOf Tryz.f14 5) = ah.T5 := by kernel_rfl
theorem ah.qU : gm ah.T5.2 ah.B5 = true := by kernel_rfl
def ah.T12 : Bool × List (List Nat × List Nat) := (true, [([], []), ([0], [0]), ([], []), ([], []), ([3], [3]), ([], []), ([5], [5]), ([2, 4, 6], [2, 4, 6]), ([], []), ([1, 7, 0, 1, 2, 3, 4, 5, 6, 7, 8], [1, 7]), ([9, 8, 7, 0, 1, 2, 3, 4, 5, 6, 7, 8], [8, 9])])
def ah.B12 : List Nat := [0, 1, 0, 0, 8, 0, 32, 124, 0, 511, 1023]
theorem ah.zh : ig .any (opsOf Tryz.f14 12) = ah.T12 := by kernel_rfl
theorem ah.vS : gm ah.T12.2 ah.B12 = true := by kernel_rfl
def ah.T13 : Bool × List (List Nat × List Nat) := (true, [([], []), ([0], [0]), ([], []), ([], []), ([3], [3]), ([], []), ([5], [5]), ([2, 4, 6], [2, 4, 6]), ([], []), ([1, 7, 0, 1, 2, 3, 4, 5, 6, 7, 8], [1, 7]), ([9, 8, 7, 0, 1, 2, 3, 4, 5, 6, 7, 8], [8, 9])])
def ah.B13 : List Nat := [0, 1, 0, 0, 8, 0, 32, 124, 0, 511, 1023]
theorem ah.wZ : ig .any (opsOf Tryz.f14 13) = ah.T13 := by kernel_rfl
theorem ah.sU : gm ah.T13.2 ah.B13 = true := by kernel_rfl
def ah.T14 : Bool × List (List Nat × List Nat) := (true, [([], []), ([0], [0]), ([], []), ([], []), ([3], [3]), ([], []), ([5], [5]), ([2, 4, 6], [2, 4, 6]), ([], []), ([8], [8]), ([9, 7], [9]), ([1, 7, 0, 1, 2, 3, 4, 5, 6, 7, 8, 9, 10], [1, 7]), ([11, 10, 10, 0, 1, 2, 3, 4, 5, 6, 7, 8, 9, 10], [10, 11])])
def ah.B14 : List Nat := [0, 1, 0, 0, 8, 0, 32, 124, 0, 256, 1020, 2047, 4095]
theorem ah.yP : ig .any (opsOf Tryz.f14 14) = ah.T14 := by kernel_rfl
theorem ah.wC : gm ah.T14.2 ah.B14 = true := by kernel_rfl
theorem ah.calls (k : Nat) (a0 : Int) (a1 : Int) (a2 : ByteArray) (r1 : Int) (r2 : Int) (r3 : List Int) (r4 : List Int) (r5 : List Int) (r6 : Int) (w : World) (h : ah.f k a0 a1 a2 = some (r1, r2, r3, r4, r5, r6)) :
  Calls Tryz.prog 14 #[.int .i64 a0, .int .i64 a1, .string a2] w fun e w' => ∃ v2_ v3_ v4_ : Value, e = .returned (.tuple #[.agg #[.int .i64 r1, .int .i64 r2, v2_, v3_, v4_], .int .i64 r6]) ∧ Kd.R (Kd.int .i64) 2 w' w.heap.size (fun k_ => some k_ ≠ (v3_ : Value).ownBlock ∧ some k_ ≠ (v4_ : Value).ownBlock) v2_ r3 ∧ Kd.R (Kd.int .i64) 2 w' w.heap.size (fun k_ => some k_ ≠ (v2_ : Value).ownBlock ∧ some k_ ≠ (v4_ : Value).ownBlock) v3_ r4 ∧ Kd.R (Kd.int .i64) 2 w' w.heap.size (fun k_ => some k_ ≠ (v2_ : Value).ownBlock ∧ some k_ ≠ (v3_ : Value).ownBlock) v4_ r5 ∧ Below w.heap.size w w' := by
 have hu28 := Tryz.underlying28
 have hu64 := Tryz.underlying64
 have HB := a_ (Below.refl w.heap.size w)
 have H : ((eP.f k a0 a1 a2).bind fun F8 => (if F8 = 0 then (if 0 ≤ (wrap64 (a0 * a1)) then (if (wrap64 (a0 * a1) : Int).toNat ≤ 35184372088832 then ((ax.f k a0 a1 a2).bind fun A5 => (ah.l0 k a0 A5 (A5.length : Int) 0 a0 a1 (List.replicate (wrap64 (a0 * a1) : Int).toNat 0) (List.replicate (wrap64 (a0 * a1) : Int).toNat 0) (List.replicate (wrap64 (a0 * a1) : Int).toNat 0))) else (none)) else (none)) else (some (0, 0, ([] : List Int), ([] : List Int), ([] : List Int), F8)))) = some (r1, r2, r3, r4, r5, r6) := h
 clear h
 replace H := bo_ H; obtain ⟨F8, A4, H⟩ := H; (try dsimp only at H)
 by_cases c5 : F8 = 0
 ·rw [if_pos c5] at H
  have M1 : (F8 == 0) = true := beq_iff_eq.mpr c5
  have M2 : (F8 != 0) = false := bne_eq_false_iff_eq.mpr c5
  clear c5
  obtain ⟨F9, H5⟩ : ∃ j_ : Int, (wrap64 (a0 * a1)) = j_ := ⟨_, rfl⟩
  replace H : (if 0 ≤ (F9) then (if (F9 : Int).toNat ≤ 35184372088832 then ((ax.f k a0 a1 a2).bind fun A5 => (ah.l0 k a0 A5 (A5.length : Int) 0 a0 a1 (List.replicate (F9 : Int).toNat 0) (List.replicate (F9 : Int).toNat 0) (List.replicate (F9 : Int).toNat 0))) else (none)) else (none)) = some (r1, r2, r3, r4, r5, r6) := by first | (rw [H5] at H; exact H) | (simp only [H5] at H ⊢; exact H)
  (try rw [H5] at A4)
  have hji6w : (IntKind.i64.wrap (a0 * a1)) = F9 := (eX _).trans H5
  replace H := ig_ H; obtain ⟨c7, H⟩ := H
  have R5 := eq_true c7
  have R6 := decide_eq_true c7
  clear c7
  replace H := ig_ H; obtain ⟨c8, H⟩ := H
  have R7 := eq_true c8
  have R8 := decide_eq_true c8
  clear c8
  obtain ⟨F2, H6⟩ : ∃ y_ : List Int, y_ = (List.replicate (F9 : Int).toNat 0) := ⟨_, rfl⟩
  replace H : ((ax.f k a0 a1 a2).bind fun A5 => (ah.l0 k a0 A5 (A5.length : Int) 0 a0 a1 F2 (List.replicate (F9 : Int).toNat 0) (List.replicate (F9 : Int).toNat 0))) = some (r1, r2, r3, r4, r5, r6) := rh_ H6 H
  have K6 := a_ H6
  clear H6
  obtain ⟨F6, H7⟩ : ∃ y_ : List Int, y_ = (List.replicate (F9 : Int).toNat 0) := ⟨_, rfl⟩
  replace H : ((ax.f k a0 a1 a2).bind fun A5 => (ah.l0 k a0 A5 (A5.length : Int) 0 a0 a1 F2 F6 (List.replicate (F9 : Int).toNat 0))) = some (r1, r2, r3, r4, r5, r6) := rh_ H7 H
  have K7 := a_ H7
  clear H7
  obtain ⟨F7, H8⟩ : ∃ y_ : List Int, y_ = (List.replicate (F9 : Int).toNat 0) := ⟨_, rfl⟩
  replace H : ((ax.f k a0 a1 a2).bind fun A5 => (ah.l0 k a0 A5 (A5.length : Int) 0 a0 a1 F2 F6 F7)) = some (r1, r2, r3, r4, r5, r6) := rh_ H8 H
  have K8 := a_ H8
  clear H8
  replace H := bo_ H; obtain ⟨A5, A9, H⟩ := H; (try dsimp only at H)
  have H' := a_ H
  clear H
  go_enter Tryz.func14, Tryz.ntmps14
  try go_wp2_with (first | ((with_reducible refine bn (N := 6) rfl ?_); refine bG ?hg (N := 6) ?hd (cs := #[.int .i64 0, .int .i64 0, .slice none 0 0, .slice none 0 0, .slice none 0 0]) (t := 28) ?hr ?_; (case hd => rfl); (case hg => rfl); (case hr => first | (go_simp; done) | (go_simp; rfl)); intro C3 hg Z7 hbox hb; have BK270 := a_ (hbox); have M3 := a_ ((fO : w.heap.size ≤ C3)); have GE270 := a_ ((fO : w.heap.size ≤ C3)); replace HB := cK bX hb; clear hb hbox hg) | ((with_reducible refine av (f := 43) rfl ?_); refine bJ (some 18) rfl rfl Tryz.func43 (by kernel_rfl) rfl #[.int .i64 a0, .int .i64 a1, .string a2] rfl dN ?_; (with_reducible refine (eP.calls k a0 a1 a2 F8 _ A4.out).mono ?_); rintro e Y1 ⟨rfl, hb⟩; refine ⟨_, rfl, ?_⟩; replace BK270 := bb_ C3 BK270 hb; replace HB := cK nM hb; (try clear hb)))
  replace BK270 := a_ (bv BK270.out)
  replace HB := a_ (aM HB.out)
  refine gW (n := 11) (S := fun w' => True) (ds := []) #[false, false, false, false, false, false, false, false, false, false, false] (by kernel_rfl) rfl rfl trivial (fun hHeld => ?_); refine fq ah.vP ah.qU (fun HT_ HW_ => ?_)
  generalize Y1.drew = Z8 at BK270 HB hHeld ⊢
  refine pv_ 0 (some 26) ?_
  refine pv_ 1 (some 27) ?_
  refine pv_ 2 (some 28) ?_
  refine pv_ 4 (some 30) ?_
  refine pv_ 6 (some 32) ?_
  refine uf [3, 5, 7, 8, 9, 10] (fun a0_ b a w' => ∃ (E0 : Value) (E1 : Value) (E2 : Value) (gb281 : Nat) (m8_ : Value) (m9_ : Value), a = gI a0_ b [(3, 29, E0), (5, 31, E1), (7, 33, E2), (8, 34, m8_), (9, 10, m9_)] ∧ (w'.heap[C3]? = some (.cells #[.int .i64 0, .int .i64 0, .slice none 0 0, .slice none 0 0, .slice none 0 0] 28 (0, 0))) ∧ (Below w.heap.size w w') ∧ (b 3 = true → Kd.R (Kd.int .i64) 2 w' w.heap.size (fun _ => True) E0 F2) ∧ (b 5 = true → Kd.R (Kd.int .i64) 2 w' w.heap.size (fun _ => True) E1 F6) ∧ (b 7 = true → Kd.R (Kd.int .i64) 2 w' w.heap.size (fun _ => True) E2 F7) ∧ (b 9 = true → b 10 = false → w'.heap[gb281]? = some (.cells #[.int .i64 0, .int .i64 0, .slice none 0 0, .slice none 0 0, .slice none 0 0] 28 (0, 0))) ∧ (b 9 = true → w.heap.size ≤ gb281) ∧ (b 9 = true → w.heap.size ≤ gb281) ∧ (b 9 = true → C3 ≠ gb281) ∧ (b 9 = true → gb281 ≠ C3) ∧ (b 10 = true → w'.heap[gb281]? = some (.cells #[.int .i64 a0, .int .i64 a1, E0, E1, E2] 28 (0, 0))) ∧ (b 8 = true → (m8_ : Value) = .agg #[.int .i64 a0, .int .i64 a1, E0, E1, E2]) ∧ (b 9 = true → (m9_ : Value) = .pointer (some ⟨gb281, 0, none⟩)) ∧ (b 3 = true → b 5 = true → ∀ k_ : Nat, (E0 : Value).ownBlock = some k_ → (E1 : Value).ownBlock ≠ some k_) ∧ (b 3 = true → b 7 = true → ∀ k_ : Nat, (E0 : Value).ownBlock = some k_ → (E2 : Value).ownBlock ≠ some k_) ∧ (b 5 = true → b 7 = true → ∀ k_ : Nat, (E1 : Value).ownBlock = some k_ → (E2 : Value).ownBlock ≠ some k_)) HT_.out HW_.out (by kernel_rfl) (by kernel_rfl) ?_ ?_ ?_
  ·exact ⟨.bool false, .bool false, .bool false, 0, .bool false, .bool false, by simp only [gI, Bool.false_eq_true, if_false], BK270.out, HB.out, fun h_ => absurd h_ (by decide), fun h_ => absurd h_ (by decide), fun h_ => absurd h_ (by decide), fun h_ => absurd h_ (by decide), fun h_ => absurd h_ (by decide), fun h_ => absurd h_ (by decide), fun h_ => absurd h_ (by decide), fun h_ => absurd h_ (by decide), fun h_ => absurd h_ (by decide), fun h_ => absurd h_ (by decide), fun h_ => absurd h_ (by decide), fun h_ => absurd h_ (by decide), fun h_ => absurd h_ (by decide), fun h_ => absurd h_ (by decide)⟩
  ·skip
   clear BK270 HB
   refine dM ?_ ?_
   ·rintro b a w' ⟨E0, E1, E2, gb281, m8_, m9_, ha, D0, Q_HB, C4, C5, C6, Q_BK281, D4, D5, B7, C0, C9, Q_X8_, Q_X9_, D6, D7, D8⟩ hb_ hon hoff
    refine ⟨_, rfl, fun K hK => ?_⟩
    have X1 : a.tmps[28]? = some (.int .i64 F9) := by rw [ha]; exact (eD rfl).trans rfl
    replace ha := a_ ha
    have BK270 := a_ D0
    have HB := a_ Q_HB
    refine Kd.jH (Kd.int .i64) _ 2 (by rfl) (N := 29) rfl 22 _ _ rfl F9 (by simp [Act.eval, Array.getD_eq_getD_getElem?, X1]) (by simp [Act.eval, Array.getD_eq_getD_getElem?, X1]) Tryz.underlying22 (.int .i64 0) 8 jQ rfl (by decide) (by omega) 0 (ok := fun _ => True) (okp := fun _ => True) rfl (fun _ hk => hk) trivial (of_decide_eq_true aX) (Nat.le_trans (Nat.mul_le_mul_right _ (of_decide_eq_true aX : F9.toNat ≤ 35184372088832)) (by omega)) (Below.refl _ _) (Nat.le_refl _) ?_
    intro E0 G6 ho14 hb hg_ hnew_
    clear hg_ hnew_
    (first | rw [← K6.out] at ho14 | (simp only [Int.reduceToNat] at ho14; rw [← K6.out] at ho14))
    have n0_ := a_ (Kd.bE ho14 (ai nM))
    have n1_ := bb_ C3 BK270 hb
    have n2_ := cK nM hb
    have F3 := fun (h0_ : b 5 = true) => (show Kd.R (Kd.int .i64) 2 G6 w.heap.size (fun _ => True) E1 F6 from by first | exact (Kd.bC (rc_ (h := by exact C5 h0_)) (Kd.aH ho14) hb) | exact Kd.ae (Kd.bC (rc_ (h := by exact C5 h0_)) (Kd.aH ho14) hb) (fun _ h_ => by first | trivial | exact h_ | exact h_.1))
    have F4 := fun (h0_ : b 7 = true) => (show Kd.R (Kd.int .i64) 2 G6 w.heap.size (fun _ => True) E2 F7 from by first | exact (Kd.bC (rc_ (h := by exact C6 h0_)) (Kd.aH ho14) hb) | exact Kd.ae (Kd.bC (rc_ (h := by exact C6 h0_)) (Kd.aH ho14) hb) (fun _ h_ => by first | trivial | exact h_ | exact h_.1))
    have z_BK281 := fun (h0_ : b 9 = true) (h1_ : b 10 = false) => (show G6.heap[gb281]? = some (.cells #[.int .i64 0, .int .i64 0, .slice none 0 0, .slice none 0 0, .slice none 0 0] 28 (0, 0)) from z3_)
    clear BK270; clear HB
    have E8 := n0_
    have BK270 := n1_
    have HB := n2_
    clear n0_ n1_ n2_
    have z_NE3_5 := fun (h1_ : b 5 = true) (k_ : Nat) (hk_ : (E0 : Value).ownBlock = some k_) (hk2_ : (E1 : Value).ownBlock = some k_) => (Nat.not_lt.mpr (Kd.aH ho14 k_ hk_)) (Kd.df (C5 h1_) k_ hk2_)
    have z_NE3_7 := fun (h1_ : b 7 = true) (k_ : Nat) (hk_ : (E0 : Value).ownBlock = some k_) (hk2_ : (E2 : Value).ownBlock = some k_) => (Nat.not_lt.mpr (Kd.aH ho14 k_ hk_)) (Kd.df (C6 h1_) k_ hk2_)
    clear hb ho14
    refine hK.out _ _ ⟨E0, E1, E2, gb281, m8_, m9_, (by rw [ha.out]; exact dU 0 hb_ rfl rfl rfl), (rb_ BK270.out), nM, fun _ => Kd.ae (ra_ E8.out) (fun _ _ => trivial), F3, F4, z_BK281, D4, D5, B7, C0, fun h0_ => absurd ((hoff 10 (by kernel_rfl)).symm.trans h0_) (by decide), fun h0_ => absurd ((hoff 8 (by kernel_rfl)).symm.trans h0_) (by decide), Q_X9_, fun _ h1_ => z_NE3_5 h1_, fun _ h1_ => z_NE3_7 h1_, D8⟩
   refine dM ?_ ?_
   ·rintro b a w' ⟨E0, E1, E2, gb281, m8_, m9_, ha, D0, Q_HB, C4, C5, C6, Q_BK281, D4, D5, B7, C0, C9, Q_X8_, Q_X9_, D6, D7, D8⟩ hb_ hon hoff
    refine ⟨_, rfl, fun K hK => ?_⟩
    have X2 : a.tmps[30]? = some (.int .i64 F9) := by rw [ha]; exact (eD rfl).trans rfl
    replace ha := a_ ha
    have BK270 := a_ D0
    have HB := a_ Q_HB
    refine Kd.jH (Kd.int .i64) _ 2 (by rfl) (N := 31) rfl 22 _ _ rfl F9 (by simp [Act.eval, Array.getD_eq_getD_getElem?, X2]) (by simp [Act.eval, Array.getD_eq_getD_getElem?, X2]) Tryz.underlying22 (.int .i64 0) 8 jQ rfl (by decide) (by omega) 0 (ok := fun _ => True) (okp := fun _ => True) rfl (fun _ hk => hk) trivial (of_decide_eq_true aX) (Nat.le_trans (Nat.mul_le_mul_right _ (of_decide_eq_true aX : F9.toNat ≤ 35184372088832)) (by omega)) (Below.refl _ _) (Nat.le_refl _) ?_
    intro E1 G6 ho14 hb hg_ hnew_
    clear hg_ hnew_
    (first | rw [← K7.out] at ho14 | (simp only [Int.reduceToNat] at ho14; rw [← K7.out] at ho14))
    have n0_ := a_ (Kd.bE ho14 (ai nM))
    have n1_ := bb_ C3 BK270 hb
    have n2_ := cK nM hb
    have F5 := fun (h0_ : b 3 = true) => (show Kd.R (Kd.int .i64) 2 G6 w.heap.size (fun _ => True) E0 F2 from by first | exact (Kd.bC (rc_ (h := by exact C4 h0_)) (Kd.aH ho14) hb) | exact Kd.ae (Kd.bC (rc_ (h := by exact C4 h0_)) (Kd.aH ho14) hb) (fun _ h_ => by first | trivial | exact h_ | exact h_.1))
    have F4 := fun (h0_ : b 7 = true) => (show Kd.R (Kd.int .i64) 2 G6 w.heap.size (fun _ => True) E2 F7 from by first | exact (Kd.bC (rc_ (h := by exact C6 h0_)) (Kd.aH ho14) hb) | exact Kd.ae (Kd.bC (rc_ (h := by exact C6 h0_)) (Kd.aH ho14) hb) (fun _ h_ => by first | trivial | exact h_ | exact h_.1))
    have z_BK281 := fun (h0_ : b 9 = true) (h1_ : b 10 = false) => (show G6.heap[gb281]? = some (.cells #[.int .i64 0, .int .i64 0, .slice none 0 0, .slice none 0 0, .slice none 0 0] 28 (0, 0)) from z3_)
    clear BK270; clear HB
    have E9 := n0_
    have BK270 := n1_
    have HB := n2_
    clear n0_ n1_ n2_
    have z_NE3_5 := fun (h1_ : b 3 = true) (k_ : Nat) (hk_ : (E0 : Value).ownBlock = some k_) (hk2_ : (E1 : Value).ownBlock = some k_) => (Nat.not_lt.mpr (Kd.aH ho14 k_ hk2_)) (Kd.df (C4 h1_) k_ hk_)
    have z_NE5_7 := fun (h1_ : b 7 = true) (k_ : Nat) (hk_ : (E1 : Value).ownBlock = some k_) (hk2_ : (E2 : Value).ownBlock = some k_) => (Nat.not_lt.mpr (Kd.aH ho14 k_ hk_)) (Kd.df (C6 h1_) k_ hk2_)
    clear hb ho14
    refine hK.out _ _ ⟨E0, E1, E2, gb281, m8_, m9_, (by rw [ha.out]; exact dU 1 hb_ rfl rfl rfl), (rb_ BK270.out), nM, F5, fun _ => Kd.ae (ra_ E9.out) (fun _ _ => trivial), F4, z_BK281, D4, D5, B7, C0, fun h0_ => absurd ((hoff 10 (by kernel_rfl)).symm.trans h0_) (by decide), fun h0_ => absurd ((hoff 8 (by kernel_rfl)).symm.trans h0_) (by decide), Q_X9_, fun h1_ _ => z_NE3_5 h1_, D7, fun _ h1_ => z_NE5_7 h1_⟩
   refine dM ?_ ?_
   ·rintro b a w' ⟨E0, E1, E2, gb281, m8_, m9_, ha, D0, Q_HB, C4, C5, C6, Q_BK281, D4, D5, B7, C0, C9, Q_X8_, Q_X9_, D6, D7, D8⟩ hb_ hon hoff
    refine ⟨_, rfl, fun K hK => ?_⟩
    have X3 : a.tmps[32]? = some (.int .i64 F9) := by rw [ha]; exact (eD rfl).trans rfl
    replace ha := a_ ha
    have BK270 := a_ D0
    have HB := a_ Q_HB
    refine Kd.jH (Kd.int .i64) _ 2 (by rfl) (N := 33) rfl 22 _ _ rfl F9 (by simp [Act.eval, Array.getD_eq_getD_getElem?, X3]) (by simp [Act.eval, Array.getD_eq_getD_getElem?, X3]) Tryz.underlying22 (.int .i64 0) 8 jQ rfl (by decide) (by omega) 0 (ok := fun _ => True) (okp := fun _ => True) rfl (fun _ hk => hk) trivial (of_decide_eq_true aX) (Nat.le_trans (Nat.mul_le_mul_right _ (of_decide_eq_true aX : F9.toNat ≤ 35184372088832)) (by omega)) (Below.refl _ _) (Nat.le_refl _) ?_
    intro E2 G6 ho14 hb hg_ hnew_
    clear hg_ hnew_
    (first | rw [← K8.out] at ho14 | (simp only [Int.reduceToNat] at ho14; rw [← K8.out] at ho14))
    have n0_ := a_ (Kd.bE ho14 (ai nM))
    have n1_ := bb_ C3 BK270 hb
    have n2_ := cK nM hb
    have F5 := fun (h0_ : b 3 = true) => (show Kd.R (Kd.int .i64) 2 G6 w.heap.size (fun _ => True) E0 F2 from by first | exact (Kd.bC (rc_ (h := by exact C4 h0_)) (Kd.aH ho14) hb) | exact Kd.ae (Kd.bC (rc_ (h := by exact C4 h0_)) (Kd.aH ho14) hb) (fun _ h_ => by first | trivial | exact h_ | exact h_.1))
    have F3 := fun (h0_ : b 5 = true) => (show Kd.R (Kd.int .i64) 2 G6 w.heap.size (fun _ => True) E1 F6 from by first | exact (Kd.bC (rc_ (h := by exact C5 h0_)) (Kd.aH ho14) hb) | exact Kd.ae (Kd.bC (rc_ (h := by exact C5 h0_)) (Kd.aH ho14) hb) (fun _ h_ => by first | trivial | exact h_ | exact h_.1))
    have z_BK281 := fun (h0_ : b 9 = true) (h1_ : b 10 = false) => (show G6.heap[gb281]? = some (.cells #[.int .i64 0, .int .i64 0, .slice none 0 0, .slice none 0 0, .slice none 0 0] 28 (0, 0)) from z3_)
    clear BK270; clear HB
    have F0 := n0_
    have BK270 := n1_
    have HB := n2_
    clear n0_ n1_ n2_
    have z_NE3_7 := fun (h1_ : b 3 = true) (k_ : Nat) (hk_ : (E0 : Value).ownBlock = some k_) (hk2_ : (E2 : Value).ownBlock = some k_) => (Nat.not_lt.mpr (Kd.aH ho14 k_ hk2_)) (Kd.df (C4 h1_) k_ hk_)
    have z_NE5_7 := fun (h1_ : b 5 = true) (k_ : Nat) (hk_ : (E1 : Value).ownBlock = some k_) (hk2_ : (E2 : Value).ownBlock = some k_) => (Nat.not_lt.mpr (Kd.aH ho14 k_ hk2_)) (Kd.df (C5 h1_) k_ hk_)
    clear hb ho14
    refine hK.out _ _ ⟨E0, E1, E2, gb281, m8_, m9_, (by rw [ha.out]; exact dU 2 hb_ rfl rfl rfl), (rb_ BK270.out), nM, F5, F3, fun _ => Kd.ae (ra_ F0.out) (fun _ _ => trivial), z_BK281, D4, D5, B7, C0, fun h0_ => absurd ((hoff 10 (by kernel_rfl)).symm.trans h0_) (by decide), fun h0_ => absurd ((hoff 8 (by kernel_rfl)).symm.trans h0_) (by decide), Q_X9_, D6, fun h1_ _ => z_NE3_7 h1_, fun h1_ _ => z_NE5_7 h1_⟩
   refine dM ?_ ?_
   ·rintro b a w' ⟨E0, E1, E2, gb281, m8_, m9_, ha, D0, Q_HB, C4, C5, C6, Q_BK281, D4, D5, B7, C0, C9, Q_X8_, Q_X9_, D6, D7, D8⟩ hb_ hon hoff
    refine ⟨_, rfl, fun K hK => ?_⟩
    have Z9 : a.tmps[26]? = some (.int .i64 a0) := by rw [ha]; exact (eD rfl).trans rfl
    have a5 : a.tmps[27]? = some (.int .i64 a1) := by rw [ha]; exact (eD rfl).trans rfl
    have a6 : a.tmps[29]? = some (E0) := by rw [ha]; exact eu (e := (3, 29, E0)) 0 rfl rfl (hon 3 (by kernel_rfl)) rfl
    have a7 : a.tmps[31]? = some (E1) := by rw [ha]; exact eu (e := (5, 31, E1)) 1 rfl rfl (hon 5 (by kernel_rfl)) rfl
    have a8 : a.tmps[33]? = some (E2) := by rw [ha]; exact eu (e := (7, 33, E2)) 2 rfl rfl (hon 7 (by kernel_rfl)) rfl
    replace ha := a_ ha
    have BK270 := a_ D0
    have HB := a_ Q_HB
    have E8 := a_ (C4 (hon 3 (by kernel_rfl)))
    have E9 := a_ (C5 (hon 5 (by kernel_rfl)))
    have F0 := a_ (C6 (hon 7 (by kernel_rfl)))
    obtain ⟨H9, I0, eo_⟩ := Kd.bg E8.out
    subst eo_
    obtain ⟨I1, I2, eo_⟩ := Kd.bg E9.out
    subst eo_
    obtain ⟨I3, I4, eo_⟩ := Kd.bg F0.out
    subst eo_
    refine ji (w1 := w') (v := .agg #[.int .i64 a0, .int .i64 a1, .slice H9 F2.length I0, .slice I1 F6.length I2, .slice I3 F7.length I4]) (by rfl) rfl ?_ ?_
    ·go_simp
     (try simp only [eX])
     try rfl
     (try (first | done | omega | (simp only [decide_eq_true_eq] at *; omega)))
    refine hK.out _ _ ⟨.slice H9 F2.length I0, .slice I1 F6.length I2, .slice I3 F7.length I4, gb281, (.agg #[.int .i64 a0, .int .i64 a1, .slice H9 F2.length I0, .slice I1 F6.length I2, .slice I3 F7.length I4]), m9_, (by rw [ha.out]; exact dU 3 hb_ rfl rfl rfl), D0, Q_HB, C4, C5, C6, Q_BK281, D4, D5, B7, C0, fun h0_ => absurd ((hoff 10 (by kernel_rfl)).symm.trans h0_) (by decide), fun _ => rfl, Q_X9_, D6, D7, D8⟩
   refine dM ?_ ?_
   ·rintro b a w' ⟨E0, E1, E2, gb281, m8_, m9_, ha, D0, Q_HB, C4, C5, C6, Q_BK281, D4, D5, B7, C0, C9, Q_X8_, Q_X9_, D6, D7, D8⟩ hb_ hon hoff
    refine ⟨_, rfl, fun K hK => ?_⟩
    replace ha := a_ ha
    have BK270 := a_ D0
    have HB := a_ Q_HB
    refine om ?hg (N := 10) ?hd (cs := #[.int .i64 0, .int .i64 0, .slice none 0 0, .slice none 0 0, .slice none 0 0]) (t := 28) ?hr ?_; (case hd => rfl); (case hg => rfl); (case hr => first | (go_simp; done) | (go_simp; rfl))
    intro gb281 hg G6 hbox hb
    have n0_ := bb_ C3 BK270 hb
    have n1_ := cK nM hb
    have n2_ := a_ (hbox)
    have n3_ := a_ ((by rw [hg]; exact (ai nM) : w.heap.size ≤ gb281))
    have n4_ := a_ ((by rw [hg]; exact (ai nM) : w.heap.size ≤ gb281))
    have n5_ := a_ ((by rw [hg]; exact Nat.ne_of_lt (dI (g := C3) (rb_ BK270.out)) : C3 ≠ gb281))
    have n6_ := a_ ((by rw [hg]; exact Nat.ne_of_gt (dI (g := C3) (rb_ BK270.out)) : gb281 ≠ C3))
    have F5 := fun (h0_ : b 3 = true) => (show Kd.R (Kd.int .i64) 2 G6 w.heap.size (fun _ => True) E0 F2 from by first | exact (Kd.dF (rc_ (h := by exact C4 h0_)) hb) | exact Kd.ae (Kd.dF (rc_ (h := by exact C4 h0_)) hb) (fun _ h_ => by first | trivial | exact h_ | exact h_.1))
    have F3 := fun (h0_ : b 5 = true) => (show Kd.R (Kd.int .i64) 2 G6 w.heap.size (fun _ => True) E1 F6 from by first | exact (Kd.dF (rc_ (h := by exact C5 h0_)) hb) | exact Kd.ae (Kd.dF (rc_ (h := by exact C5 h0_)) hb) (fun _ h_ => by first | trivial | exact h_ | exact h_.1))
    have F4 := fun (h0_ : b 7 = true) => (show Kd.R (Kd.int .i64) 2 G6 w.heap.size (fun _ => True) E2 F7 from by first | exact (Kd.dF (rc_ (h := by exact C6 h0_)) hb) | exact Kd.ae (Kd.dF (rc_ (h := by exact C6 h0_)) hb) (fun _ h_ => by first | trivial | exact h_ | exact h_.1))
    clear BK270; clear HB
    have BK270 := n0_
    have HB := n1_
    have BK281 := n2_
    have G7 := n3_
    have GE281 := n4_
    have C8 := n5_
    have D1 := n6_
    clear n0_ n1_ n2_ n3_ n4_ n5_ n6_
    clear hb hbox hg
    refine hK.out _ _ ⟨E0, E1, E2, gb281, m8_, (.pointer (some ⟨gb281, 0, none⟩)), (by rw [ha.out]; exact dU 4 hb_ rfl rfl rfl), (rb_ BK270.out), sV, F5, F3, F4, fun _ _ => (rb_ BK281.out), fun _ => G7.out, fun _ => GE281.out, fun _ => C8.out, fun _ => D1.out, fun h0_ => absurd ((hoff 10 (by kernel_rfl)).symm.trans h0_) (by decide), Q_X8_, fun _ => rfl, D6, D7, D8⟩
   refine dM ?_ ?_
   ·rintro b a w' ⟨E0, E1, E2, gb281, m8_, m9_, ha, D0, Q_HB, C4, C5, C6, Q_BK281, D4, D5, B7, C0, C9, Q_X8_, Q_X9_, D6, D7, D8⟩ hb_ hon hoff
    refine ⟨_, rfl, fun K hK => ?_⟩
    have Y2 : a.tmps[10]? = some (m9_) := by rw [ha]; exact eu (e := (9, 10, m9_)) 4 rfl rfl (hon 9 (by kernel_rfl)) rfl
    rw [Q_X9_ (hon 9 (by kernel_rfl))] at Y2
    have Y3 : a.tmps[34]? = some (m8_) := by rw [ha]; exact eu (e := (8, 34, m8_)) 3 rfl rfl (hon 8 (by kernel_rfl)) rfl
    rw [Q_X8_ (hon 8 (by kernel_rfl))] at Y3
    replace ha := a_ ha
    have BK270 := a_ D0
    have HB := a_ Q_HB
    have E8 := a_ (C4 (hon 3 (by kernel_rfl)))
    have E9 := a_ (C5 (hon 5 (by kernel_rfl)))
    have F0 := a_ (C6 (hon 7 (by kernel_rfl)))
    have BK281 := a_ (Q_BK281 (hon 9 (by kernel_rfl)) hb_)
    have G7 := a_ (D4 (hon 9 (by kernel_rfl)))
    have GE281 := a_ (D5 (hon 9 (by kernel_rfl)))
    have C8 := a_ (B7 (hon 9 (by kernel_rfl)))
    have D1 := a_ (C0 (hon 9 (by kernel_rfl)))
    obtain ⟨R9, S0, L1⟩ := Kd.bg F0.out
    (first | subst L1 | (injection L1.symm with f1_ f2_ f3_; clear f2_ L1; subst f1_ f3_))
    obtain ⟨S1, S2, L2⟩ := Kd.bg E9.out
    (first | subst L2 | (injection L2.symm with f1_ f2_ f3_; clear f2_ L2; subst f1_ f3_))
    obtain ⟨S3, S4, L3⟩ := Kd.bg E8.out
    (first | subst L3 | (injection L3.symm with f1_ f2_ f3_; clear f2_ L3; subst f1_ f3_))
    have Y4 : w'.cell? ⟨gb281, 0, none⟩ = some (.int .i64 0) := (aa BK281.out 0).trans rfl
    have hfs27 := bi BK281.out 0
    have O0 := C8.out
    have hms27_0 := D1.out
    have Y5 : w'.cell? ⟨gb281, 1, none⟩ = some (.int .i64 0) := (aa BK281.out 1).trans rfl
    have hfs28 := bi BK281.out 1
    have O1 := C8.out
    have hms28_0 := D1.out
    have Y6 : w'.cell? ⟨gb281, 2, none⟩ = some (.slice none 0 0) := (aa BK281.out 2).trans rfl
    have hfs29 := bi BK281.out 2
    have O2 := C8.out
    have hms29_0 := D1.out
    have Y7 : w'.cell? ⟨gb281, 3, none⟩ = some (.slice none 0 0) := (aa BK281.out 3).trans rfl
    have hfs30 := bi BK281.out 3
    have O3 := C8.out
    have hms30_0 := D1.out
    have Y8 : w'.cell? ⟨gb281, 4, none⟩ = some (.slice none 0 0) := (aa BK281.out 4).trans rfl
    have hfs31 := bi BK281.out 4
    have O4 := C8.out
    have hms31_0 := D1.out
    refine lD (w1 := ?_) (by rfl) rfl ?_ ?_
    rotate_left
    ·go_simp
     rfl
    refine hK.out _ _ ⟨.slice S3 F2.length S4, .slice S1 F6.length S2, .slice R9 F7.length S0, gb281, m8_, m9_, (by rw [ha.out]; exact lg (v := undef) rfl), (gB (h := by exact lw C8.out BK270.out)), sV, fun _ => (rc_ (h := by exact Kd.ae (bU E8.out BK281.out) (fun _ _ => trivial))), fun _ => (rc_ (h := by exact Kd.ae (bU E9.out BK281.out) (fun _ _ => trivial))), fun _ => (rc_ (h := by exact Kd.ae (bU F0.out BK281.out) (fun _ _ => trivial))), fun _ h1_ => absurd ((kY b 10).symm.trans h1_) (by decide), fun _ => G7.out, fun _ => GE281.out, fun _ => C8.out, fun _ => D1.out, fun _ => (gB (h := by exact gK BK281.out)), Q_X8_, Q_X9_, D6, D7, D8⟩
   exact mO
  rintro b a S5 hall ⟨E0, E1, E2, gb281, m8_, m9_, ha, D0, Q_HB, C4, C5, C6, Q_BK281, D4, D5, B7, C0, C9, Q_X8_, Q_X9_, D6, D7, D8⟩
  clear BK270 HB
  have hb3_ := hall 3 (by kernel_rfl)
  have hb5_ := hall 5 (by kernel_rfl)
  have hb7_ := hall 7 (by kernel_rfl)
  have hb8_ := hall 8 (by kernel_rfl)
  have hb9_ := hall 9 (by kernel_rfl)
  have hb10_ := hall 10 (by kernel_rfl)
  subst ha
  obtain rfl := Q_X8_ hb8_
  obtain rfl := Q_X9_ hb9_
  simp only [gI, hb3_, hb5_, hb7_, hb8_, hb9_, hb10_, if_true, Act.put, List.setIfInBounds_toArray, List.set_cons_zero, List.set_cons_succ]
  have BK270 := a_ D0
  clear D0
  have HB := a_ Q_HB
  clear Q_HB
  have E8 := a_ (show Kd.R (Kd.int .i64) 2 S5 w.heap.size (fun k_ => some k_ ≠ (E1 : Value).ownBlock ∧ some k_ ≠ (E2 : Value).ownBlock) E0 F2 from Kd.iJ (Kd.fF (C4 hb3_)) (fun k_ hk_ => ⟨fun e_ => D6 hb3_ hb5_ k_ hk_ e_.symm, fun e_ => D7 hb3_ hb7_ k_ hk_ e_.symm⟩))
  have E9 := a_ (show Kd.R (Kd.int .i64) 2 S5 w.heap.size (fun k_ => some k_ ≠ (E0 : Value).ownBlock ∧ some k_ ≠ (E2 : Value).ownBlock) E1 F6 from Kd.iJ (Kd.fF (C5 hb5_)) (fun k_ hk_ => ⟨fun e_ => D6 hb3_ hb5_ k_ e_.symm hk_, fun e_ => D8 hb5_ hb7_ k_ hk_ e_.symm⟩))
  have F0 := a_ (show Kd.R (Kd.int .i64) 2 S5 w.heap.size (fun k_ => some k_ ≠ (E0 : Value).ownBlock ∧ some k_ ≠ (E1 : Value).ownBlock) E2 F7 from Kd.iJ (Kd.fF (C6 hb7_)) (fun k_ hk_ => ⟨fun e_ => D7 hb3_ hb7_ k_ e_.symm hk_, fun e_ => D8 hb5_ hb7_ k_ e_.symm hk_⟩))
  clear Q_BK281
  have G7 := a_ (D4 hb9_)
  clear D4
  have GE281 := a_ (D5 hb9_)
  clear D5
  have C8 := a_ (B7 hb9_)
  clear B7
  have D1 := a_ (C0 hb9_)
  clear C0
  have BK281 := a_ (C9 hb10_)
  clear C9
  clear D6 D7 D8 C4 C5 C6
  clear hall hb3_ hb5_ hb7_ hb8_ hb9_ hb10_
  obtain ⟨S6, S7, L4⟩ := Kd.bg F0.out
  (first | subst L4 | (injection L4.symm with f1_ f2_ f3_; clear f2_ L4; subst f1_ f3_))
  obtain ⟨S8, S9, L5⟩ := Kd.bg E9.out
  (first | subst L5 | (injection L5.symm with f1_ f2_ f3_; clear f2_ L5; subst f1_ f3_))
  obtain ⟨T0, T3, L6⟩ := Kd.bg E8.out
  (first | subst L6 | (injection L6.symm with f1_ f2_ f3_; clear f2_ L6; subst f1_ f3_))
  try go_wp2_with (first | ((with_reducible refine av (f := 44) rfl ?_); refine bJ (some 38) rfl rfl Tryz.func44 (by kernel_rfl) rfl #[.int .i64 a0, .int .i64 a1, .string a2] rfl dN ?_; (with_reducible refine (ax.calls k a0 a1 a2 A5 _ A9.out).mono ?_); rintro e a9 ⟨Y9, rfl, ho0, hb⟩; refine ⟨_, rfl, ?_⟩; replace E8 := rl_ E8 hb; replace E9 := rl_ E9 hb; replace F0 := rl_ F0 hb; have K9 := a_ (Kd.bE ho0 (ai sV)); replace BK270 := bb_ C3 BK270 hb; replace BK281 := bb_ gb281 BK281 hb; replace HB := cK sV hb; (try clear hb); (try clear ho0); obtain ⟨T4, G8, T7⟩ := Kd.bg K9.out; subst T7))
  go_loopg [40] k (fun kq v40 w' => ∃ (A1 : Int) (A7 : List Int) (B0 : List Int) (B4 : List Int) (E3 : Value) (C2 : Value) (B3 : Value), v40 = .int .i64 A1 ∧ af (ah.l0 kq a0 A5 (A5.length : Int) A1 a0 a1 A7 B0 B4 = some (r1, r2, r3, r4, r5, r6)) ∧ af (kq ≤ k) ∧ af (Kd.R k64 64 w' w.heap.size (fun _ => True) (.slice T4 A5.length G8) A5) ∧ af (Kd.R (Kd.int .i64) 2 w' w.heap.size (fun k_ => some k_ ≠ (C2 : Value).ownBlock ∧ some k_ ≠ (B3 : Value).ownBlock) E3 A7) ∧ af (Kd.R (Kd.int .i64) 2 w' w.heap.size (fun k_ => some k_ ≠ (E3 : Value).ownBlock ∧ some k_ ≠ (B3 : Value).ownBlock) C2 B0) ∧ af (Kd.R (Kd.int .i64) 2 w' w.heap.size (fun k_ => some k_ ≠ (E3 : Value).ownBlock ∧ some k_ ≠ (C2 : Value).ownBlock) B3 B4) ∧ af (w'.heap[C3]? = some (.cells #[.int .i64 0, .int .i64 0, (.slice none 0 0), (.slice none 0 0), (.slice none 0 0)] 28 (0, 0))) ∧ af (w'.heap[gb281]? = some (.cells #[.int .i64 a0, .int .i64 a1, E3, C2, B3] 28 (0, 0))) ∧ af (Below w.heap.size w w'))
  case atStart => exact ⟨(0), (F2), (F6), (F7), (.slice T0 F2.length T3), (.slice S8 F6.length S9), (.slice S6 F7.length S7), cz, H', ⟨Nat.le_refl _⟩, ⟨by (with_reducible repeat (first | apply Kd.aC | apply Kd.aA | apply Kd.ay)); exact K9.out⟩, ⟨by (with_reducible repeat (first | apply Kd.aC | apply Kd.aA | apply Kd.ay)); exact E8.out⟩, ⟨by (with_reducible repeat (first | apply Kd.aC | apply Kd.aA | apply Kd.ay)); exact E9.out⟩, ⟨by (with_reducible repeat (first | apply Kd.aC | apply Kd.aA | apply Kd.ay)); exact F0.out⟩, ⟨Al⟩, ⟨AU⟩, ⟨sV⟩⟩
  case round =>
   clear H'
   try clear M1; try clear M2; try clear R5; try clear R6; try clear R7; try clear R8
   obtain ⟨A1, A7, B0, B4, E3, C2, B3, rfl, HA, HK1, C7, A2, A3, A6, BK270, BK281, HB⟩ := hrel
   cases gk with
   | zero => exact absurd HA.out (by simp [ah.l0])
   | succ k1 =>
    have H := HA.out
    clear HA
    simp only [ah.l0] at H
    by_cases c34 : A1 < (A5.length : Int)
    ·rw [if_pos c34] at H
     have L0 := decide_eq_true c34
     clear c34
     replace H := ig_ H; obtain ⟨c35, H⟩ := H
     have M4 := decide_eq_true c35
     clear c35
     replace H := ig_ H; obtain ⟨c36, H⟩ := H
     have M5 := decide_eq_true c36
     clear c36
     replace H := bo_ H; obtain ⟨M6, Z0, H⟩ := H; (try dsimp only at H)
     have L7 := a_ H
     clear H
     have I9 : 0 ≤ (A1 : Int) := of_decide_eq_true aX
     have J0 : A1 < (A5.length : Int) := of_decide_eq_true aX
     obtain ⟨G4, U0, J1, J2, J3, J4⟩ := qP (Kd.aI C7.out).2.2 A1 I9 J0
     cases U0
     replace I9 := eq_true I9
     replace J0 := eq_true J0
     go_upto_if 52 with (first | ((with_reducible refine bn (N := 12) rfl ?_); refine bG ?hg (N := 12) ?hd (cs := #[.int .i64 0, .int .i64 0, .bool false, .bool false]) (t := 64) ?hr ?_; (case hd => rfl); (case hg => rfl); (case hr => first | (go_simp; done) | (go_simp; rfl)); intro C1 hg Z1 hbox hb; replace C7 := a_ (Kd.dF (Kd.kC (ra_ C7.out) C1 (Nat.le_of_eq hg.symm)) hb); replace A2 := rl_ A2 hb; replace A3 := rl_ A3 hb; replace A6 := rl_ A6 hb; have A8 := a_ (hbox); have X4 := a_ ((by rw [hg]; exact (ai sV) : w.heap.size ≤ C1)); have GE286 := a_ ((by rw [hg]; exact (ai sV) : w.heap.size ≤ C1)); replace HB := cK sV hb; have G2 := a_ ((by rw [hg]; exact Nat.ne_of_lt (dI (g := C3) (rb_ BK270.out)) : C3 ≠ C1)); have G9 := a_ ((by rw [hg]; exact Nat.ne_of_gt (dI (g := C3) (rb_ BK270.out)) : C1 ≠ C3)); replace BK270 := bb_ C3 BK270 hb; have G3 := a_ ((by rw [hg]; exact Nat.ne_of_lt (dI (g := gb281) (rb_ BK281.out)) : gb281 ≠ C1)); have H0 := a_ ((by rw [hg]; exact Nat.ne_of_gt (dI (g := gb281) (rb_ BK281.out)) : C1 ≠ gb281)); replace BK281 := bb_ gb281 BK281 hb; clear hb hbox hg; have hnb40 := G9.out; have hnc40 := G2.out; have hnb41 := H0.out; have hnc41 := G3.out; obtain ⟨J5, J6, J7, J8, J9, K0, K1, K2⟩ := rq (w := Z1) A8.out) | ((with_reducible refine av (f := 45) rfl ?_); refine bJ (some 52) rfl rfl Tryz.func45 (by kernel_rfl) rfl #[.agg #[.int .i64 ((ag A5 A1).f0), .int .i64 ((ag A5 A1).f1), .bool ((ag A5 A1).f2), .bool ((ag A5 A1).f3)]] rfl dN ?_; (with_reducible refine (gu.calls ((ag A5 A1).f0) ((ag A5 A1).f1) ((ag A5 A1).f2) ((ag A5 A1).f3) M6 _ Z0.out).mono ?_); rintro e b0 ⟨rfl, hb⟩; refine ⟨_, rfl, ?_⟩; replace C7 := a_ (Kd.dF (rc_ (h := by exact Kd.ae (Kd.dW (p := ⟨C1, 3, none⟩) (Kd.dW (p := ⟨C1, 2, none⟩) (Kd.dW (p := ⟨C1, 1, none⟩) (Kd.dW (p := ⟨C1, 0, none⟩) (Kd.ae C7.out (fun k_ hk => (⟨hk, hk.2⟩ : _ ∧ k_ ≠ C1))) (fun _ hk => hk.2) (.int .i64 ((ag A5 A1).f0))) (fun _ hk => hk.2) (.int .i64 ((ag A5 A1).f1))) (fun _ hk => hk.2) (.bool ((ag A5 A1).f2))) (fun _ hk => hk.2) (.bool ((ag A5 A1).f3))) (fun _ h_ => h_.1))) hb); replace A2 := a_ (Kd.dF (rc_ (h := by exact Kd.ae (ui A2.out A8.out) (fun _ h_ => h_.1))) hb); replace A3 := a_ (Kd.dF (rc_ (h := by exact Kd.ae (ui A3.out A8.out) (fun _ h_ => h_.1))) hb); replace A6 := a_ (Kd.dF (rc_ (h := by exact Kd.ae (ui A6.out A8.out) (fun _ h_ => h_.1))) hb); replace BK270 := a_ (dL (g := C3) (o := .cells #[.int .i64 0, .int .i64 0, .slice none 0 0, .slice none 0 0, .slice none 0 0] 28 (0, 0)) (gB (h := by exact wH G2.out BK270.out)) hb); replace BK281 := a_ (dL (g := gb281) (o := .cells #[.int .i64 a0, .int .i64 a1, E3, C2, B3] 28 (0, 0)) (gB (h := by exact wH G3.out BK281.out)) hb); replace A8 := a_ (dL (g := C1) (o := .cells #[.int .i64 ((ag A5 A1).f0), .int .i64 ((ag A5 A1).f1), .bool ((ag A5 A1).f2), .bool ((ag A5 A1).f3)] 64 (0, 0)) (gB (h := by exact qR A8.out)) hb); replace HB := cK yc hb; (try clear hb); (try clear hk)))
     (try simp only [Act.put, List.setIfInBounds_toArray, List.set_cons_zero, List.set_cons_succ])
     go_cut [13, 14] (fun v13 v14 wc => ∃ (kq : Nat) (D3 : Int) (D2 : Int), v13 = .int .i64 D3 ∧ v14 = .int .i64 D2 ∧ af (ah.j1 kq a0 D3 D2 A5 (A5.length : Int) A1 a0 a1 A7 B0 B4 ((ag A5 A1).f0) ((ag A5 A1).f1) ((ag A5 A1).f2) ((ag A5 A1).f3) = some (r1, r2, r3, r4, r5, r6)) ∧ af (kq ≤ k1) ∧ af (Kd.R k64 64 wc w.heap.size (fun k_ => k_ ≠ C1) (.slice (some G4) A5.length G8) A5) ∧ af (Kd.R (Kd.int .i64) 2 wc w.heap.size (fun k_ => some k_ ≠ (C2 : Value).ownBlock ∧ some k_ ≠ (B3 : Value).ownBlock) E3 A7) ∧ af (Kd.R (Kd.int .i64) 2 wc w.heap.size (fun k_ => some k_ ≠ (E3 : Value).ownBlock ∧ some k_ ≠ (B3 : Value).ownBlock) C2 B0) ∧ af (Kd.R (Kd.int .i64) 2 wc w.heap.size (fun k_ => some k_ ≠ (E3 : Value).ownBlock ∧ some k_ ≠ (C2 : Value).ownBlock) B3 B4) ∧ af (wc.heap[C3]? = some (.cells #[.int .i64 0, .int .i64 0, (.slice none 0 0), (.slice none 0 0), (.slice none 0 0)] 28 (0, 0))) ∧ af (wc.heap[gb281]? = some (.cells #[.int .i64 a0, .int .i64 a1, E3, C2, B3] 28 (0, 0))) ∧ af (wc.heap[C1]? = some (.cells #[.int .i64 ((ag A5 A1).f0), .int .i64 ((ag A5 A1).f1), .bool ((ag A5 A1).f2), .bool ((ag A5 A1).f3)] 64 (0, 0))) ∧ af (Below w.heap.size w wc))
     case first =>
      have H := L7.out
      clear L7
      by_cases c44 : M6 = true
      ·subst c44
       have H1 : (ah.j1 k1 a0 (wrap64 ((wrap64 (2 * A1)) + 2)) (wrap64 ((wrap64 (2 * A1)) + 1)) A5 (A5.length : Int) A1 a0 a1 A7 B0 B4 ((ag A5 A1).f0) ((ag A5 A1).f1) ((ag A5 A1).f2) ((ag A5 A1).f3)) = some (r1, r2, r3, r4, r5, r6) := by rw [if_pos rfl] at H; exact H
       clear H
       have H := H1
       clear H1
       have H' := a_ H
       clear H
       go_wp2
       go_meet
       case rel => exact ⟨_, (wrap64 ((wrap64 (2 * A1)) + 2)), (wrap64 ((wrap64 (2 * A1)) + 1)), cz, cz, H', ⟨nC⟩, ⟨by (with_reducible repeat (first | apply Kd.aC | apply Kd.aA | apply Kd.ay)); exact Kd.ae C7.out (fun _ hk => hk.2)⟩, ⟨by (with_reducible repeat (first | apply Kd.aC | apply Kd.aA | apply Kd.ay)); exact A2.out⟩, ⟨by (with_reducible repeat (first | apply Kd.aC | apply Kd.aA | apply Kd.ay)); exact A3.out⟩, ⟨by (with_reducible repeat (first | apply Kd.aC | apply Kd.aA | apply Kd.ay)); exact A6.out⟩, ⟨Al⟩, ⟨AU⟩, ⟨by (with_reducible repeat (first | refine bO ?_ _ | refine bv ?_ | refine bN ?_ _)); exact A8.out⟩, ⟨yc⟩⟩
      ·replace c44 := Bool.eq_false_iff.mpr c44
       subst c44
       have H1 : (ah.j1 k1 a0 (wrap64 ((wrap64 (2 * A1)) + 1)) (wrap64 ((wrap64 (2 * A1)) + 2)) A5 (A5.length : Int) A1 a0 a1 A7 B0 B4 ((ag A5 A1).f0) ((ag A5 A1).f1) ((ag A5 A1).f2) ((ag A5 A1).f3)) = some (r1, r2, r3, r4, r5, r6) := by rw [if_neg (show ¬ (false = true) by decide)] at H; exact H
       clear H
       have H := H1
       clear H1
       have H' := a_ H
       clear H
       go_wp2
       go_meet
       case rel => exact ⟨_, (wrap64 ((wrap64 (2 * A1)) + 1)), (wrap64 ((wrap64 (2 * A1)) + 2)), cz, cz, H', ⟨nC⟩, ⟨by (with_reducible repeat (first | apply Kd.aC | apply Kd.aA | apply Kd.ay)); exact Kd.ae C7.out (fun _ hk => hk.2)⟩, ⟨by (with_reducible repeat (first | apply Kd.aC | apply Kd.aA | apply Kd.ay)); exact A2.out⟩, ⟨by (with_reducible repeat (first | apply Kd.aC | apply Kd.aA | apply Kd.ay)); exact A3.out⟩, ⟨by (with_reducible repeat (first | apply Kd.aC | apply Kd.aA | apply Kd.ay)); exact A6.out⟩, ⟨Al⟩, ⟨AU⟩, ⟨by (with_reducible repeat (first | refine bO ?_ _ | refine bv ?_ | refine bN ?_ _)); exact A8.out⟩, ⟨yc⟩⟩
     case rest =>
      clear L7; try clear L0; try clear M4; try clear M5; try clear J5 J6 J7 J8; try clear J9 K0 K1 K2; try clear J1; try clear J2; try clear J3; try clear J4; try clear I9; try clear J0
      obtain ⟨kq, D3, D2, rfl, rfl, HA, M7, C7, A2, A3, A6, BK270, BK281, A8, HB⟩ := hcut
      cases kq with
      | zero => exact absurd HA.out (by simp [ah.j1])
      | succ K3 =>
       have H := HA.out
       clear HA
       simp only [ah.j1] at H
       replace H := bo_ H; obtain ⟨E7, Z2, H⟩ := H; (try dsimp only at H)
       replace H := ig_ H; obtain ⟨c46, H⟩ := H
       have X5 := decide_eq_true c46
       clear c46
       replace H := ig_ H; obtain ⟨c47, H⟩ := H
       have X6 := decide_eq_true c47
       clear c47
       obtain ⟨G5, I5⟩ : ∃ y_ : List Int, y_ = (A7.set (E7 : Int).toNat D3) := ⟨_, rfl⟩
       replace H : ((fM.f a0 ((ag A5 A1).f0) ((ag A5 A1).f1)).bind fun E5 => (if 0 ≤ E5 then (if E5 < (B0.length : Int) then ((eT.f a0 ((ag A5 A1).f0) ((ag A5 A1).f1)).bind fun F1 => ((iL.f ((ag A5 A1).f3)).bind fun G0 => (if 0 ≤ F1 then (if F1 < (B4.length : Int) then (ah.l0 K3 a0 A5 (A5.length : Int) (wrap64 (A1 + 1)) a0 a1 G5 (B0.set (E5 : Int).toNat D2) (B4.set (F1 : Int).toNat G0)) else (none)) else (none)))) else (none)) else (none))) = some (r1, r2, r3, r4, r5, r6) := rh_ I5 H
       have M8 := a_ I5
       clear I5
       replace H := bo_ H; obtain ⟨E5, Z3, H⟩ := H; (try dsimp only at H)
       replace H := ig_ H; obtain ⟨c50, H⟩ := H
       have X7 := decide_eq_true c50
       clear c50
       replace H := ig_ H; obtain ⟨c51, H⟩ := H
       have X8 := decide_eq_true c51
       clear c51
       obtain ⟨I6, I7⟩ : ∃ y_ : List Int, y_ = (B0.set (E5 : Int).toNat D2) := ⟨_, rfl⟩
       replace H : ((eT.f a0 ((ag A5 A1).f0) ((ag A5 A1).f1)).bind fun F1 => ((iL.f ((ag A5 A1).f3)).bind fun G0 => (if 0 ≤ F1 then (if F1 < (B4.length : Int) then (ah.l0 K3 a0 A5 (A5.length : Int) (wrap64 (A1 + 1)) a0 a1 G5 I6 (B4.set (F1 : Int).toNat G0)) else (none)) else (none)))) = some (r1, r2, r3, r4, r5, r6) := rh_ I7 H
       have M9 := a_ I7
       clear I7
       replace H := bo_ H; obtain ⟨F1, Z4, H⟩ := H; (try dsimp only at H)
       replace H := bo_ H; obtain ⟨G0, Z5, H⟩ := H; (try dsimp only at H)
       replace H := ig_ H; obtain ⟨c55, H⟩ := H
       have X9 := decide_eq_true c55
       clear c55
       replace H := ig_ H; obtain ⟨c56, H⟩ := H
       have Y0 := decide_eq_true c56
       clear c56
       obtain ⟨N0, I8⟩ : ∃ y_ : List Int, y_ = (B4.set (F1 : Int).toNat G0) := ⟨_, rfl⟩
       replace H : (ah.l0 K3 a0 A5 (A5.length : Int) (wrap64 (A1 + 1)) a0 a1 G5 I6 N0) = some (r1, r2, r3, r4, r5, r6) := rh_ I8 H
       have N1 := a_ I8
       clear I8
       have H' := a_ H
       clear H
       try go_wp2
       replace C7 := a_ (Kd.ay C7.out)
       replace A2 := a_ (Kd.ay A2.out)
       replace A3 := a_ (Kd.ay A3.out)
       replace A6 := a_ (Kd.ay A6.out)
       replace BK270 := a_ (bv BK270.out)
       replace BK281 := a_ (bv BK281.out)
       replace A8 := a_ (bv A8.out)
       replace HB := a_ (aM HB.out)
       refine gW (n := 11) (S := fun w' => w'.cell? ⟨gb281, 0, none⟩ = some (.int .i64 a0) ∧ w'.cell? ⟨gb281, 1, none⟩ = some (.int .i64 a1) ∧ w'.cell? ⟨gb281, 2, none⟩ = some (E3) ∧ w'.cell? ⟨gb281, 3, none⟩ = some (C2) ∧ w'.cell? ⟨gb281, 4, none⟩ = some (B3) ∧ w'.cell? ⟨C1, 0, none⟩ = some (.int .i64 ((ag A5 A1).f0)) ∧ w'.cell? ⟨C1, 1, none⟩ = some (.int .i64 ((ag A5 A1).f1)) ∧ w'.cell? ⟨C1, 2, none⟩ = some (.bool ((ag A5 A1).f2)) ∧ w'.cell? ⟨C1, 3, none⟩ = some (.bool ((ag A5 A1).f3))) (ds := [10]) #[false, false, false, false, false, false, false, false, false, false, false] (by kernel_rfl) rfl rfl ⟨(aa BK281.out 0).trans rfl, (aa BK281.out 1).trans rfl, (aa BK281.out 2).trans rfl, (aa BK281.out 3).trans rfl, (aa BK281.out 4).trans rfl, (aa A8.out 0).trans rfl, (aa A8.out 1).trans rfl, (aa A8.out 2).trans rfl, (aa A8.out 3).trans rfl⟩ (fun hHeld => ?_); refine fq ah.zh ah.vS (fun HT_ HW_ => ?_)
       generalize wc.drew = K4 at C7 A2 A3 A6 BK270 BK281 A8 HB hHeld ⊢
       refine pv_ 0 (some 55) ?_
       refine pv_ 2 (some 57) ?_
       refine pv_ 3 (some 58) ?_
       refine pv_ 5 (some 60) ?_
       refine pv_ 8 (some 63) ?_
       refine qZ (i := 1) (N := some 56) hHeld ?_
       refine qZ (i := 4) (N := some 59) hHeld ?_
       refine qZ (i := 6) (N := some 61) hHeld ?_
       refine on_ (i := 7) (N := some 62) (fun K hK => ?_)
       refine iQ Tryz.func46 (by kernel_rfl) rfl #[.int .i64 a0, .int .i64 ((ag A5 A1).f0), .int .i64 ((ag A5 A1).f1)] (by rfl) rfl rfl dN ?_
       with_reducible refine (eT.calls a0 ((ag A5 A1).f0) ((ag A5 A1).f1) E7 _ Z2.out).mono ?_
       rintro e w' ⟨rfl, ⟨nd, rfl⟩⟩
       refine ⟨_, rfl, ?_⟩
       have U1 : 0 ≤ (E7 : Int) := of_decide_eq_true aX
       have U2 : (E7 : Int) < ((A7.length : Int) : Int) := of_decide_eq_true aX
       obtain ⟨D9, E6, N2, N3, gl48, cl48, HG48⟩ := Kd.jY A2.out (by omega)
       (first | cases N2 | (injection N2 with ea_ en_ ec_; (first | subst ea_ | (injection ea_ with ea_; subst ea_)); subst ec_; clear en_))
       have U3 := a_ N3
       have U4 := a_ HG48
       clear N3 gl48 HG48
       obtain ⟨U5, U6⟩ := Kd.iZ 0 A2.out (E7 : Int) U1 U2
       replace U1 := eq_true U1
       replace U2 := eq_true U2
       have L8 := Kd.oO A2.out (E7 : Int) D3
       rw [← M8.out] at L8
       have N4 := a_ L8
       clear L8
       refine hK.out _ _ ⟨(aa BK281.out 0).trans rfl, (aa BK281.out 1).trans rfl, (aa BK281.out 2).trans rfl, (aa BK281.out 3).trans rfl, (aa BK281.out 4).trans rfl, (aa A8.out 0).trans rfl, (aa A8.out 1).trans rfl, (aa A8.out 2).trans rfl, (aa A8.out 3).trans rfl⟩ (fun hHeld => ?_)
       clear hK K
       refine nm_ ?_
       refine pv_ 9 (some 64) ?_
       refine la_ (i := 10) (N := none) (fun K hK => ?_)
       refine lD (w1 := ?_) (by rfl) rfl ?_ ?_
       rotate_left
       ·go_simp
        rfl
       refine hK.out _ _ ?_
       clear hK K
       refine jl (iw HT_.out (by kernel_rfl)) ?_
       try go_wp2
       (try rw [show ∀ (w_ : World) (n_ : Nat) (a_ : Addr) (v_ : Value), (w_.drewN n_).setCell a_ v_ = (w_.setCell a_ v_).drewN n_ from fun _ _ _ _ => rfl])
       have n0_ : af (Kd.R k64 64 (K4.setCell ⟨D9, (E7 : Int).toNat, none⟩ (.int .i64 D3)) w.heap.size (fun k_ => k_ ≠ C1) (.slice (some G4) A5.length G8) A5) := ⟨by (with_reducible repeat (first | apply Kd.aC | apply Kd.aA | apply Kd.ay)); exact Kd.ae (Kd.dW (p := ⟨D9, (E7 : Int).toNat, none⟩) (Kd.dR C7.out U4.out (by decide)) (fun _ hk => hk.2) (.int .i64 D3)) (fun _ hk => hk.1)⟩
       have n1_ : af (Kd.R (Kd.int .i64) 2 (K4.setCell ⟨D9, (E7 : Int).toNat, none⟩ (.int .i64 D3)) w.heap.size (fun k_ => some k_ ≠ (C2 : Value).ownBlock ∧ some k_ ≠ (B3 : Value).ownBlock) (.slice (some ⟨D9, 0, none⟩) A7.length E6) G5) := ⟨by (with_reducible repeat (first | apply Kd.aC | apply Kd.aA | apply Kd.ay)); exact N4.out⟩
       have n2_ : af (Kd.R (Kd.int .i64) 2 (K4.setCell ⟨D9, (E7 : Int).toNat, none⟩ (.int .i64 D3)) w.heap.size (fun k_ => some k_ ≠ (.slice (some ⟨D9, 0, none⟩) A7.length E6 : Value).ownBlock ∧ some k_ ≠ (B3 : Value).ownBlock) C2 B0) := ⟨by (with_reducible repeat (first | apply Kd.aC | apply Kd.aA | apply Kd.ay)); exact Kd.ae (Kd.dW (p := ⟨D9, (E7 : Int).toNat, none⟩) (Kd.ae A3.out (fun k_ hk => (⟨hk, fun e_ => hk.1 iG⟩ : _ ∧ k_ ≠ D9))) (fun _ hk => hk.2) (.int .i64 D3)) (fun _ hk => ⟨hk.1.1, hk.1.2⟩)⟩
       have n3_ : af (Kd.R (Kd.int .i64) 2 (K4.setCell ⟨D9, (E7 : Int).toNat, none⟩ (.int .i64 D3)) w.heap.size (fun k_ => some k_ ≠ (.slice (some ⟨D9, 0, none⟩) A7.length E6 : Value).ownBlock ∧ some k_ ≠ (C2 : Value).ownBlock) B3 B4) := ⟨by (with_reducible repeat (first | apply Kd.aC | apply Kd.aA | apply Kd.ay)); exact Kd.ae (Kd.dW (p := ⟨D9, (E7 : Int).toNat, none⟩) (Kd.ae A6.out (fun k_ hk => (⟨hk, fun e_ => hk.1 iG⟩ : _ ∧ k_ ≠ D9))) (fun _ hk => hk.2) (.int .i64 D3)) (fun _ hk => ⟨hk.1.1, hk.1.2⟩)⟩
       have n4_ : af ((K4.setCell ⟨D9, (E7 : Int).toNat, none⟩ (.int .i64 D3)).heap[C3]? = some (.cells #[.int .i64 0, .int .i64 0, .slice none 0 0, .slice none 0 0, .slice none 0 0] 28 (0, 0))) := ⟨by (with_reducible repeat (first | refine bO ?_ _ | refine bv ?_ | refine bN ?_ _)); refine fK ?_ (by have h_ := Kd.iU A2.out BK270.out (by decide); intro e_; exact h_ iG) _; (with_reducible repeat (first | refine bO ?_ _ | refine bv ?_ | refine bN ?_ _)); exact BK270.out⟩
       have n5_ : af ((K4.setCell ⟨D9, (E7 : Int).toNat, none⟩ (.int .i64 D3)).heap[gb281]? = some (.cells #[.int .i64 a0, .int .i64 a1, .slice (some ⟨D9, 0, none⟩) A7.length E6, C2, B3] 28 (0, 0))) := ⟨by (with_reducible repeat (first | refine bO ?_ _ | refine bv ?_ | refine bN ?_ _)); refine fK ?_ (by have h_ := Kd.iU A2.out BK281.out (by decide); intro e_; exact h_ iG) _; (with_reducible repeat (first | refine bO ?_ _ | refine bv ?_ | refine bN ?_ _)); exact BK281.out⟩
       have n6_ : af ((K4.setCell ⟨D9, (E7 : Int).toNat, none⟩ (.int .i64 D3)).heap[C1]? = some (.cells #[.int .i64 ((ag A5 A1).f0), .int .i64 ((ag A5 A1).f1), .bool ((ag A5 A1).f2), .bool ((ag A5 A1).f3)] 64 (0, 0))) := ⟨by (with_reducible repeat (first | refine bO ?_ _ | refine bv ?_ | refine bN ?_ _)); refine fK ?_ (by have h_ := Kd.iU A2.out A8.out (by decide); intro e_; exact h_ iG) _; (with_reducible repeat (first | refine bO ?_ _ | refine bv ?_ | refine bN ?_ _)); exact A8.out⟩
       have n7_ : af (Below w.heap.size w (K4.setCell ⟨D9, (E7 : Int).toNat, none⟩ (.int .i64 D3))) := ⟨by repeat (first | (with_reducible first | exact HB.out | apply aN | apply aD | apply aM | refine aG ?_ U3.out | refine aG ?_ GE270.out | refine aG ?_ GE281.out | refine aG ?_ GE286.out) | exact HB.out)⟩
       (try clear C7)
       (try clear A2)
       (try clear A3)
       (try clear A6)
       (try clear BK270)
       (try clear BK281)
       (try clear A8)
       (try clear HB)
       generalize (K4.setCell ⟨D9, (E7 : Int).toNat, none⟩ (.int .i64 D3)) = H3 at n0_ n1_ n2_ n3_ n4_ n5_ n6_ n7_ ⊢
       have C7 := n0_
       have A2 := n1_
       have A3 := n2_
       have A6 := n3_
       have BK270 := n4_
       have BK281 := n5_
       have A8 := n6_
       have HB := n7_
       clear n0_ n1_ n2_ n3_ n4_ n5_ n6_ n7_
       (try (rw [jq H3]; generalize hq_ : World.drewN H3 _ = H3; have n0_ : af (Kd.R (Kd.int .i64) 2 H3 w.heap.size (fun k_ => some k_ ≠ (C2 : Value).ownBlock ∧ some k_ ≠ (B3 : Value).ownBlock) (.slice (some ⟨D9, 0, none⟩) A7.length E6) G5) := ⟨by rw [← hq_]; exact (ra_ A2.out)⟩; have n1_ : af (Kd.R (Kd.int .i64) 2 H3 w.heap.size (fun k_ => some k_ ≠ (.slice (some ⟨D9, 0, none⟩) A7.length E6 : Value).ownBlock ∧ some k_ ≠ (B3 : Value).ownBlock) C2 B0) := ⟨by rw [← hq_]; exact (ra_ A3.out)⟩; have n2_ : af (Kd.R (Kd.int .i64) 2 H3 w.heap.size (fun k_ => some k_ ≠ (.slice (some ⟨D9, 0, none⟩) A7.length E6 : Value).ownBlock ∧ some k_ ≠ (C2 : Value).ownBlock) B3 B4) := ⟨by rw [← hq_]; exact (ra_ A6.out)⟩; have n3_ : af (Kd.R k64 64 H3 w.heap.size (fun k_ => k_ ≠ C1) (.slice (some G4) A5.length G8) A5) := ⟨by rw [← hq_]; exact (ra_ C7.out)⟩; have n4_ : af (H3.heap[C3]? = some (.cells #[.int .i64 0, .int .i64 0, .slice none 0 0, .slice none 0 0, .slice none 0 0] 28 (0, 0))) := ⟨by rw [← hq_]; exact (rb_ BK270.out)⟩; have n5_ : af (H3.heap[gb281]? = some (.cells #[.int .i64 a0, .int .i64 a1, .slice (some ⟨D9, 0, none⟩) A7.length E6, C2, B3] 28 (0, 0))) := ⟨by rw [← hq_]; exact (rb_ BK281.out)⟩; have n6_ : af (H3.heap[C1]? = some (.cells #[.int .i64 ((ag A5 A1).f0), .int .i64 ((ag A5 A1).f1), .bool ((ag A5 A1).f2), .bool ((ag A5 A1).f3)] 64 (0, 0))) := ⟨by rw [← hq_]; exact (rb_ A8.out)⟩; have n7_ : af (Below w.heap.size w H3) := ⟨by rw [← hq_]; exact yc⟩; clear A2 A3 A6 C7 BK270 BK281 A8 HB hq_; have A2 := n0_; have A3 := n1_; have A6 := n2_; have C7 := n3_; have BK270 := n4_; have BK281 := n5_; have A8 := n6_; have HB := n7_; clear n0_ n1_ n2_ n3_ n4_ n5_ n6_ n7_))
       replace C7 := a_ (Kd.ay C7.out)
       replace A2 := a_ (Kd.ay A2.out)
       replace A3 := a_ (Kd.ay A3.out)
       replace A6 := a_ (Kd.ay A6.out)
       replace BK270 := a_ (bv BK270.out)
       replace BK281 := a_ (bv BK281.out)
       replace A8 := a_ (bv A8.out)
       replace HB := a_ (aM HB.out)
       refine gW (n := 11) (S := fun w' => w'.cell? ⟨gb281, 0, none⟩ = some (.int .i64 a0) ∧ w'.cell? ⟨gb281, 1, none⟩ = some (.int .i64 a1) ∧ w'.cell? ⟨gb281, 2, none⟩ = some (.slice (some ⟨D9, 0, none⟩) A7.length E6) ∧ w'.cell? ⟨gb281, 3, none⟩ = some (C2) ∧ w'.cell? ⟨gb281, 4, none⟩ = some (B3) ∧ w'.cell? ⟨C1, 0, none⟩ = some (.int .i64 ((ag A5 A1).f0)) ∧ w'.cell? ⟨C1, 1, none⟩ = some (.int .i64 ((ag A5 A1).f1)) ∧ w'.cell? ⟨C1, 2, none⟩ = some (.bool ((ag A5 A1).f2)) ∧ w'.cell? ⟨C1, 3, none⟩ = some (.bool ((ag A5 A1).f3))) (ds := [10]) #[false, false, false, false, false, false, false, false, false, false, false] (by kernel_rfl) rfl rfl ⟨(aa BK281.out 0).trans rfl, (aa BK281.out 1).trans rfl, (aa BK281.out 2).trans rfl, (aa BK281.out 3).trans rfl, (aa BK281.out 4).trans rfl, (aa A8.out 0).trans rfl, (aa A8.out 1).trans rfl, (aa A8.out 2).trans rfl, (aa A8.out 3).trans rfl⟩ (fun hHeld => ?_); refine fq ah.wZ ah.sU (fun HT_ HW_ => ?_)
       generalize H3.drew = K5 at C7 A2 A3 A6 BK270 BK281 A8 HB N4 hHeld ⊢
       refine pv_ 0 (some 65) ?_
       refine pv_ 2 (some 67) ?_
       refine pv_ 3 (some 68) ?_
       refine pv_ 5 (some 70) ?_
       refine pv_ 8 (some 73) ?_
       refine qZ (i := 1) (N := some 66) hHeld ?_
       refine qZ (i := 4) (N := some 69) hHeld ?_
       refine qZ (i := 6) (N := some 71) hHeld ?_
       refine on_ (i := 7) (N := some 72) (fun K hK => ?_)
       refine iQ Tryz.func47 (by kernel_rfl) rfl #[.int .i64 a0, .int .i64 ((ag A5 A1).f0), .int .i64 ((ag A5 A1).f1)] (by rfl) rfl rfl dN ?_
       with_reducible refine (fM.calls a0 ((ag A5 A1).f0) ((ag A5 A1).f1) E5 _ Z3.out).mono ?_
       rintro e w' ⟨rfl, ⟨nd, rfl⟩⟩
       refine ⟨_, rfl, ?_⟩
       have U7 : 0 ≤ (E5 : Int) := of_decide_eq_true aX
       have U8 : (E5 : Int) < ((B0.length : Int) : Int) := of_decide_eq_true aX
       obtain ⟨E4, G1, N5, N6, gl52, cl52, HG52⟩ := Kd.jY A3.out (by omega)
       (first | cases N5 | (injection N5 with ea_ en_ ec_; (first | subst ea_ | (injection ea_ with ea_; subst ea_)); subst ec_; clear en_))
       have U9 := a_ N6
       have V0 := a_ HG52
       clear N6 gl52 HG52
       obtain ⟨V1, V2⟩ := Kd.iZ 0 A3.out (E5 : Int) U7 U8
       replace U7 := eq_true U7
       replace U8 := eq_true U8
       have L9 := Kd.oO A3.out (E5 : Int) D2
       rw [← M9.out] at L9
       have N7 := a_ L9
       clear L9
       refine hK.out _ _ ⟨(aa BK281.out 0).trans rfl, (aa BK281.out 1).trans rfl, (aa BK281.out 2).trans rfl, (aa BK281.out 3).trans rfl, (aa BK281.out 4).trans rfl, (aa A8.out 0).trans rfl, (aa A8.out 1).trans rfl, (aa A8.out 2).trans rfl, (aa A8.out 3).trans rfl⟩ (fun hHeld => ?_)
       clear hK K
       refine nm_ ?_
       refine pv_ 9 (some 74) ?_
       refine la_ (i := 10) (N := none) (fun K hK => ?_)
       refine lD (w1 := ?_) (by rfl) rfl ?_ ?_
       rotate_left
       ·go_simp
        rfl
       refine hK.out _ _ ?_
       clear hK K
       refine jl (iw HT_.out (by kernel_rfl)) ?_
       try go_wp2
       (try rw [show ∀ (w_ : World) (n_ : Nat) (a_ : Addr) (v_ : Value), (w_.drewN n_).setCell a_ v_ = (w_.setCell a_ v_).drewN n_ from fun _ _ _ _ => rfl])
       have n0_ : af (Kd.R k64 64 (K5.setCell ⟨E4, (E5 : Int).toNat, none⟩ (.int .i64 D2)) w.heap.size (fun k_ => k_ ≠ C1) (.slice (some G4) A5.length G8) A5) := ⟨by (with_reducible repeat (first | apply Kd.aC | apply Kd.aA | apply Kd.ay)); exact Kd.ae (Kd.dW (p := ⟨E4, (E5 : Int).toNat, none⟩) (Kd.dR C7.out V0.out (by decide)) (fun _ hk => hk.2) (.int .i64 D2)) (fun _ hk => hk.1)⟩
       have n1_ : af (Kd.R (Kd.int .i64) 2 (K5.setCell ⟨E4, (E5 : Int).toNat, none⟩ (.int .i64 D2)) w.heap.size (fun k_ => some k_ ≠ (.slice (some ⟨E4, 0, none⟩) B0.length G1 : Value).ownBlock ∧ some k_ ≠ (B3 : Value).ownBlock) (.slice (some ⟨D9, 0, none⟩) A7.length E6) G5) := ⟨by (with_reducible repeat (first | apply Kd.aC | apply Kd.aA | apply Kd.ay)); exact Kd.ae (Kd.dW (p := ⟨E4, (E5 : Int).toNat, none⟩) (Kd.ae A2.out (fun k_ hk => (⟨hk, fun e_ => hk.1 iG⟩ : _ ∧ k_ ≠ E4))) (fun _ hk => hk.2) (.int .i64 D2)) (fun _ hk => ⟨hk.1.1, hk.1.2⟩)⟩
       have n2_ : af (Kd.R (Kd.int .i64) 2 (K5.setCell ⟨E4, (E5 : Int).toNat, none⟩ (.int .i64 D2)) w.heap.size (fun k_ => some k_ ≠ (.slice (some ⟨D9, 0, none⟩) A7.length E6 : Value).ownBlock ∧ some k_ ≠ (B3 : Value).ownBlock) (.slice (some ⟨E4, 0, none⟩) B0.length G1) I6) := ⟨by (with_reducible repeat (first | apply Kd.aC | apply Kd.aA | apply Kd.ay)); exact N7.out⟩
       have n3_ : af (Kd.R (Kd.int .i64) 2 (K5.setCell ⟨E4, (E5 : Int).toNat, none⟩ (.int .i64 D2)) w.heap.size (fun k_ => some k_ ≠ (.slice (some ⟨D9, 0, none⟩) A7.length E6 : Value).ownBlock ∧ some k_ ≠ (.slice (some ⟨E4, 0, none⟩) B0.length G1 : Value).ownBlock) B3 B4) := ⟨by (with_reducible repeat (first | apply Kd.aC | apply Kd.aA | apply Kd.ay)); exact Kd.ae (Kd.dW (p := ⟨E4, (E5 : Int).toNat, none⟩) (Kd.ae A6.out (fun k_ hk => (⟨hk, fun e_ => hk.2 iG⟩ : _ ∧ k_ ≠ E4))) (fun _ hk => hk.2) (.int .i64 D2)) (fun _ hk => ⟨hk.1.1, hk.1.2⟩)⟩
       have n4_ : af ((K5.setCell ⟨E4, (E5 : Int).toNat, none⟩ (.int .i64 D2)).heap[C3]? = some (.cells #[.int .i64 0, .int .i64 0, .slice none 0 0, .slice none 0 0, .slice none 0 0] 28 (0, 0))) := ⟨by (with_reducible repeat (first | refine bO ?_ _ | refine bv ?_ | refine bN ?_ _)); refine fK ?_ (by have h_ := Kd.iU A3.out BK270.out (by decide); intro e_; exact h_ iG) _; (with_reducible repeat (first | refine bO ?_ _ | refine bv ?_ | refine bN ?_ _)); exact BK270.out⟩
       have n5_ : af ((K5.setCell ⟨E4, (E5 : Int).toNat, none⟩ (.int .i64 D2)).heap[gb281]? = some (.cells #[.int .i64 a0, .int .i64 a1, .slice (some ⟨D9, 0, none⟩) A7.length E6, .slice (some ⟨E4, 0, none⟩) B0.length G1, B3] 28 (0, 0))) := ⟨by (with_reducible repeat (first | refine bO ?_ _ | refine bv ?_ | refine bN ?_ _)); refine fK ?_ (by have h_ := Kd.iU A3.out BK281.out (by decide); intro e_; exact h_ iG) _; (with_reducible repeat (first | refine bO ?_ _ | refine bv ?_ | refine bN ?_ _)); exact BK281.out⟩
       have n6_ : af ((K5.setCell ⟨E4, (E5 : Int).toNat, none⟩ (.int .i64 D2)).heap[C1]? = some (.cells #[.int .i64 ((ag A5 A1).f0), .int .i64 ((ag A5 A1).f1), .bool ((ag A5 A1).f2), .bool ((ag A5 A1).f3)] 64 (0, 0))) := ⟨by (with_reducible repeat (first | refine bO ?_ _ | refine bv ?_ | refine bN ?_ _)); refine fK ?_ (by have h_ := Kd.iU A3.out A8.out (by decide); intro e_; exact h_ iG) _; (with_reducible repeat (first | refine bO ?_ _ | refine bv ?_ | refine bN ?_ _)); exact A8.out⟩
       have n7_ : af (Below w.heap.size w (K5.setCell ⟨E4, (E5 : Int).toNat, none⟩ (.int .i64 D2))) := ⟨by repeat (first | (with_reducible first | exact HB.out | apply aN | apply aD | apply aM | refine aG ?_ U9.out | refine aG ?_ GE270.out | refine aG ?_ GE281.out | refine aG ?_ GE286.out) | exact HB.out)⟩
       (try clear C7)
       (try clear A2)
       (try clear A3)
       (try clear A6)
       (try clear BK270)
       (try clear BK281)
       (try clear A8)
       (try clear HB)
       generalize (K5.setCell ⟨E4, (E5 : Int).toNat, none⟩ (.int .i64 D2)) = H4 at n0_ n1_ n2_ n3_ n4_ n5_ n6_ n7_ ⊢
       have C7 := n0_
       have A2 := n1_
       have A3 := n2_
       have A6 := n3_
       have BK270 := n4_
       have BK281 := n5_
       have A8 := n6_
       have HB := n7_
       clear n0_ n1_ n2_ n3_ n4_ n5_ n6_ n7_
       (try (rw [jq H4]; generalize hq_ : World.drewN H4 _ = H4; have n0_ : af (Kd.R (Kd.int .i64) 2 H4 w.heap.size (fun k_ => some k_ ≠ (.slice (some ⟨E4, 0, none⟩) B0.length G1 : Value).ownBlock ∧ some k_ ≠ (B3 : Value).ownBlock) (.slice (some ⟨D9, 0, none⟩) A7.length E6) G5) := ⟨by rw [← hq_]; exact (ra_ A2.out)⟩; have n1_ : af (Kd.R (Kd.int .i64) 2 H4 w.heap.size (fun k_ => some k_ ≠ (.slice (some ⟨D9, 0, none⟩) A7.length E6 : Value).ownBlock ∧ some k_ ≠ (B3 : Value).ownBlock) (.slice (some ⟨E4, 0, none⟩) B0.length G1) I6) := ⟨by rw [← hq_]; exact (ra_ A3.out)⟩; have n2_ : af (Kd.R (Kd.int .i64) 2 H4 w.heap.size (fun k_ => some k_ ≠ (.slice (some ⟨D9, 0, none⟩) A7.length E6 : Value).ownBlock ∧ some k_ ≠ (.slice (some ⟨E4, 0, none⟩) B0.length G1 : Value).ownBlock) B3 B4) := ⟨by rw [← hq_]; exact (ra_ A6.out)⟩; have n3_ : af (Kd.R k64 64 H4 w.heap.size (fun k_ => k_ ≠ C1) (.slice (some G4) A5.length G8) A5) := ⟨by rw [← hq_]; exact (ra_ C7.out)⟩; have n4_ : af (H4.heap[C3]? = some (.cells #[.int .i64 0, .int .i64 0, .slice none 0 0, .slice none 0 0, .slice none 0 0] 28 (0, 0))) := ⟨by rw [← hq_]; exact (rb_ BK270.out)⟩; have n5_ : af (H4.heap[gb281]? = some (.cells #[.int .i64 a0, .int .i64 a1, .slice (some ⟨D9, 0, none⟩) A7.length E6, .slice (some ⟨E4, 0, none⟩) B0.length G1, B3] 28 (0, 0))) := ⟨by rw [← hq_]; exact (rb_ BK281.out)⟩; have n6_ : af (H4.heap[C1]? = some (.cells #[.int .i64 ((ag A5 A1).f0), .int .i64 ((ag A5 A1).f1), .bool ((ag A5 A1).f2), .bool ((ag A5 A1).f3)] 64 (0, 0))) := ⟨by rw [← hq_]; exact (rb_ A8.out)⟩; have n7_ : af (Below w.heap.size w H4) := ⟨by rw [← hq_]; exact yc⟩; clear A2 A3 A6 C7 BK270 BK281 A8 HB hq_; have A2 := n0_; have A3 := n1_; have A6 := n2_; have C7 := n3_; have BK270 := n4_; have BK281 := n5_; have A8 := n6_; have HB := n7_; clear n0_ n1_ n2_ n3_ n4_ n5_ n6_ n7_))
       replace C7 := a_ (Kd.ay C7.out)
       replace A2 := a_ (Kd.ay A2.out)
       replace A3 := a_ (Kd.ay A3.out)
       replace A6 := a_ (Kd.ay A6.out)
       replace BK270 := a_ (bv BK270.out)
       replace BK281 := a_ (bv BK281.out)
       replace A8 := a_ (bv A8.out)
       replace HB := a_ (aM HB.out)
       refine gW (n := 13) (S := fun w' => w'.cell? ⟨gb281, 0, none⟩ = some (.int .i64 a0) ∧ w'.cell? ⟨gb281, 1, none⟩ = some (.int .i64 a1) ∧ w'.cell? ⟨gb281, 2, none⟩ = some (.slice (some ⟨D9, 0, none⟩) A7.length E6) ∧ w'.cell? ⟨gb281, 3, none⟩ = some (.slice (some ⟨E4, 0, none⟩) B0.length G1) ∧ w'.cell? ⟨gb281, 4, none⟩ = some (B3) ∧ w'.cell? ⟨C1, 0, none⟩ = some (.int .i64 ((ag A5 A1).f0)) ∧ w'.cell? ⟨C1, 1, none⟩ = some (.int .i64 ((ag A5 A1).f1)) ∧ w'.cell? ⟨C1, 2, none⟩ = some (.bool ((ag A5 A1).f2)) ∧ w'.cell? ⟨C1, 3, none⟩ = some (.bool ((ag A5 A1).f3))) (ds := [12]) #[false, false, false, false, false, false, false, false, false, false, false, false, false] (by kernel_rfl) rfl rfl ⟨(aa BK281.out 0).trans rfl, (aa BK281.out 1).trans rfl, (aa BK281.out 2).trans rfl, (aa BK281.out 3).trans rfl, (aa BK281.out 4).trans rfl, (aa A8.out 0).trans rfl, (aa A8.out 1).trans rfl, (aa A8.out 2).trans rfl, (aa A8.out 3).trans rfl⟩ (fun hHeld => ?_); refine fq ah.yP ah.wC (fun HT_ HW_ => ?_)
       generalize H4.drew = b1 at C7 A2 A3 A6 BK270 BK281 A8 HB N7 hHeld ⊢
       refine pv_ 0 (some 75) ?_
       refine pv_ 2 (some 77) ?_
       refine pv_ 3 (some 78) ?_
       refine pv_ 5 (some 80) ?_
       refine pv_ 8 (some 83) ?_
       refine qZ (i := 1) (N := some 76) hHeld ?_
       refine qZ (i := 4) (N := some 79) hHeld ?_
       refine qZ (i := 6) (N := some 81) hHeld ?_
       refine qZ (i := 9) (N := some 84) hHeld ?_
       refine on_ (i := 7) (N := some 82) (fun K hK => ?_)
       refine iQ Tryz.func46 (by kernel_rfl) rfl #[.int .i64 a0, .int .i64 ((ag A5 A1).f0), .int .i64 ((ag A5 A1).f1)] (by rfl) rfl rfl dN ?_
       with_reducible refine (eT.calls a0 ((ag A5 A1).f0) ((ag A5 A1).f1) F1 _ Z4.out).mono ?_
       rintro e w' ⟨rfl, ⟨nd, rfl⟩⟩
       refine ⟨_, rfl, ?_⟩
       refine hK.out _ _ ⟨(aa BK281.out 0).trans rfl, (aa BK281.out 1).trans rfl, (aa BK281.out 2).trans rfl, (aa BK281.out 3).trans rfl, (aa BK281.out 4).trans rfl, (aa A8.out 0).trans rfl, (aa A8.out 1).trans rfl, (aa A8.out 2).trans rfl, (aa A8.out 3).trans rfl⟩ (fun hHeld => ?_)
       clear hK K
       refine nm_ ?_
       refine on_ (i := 10) (N := some 85) (fun K hK => ?_)
       refine iQ Tryz.func48 (by kernel_rfl) rfl #[.bool ((ag A5 A1).f3)] (by rfl) rfl rfl dN ?_
       with_reducible refine (iL.calls ((ag A5 A1).f3) G0 _ Z5.out).mono ?_
       rintro e w' ⟨rfl, ⟨nd, rfl⟩⟩
       refine ⟨_, rfl, ?_⟩
       have V3 : 0 ≤ (F1 : Int) := of_decide_eq_true aX
       have V4 : (F1 : Int) < ((B4.length : Int) : Int) := of_decide_eq_true aX
       obtain ⟨H2, V5, N8, N9, gl57, cl57, HG57⟩ := Kd.jY A6.out (by omega)
       (first | cases N8 | (injection N8 with ea_ en_ ec_; (first | subst ea_ | (injection ea_ with ea_; subst ea_)); subst ec_; clear en_))
       have V6 := a_ N9
       have V7 := a_ HG57
       clear N9 gl57 HG57
       obtain ⟨V8, V9⟩ := Kd.iZ 0 A6.out (F1 : Int) V3 V4
       replace V3 := eq_true V3
       replace V4 := eq_true V4
       have M0 := Kd.oO A6.out (F1 : Int) G0
       rw [← N1.out] at M0
       have W0 := a_ M0
       clear M0
       refine hK.out _ _ ⟨(aa BK281.out 0).trans rfl, (aa BK281.out 1).trans rfl, (aa BK281.out 2).trans rfl, (aa BK281.out 3).trans rfl, (aa BK281.out 4).trans rfl, (aa A8.out 0).trans rfl, (aa A8.out 1).trans rfl, (aa A8.out 2).trans rfl, (aa A8.out 3).trans rfl⟩ (fun hHeld => ?_)
       clear hK K
       refine nm_ ?_
       refine pv_ 11 (some 86) ?_
       refine la_ (i := 12) (N := none) (fun K hK => ?_)
       refine lD (w1 := ?_) (by rfl) rfl ?_ ?_
       rotate_left
       ·go_simp
        rfl
       refine hK.out _ _ ?_
       clear hK K
       refine jl (iw HT_.out (by kernel_rfl)) ?_
       try go_wp2
       go_roundg K3
       case measure => have := HK1.out; have := M7.out; omega
       case rel => exact ⟨(wrap64 (A1 + 1)), (G5), (I6), (N0), (.slice (some ⟨D9, 0, none⟩) A7.length E6), (.slice (some ⟨E4, 0, none⟩) B0.length G1), (.slice (some ⟨H2, 0, none⟩) B4.length V5), cz, H', ⟨by have := HK1.out; have := M7.out; omega⟩, ⟨by (with_reducible repeat (first | apply Kd.aC | apply Kd.aA | apply Kd.ay)); exact Kd.ae (Kd.dW (p := ⟨H2, (F1 : Int).toNat, none⟩) (Kd.dR C7.out V7.out (by decide)) (fun _ hk => hk.2) (.int .i64 G0)) (fun _ hk => trivial)⟩, ⟨by (with_reducible repeat (first | apply Kd.aC | apply Kd.aA | apply Kd.ay)); exact Kd.ae (Kd.dW (p := ⟨H2, (F1 : Int).toNat, none⟩) (Kd.ae A2.out (fun k_ hk => (⟨hk, fun e_ => hk.2 iG⟩ : _ ∧ k_ ≠ H2))) (fun _ hk => hk.2) (.int .i64 G0)) (fun _ hk => ⟨hk.1.1, hk.1.2⟩)⟩, ⟨by (with_reducible repeat (first | apply Kd.aC | apply Kd.aA | apply Kd.ay)); exact Kd.ae (Kd.dW (p := ⟨H2, (F1 : Int).toNat, none⟩) (Kd.ae A3.out (fun k_ hk => (⟨hk, fun e_ => hk.2 iG⟩ : _ ∧ k_ ≠ H2))) (fun _ hk => hk.2) (.int .i64 G0)) (fun _ hk => ⟨hk.1.1, hk.1.2⟩)⟩, ⟨by (with_reducible repeat (first | apply Kd.aC | apply Kd.aA | apply Kd.ay)); exact W0.out⟩, ⟨by (with_reducible repeat (first | refine bO ?_ _ | refine bv ?_ | refine bN ?_ _)); refine fK ?_ (by have h_ := Kd.iU A6.out BK270.out (by decide); intro e_; exact h_ iG) _; (with_reducible repeat (first | refine bO ?_ _ | refine bv ?_ | refine bN ?_ _)); exact BK270.out⟩, ⟨by (with_reducible repeat (first | refine bO ?_ _ | refine bv ?_ | refine bN ?_ _)); refine fK ?_ (by have h_ := Kd.iU A6.out BK281.out (by decide); intro e_; exact h_ iG) _; (with_reducible repeat (first | refine bO ?_ _ | refine bv ?_ | refine bN ?_ _)); exact BK281.out⟩, ⟨by repeat (first | (with_reducible first | exact HB.out | apply aN | apply aD | apply aM | refine aG ?_ V6.out | refine aG ?_ GE270.out | refine aG ?_ GE281.out | refine aG ?_ GE286.out) | exact HB.out)⟩⟩
    rw [if_neg c34] at H
    have L0 := decide_eq_false c34
    clear c34
    simp only [Option.some.injEq, Prod.mk.injEq] at H
    obtain ⟨rfl, rfl, rfl, rfl, rfl, rfl⟩ := H
    have hnb66 := D1.out
    have hnc66 := C8.out
    obtain ⟨O5, O6, O7, O8, O9, P0, P1, P2, P3, P4⟩ := eU (w := wr) BK281.out
    obtain ⟨P5, P6, P7, P8, P9, Q0, Q1, Q2, Q3, Q4⟩ := eU (w := wr) BK270.out
    obtain ⟨W1, W3, W4⟩ := Kd.bg A2.out
    subst W4
    obtain ⟨W5, W6, W7⟩ := Kd.bg A3.out
    subst W7
    obtain ⟨W8, W9, X0⟩ := Kd.bg A6.out
    subst X0
    go_wp2
    refine bodyPost_ret (gD rfl _ _ C3 28 #[.int .i64 a0, .int .i64 a1, .slice W1 A7.length W3, .slice W5 B0.length W6, .slice W8 B4.length W9] (0, 0) _ rfl (gB (h := by exact gK BK270.out)) Tryz.underlying28 rfl (by kernel_rfl)) rfl ?_
    exact ⟨_, _, _, by first | rfl | (simp only [Go.IntWalk.i64_left]; first | done | rfl) | (simp [gM, gN] <;> rfl) | (simp only [← H5]; first | rfl | (simp [gM, gN] <;> rfl)) | (simp [*, gM, gN] <;> rfl), by (with_reducible repeat (first | apply Kd.aC | apply Kd.aA | apply Kd.ay)); exact Kd.ae (bU A2.out BK270.out) (fun _ hk => ⟨hk.1.1, hk.1.2⟩), by (with_reducible repeat (first | apply Kd.aC | apply Kd.aA | apply Kd.ay)); exact Kd.ae (bU A3.out BK270.out) (fun _ hk => ⟨hk.1.1, hk.1.2⟩), by (with_reducible repeat (first | apply Kd.aC | apply Kd.aA | apply Kd.ay)); exact Kd.ae (bU A6.out BK270.out) (fun _ hk => ⟨hk.1.1, hk.1.2⟩), sV⟩
 rw [if_neg c5] at H
 have M1 : (F8 == 0) = false := beq_eq_false_iff_ne.mpr c5
 have M2 : (F8 != 0) = true := bne_iff_ne.mpr c5
 simp only [Option.some.injEq, Prod.mk.injEq] at H
 obtain ⟨rfl, rfl, rfl, rfl, rfl, rfl⟩ := H
 go_enter Tryz.func14, Tryz.ntmps14
 go_wp2_with (first | ((with_reducible refine bn (N := 6) rfl ?_); refine bG ?hg (N := 6) ?hd (cs := #[.int .i64 0, .int .i64 0, .slice none 0 0, .slice none 0 0, .slice none 0 0]) (t := 28) ?hr ?_; (case hd => rfl); (case hg => rfl); (case hr => first | (go_simp; done) | (go_simp; rfl)); intro C3 hg b2 hbox hb; have BK270 := a_ (hbox); have M3 := a_ ((fO : w.heap.size ≤ C3)); have GE270 := a_ ((fO : w.heap.size ≤ C3)); replace HB := cK bX hb; clear hb hbox hg) | ((with_reducible refine av (f := 43) rfl ?_); refine bJ (some 18) rfl rfl Tryz.func43 (by kernel_rfl) rfl #[.int .i64 a0, .int .i64 a1, .string a2] rfl dN ?_; (with_reducible refine (eP.calls k a0 a1 a2 F8 _ A4.out).mono ?_); rintro e Z6 ⟨rfl, hb⟩; refine ⟨_, rfl, ?_⟩; replace BK270 := bb_ C3 BK270 hb; replace HB := cK nM hb; (try clear hb); obtain ⟨Q5, Q6, Q7, Q8, Q9, R0, R1, R2, R3, R4⟩ := eU (w := Z6) BK270.out))
 refine bodyPost_ret (gD rfl _ _ C3 28 #[.int .i64 0, .int .i64 0, .slice none 0 0, .slice none 0 0, .slice none 0 0] (0, 0) _ rfl (gB (h := by exact gK BK270.out)) Tryz.underlying28 rfl (by kernel_rfl)) rfl ?_
 exact ⟨_, _, _, gy, jX, jX, jX, nM⟩
end Go.Proofs.YtkpidjmhdagkfaaGreatDoor.QFnImposed
