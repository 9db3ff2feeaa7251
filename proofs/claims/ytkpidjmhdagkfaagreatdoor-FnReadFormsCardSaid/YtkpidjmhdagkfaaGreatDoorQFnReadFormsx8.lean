-- Written by own_print.py of this session's repo over the kit's print (its output, turned at some places).
import Derived.Test.YtkpidjmhdagkfaaGreatDoorQFnReadFormsx0
import Derived.Test.YtkpidjmhdagkfaaGreatDoorQFnReadFormsx3
import Derived.Test.YtkpidjmhdagkfaaGreatDoorQFnReadFormsx7
namespace Go.Proofs.YtkpidjmhdagkfaaGreatDoor.QFnReadForms
open Go.RowKit Go.Proofs.YtkpidjmhdagkfaaGreatDoorW.PrintWords Go.Proofs.YtkpidjmhdagkfaaGreatDoorW.PrintLast Go.Proofs.YtkpidjmhdagkfaaGreatDoorW.PrintMore
attribute [local go_sem] ik iq iR iT gD gF il iw
set_option maxHeartbeats 8000000
set_option maxRecDepth 100000
set_option linter.unusedVariables false
set_option linter.unusedSimpArgs false
mutual
def aY.l0 : Nat → Int → List (S64) → Int → Int → Int → List Int → List Int → List Int → Option (Int × Int × List Int × List Int × List Int)
 | 0, _, _, _, _, _, _, _, _ => none
 | k + 1, x0, x9, x10, x405000, x405001, x405002, x405003, x405004 => if x10 < (x9.length : Int) then (if 0 ≤ x10 then ((fJ.f ((aa x9 x10).f0) ((aa x9 x10).f1) ((aa x9 x10).f2) ((aa x9 x10).f3)).bind fun t410 => (if t410 = true then (aY.j1 k x0 x9 x10 (wrap64 ((wrap64 (2 * x10)) + 2)) (wrap64 ((wrap64 (2 * x10)) + 1)) x405000 x405001 x405002 x405003 x405004 ((aa x9 x10).f0) ((aa x9 x10).f1) ((aa x9 x10).f2) ((aa x9 x10).f3)) else (aY.j1 k x0 x9 x10 (wrap64 ((wrap64 (2 * x10)) + 1)) (wrap64 ((wrap64 (2 * x10)) + 2)) x405000 x405001 x405002 x405003 x405004 ((aa x9 x10).f0) ((aa x9 x10).f1) ((aa x9 x10).f2) ((aa x9 x10).f3)))) else (none)) else (some (x405000, x405001, x405002, x405003, x405004))
def aY.j1 : Nat → Int → List (S64) → Int → Int → Int → Int → Int → List Int → List Int → List Int → Int → Int → Bool → Bool → Option (Int × Int × List Int × List Int × List Int)
 | 0, _, _, _, _, _, _, _, _, _, _, _, _, _, _ => none
 | k + 1, x0, x9, x10, x12, x13, x405000, x405001, x405002, x405003, x405004, x410000, x410001, x410002, x410003 => if 0 ≤ (wrap64 ((wrap64 (x410001 * x0)) + x410000)) then (if (wrap64 ((wrap64 (x410001 * x0)) + x410000)) < (x405002.length : Int) then ((some (x405002.set ((wrap64 ((wrap64 (x410001 * x0)) + x410000)) : Int).toNat x12 : List Int)).bind fun y411 => (if 0 ≤ (wrap64 ((wrap64 ((wrap64 ((wrap64 (x410001 * x0)) + x0)) - 1)) - x410000)) then (if (wrap64 ((wrap64 ((wrap64 ((wrap64 (x410001 * x0)) + x0)) - 1)) - x410000)) < (x405003.length : Int) then ((some (x405003.set ((wrap64 ((wrap64 ((wrap64 ((wrap64 (x410001 * x0)) + x0)) - 1)) - x410000)) : Int).toNat x13 : List Int)).bind fun y412 => (if x410003 = true then (if (wrap64 ((wrap64 (x410001 * x0)) + x410000)) < (x405004.length : Int) then (aY.l0 k x0 x9 (wrap64 (x10 + 1)) x405000 x405001 y411 y412 (x405004.set ((wrap64 ((wrap64 (x410001 * x0)) + x410000)) : Int).toNat 1)) else (none)) else (aY.l0 k x0 x9 (wrap64 (x10 + 1)) x405000 x405001 y411 y412 x405004))) else (none)) else (none))) else (none)) else (none)
end
def aY.f (k : Nat) (a0 : Int) (a1 : Int) (a2 : ByteArray) : Option (Int × Int × List Int × List Int × List Int) := if 0 ≤ (wrap64 (a0 * a1)) then (if (wrap64 (a0 * a1) : Int).toNat ≤ 35184372088832 then ((aJ.f k a0 a1 a2).bind fun t405 => (aY.l0 k a0 t405 0 a0 a1 (List.replicate (wrap64 (a0 * a1) : Int).toNat 0) (List.replicate (wrap64 (a0 * a1) : Int).toNat 0) (List.replicate (wrap64 (a0 * a1) : Int).toNat 0))) else (none)) else (none)
theorem aY.di : ∀ k, (∀ y0 y1 y2 y3 y4 y5 y6 y7, LeO (aY.l0 k y0 y1 y2 y3 y4 y5 y6 y7) (aY.l0 (k + 1) y0 y1 y2 y3 y4 y5 y6 y7)) ∧ (∀ y0 y1 y2 y3 y4 y5 y6 y7 y8 y9 y10 y11 y12 y13, LeO (aY.j1 k y0 y1 y2 y3 y4 y5 y6 y7 y8 y9 y10 y11 y12 y13) (aY.j1 (k + 1) y0 y1 y2 y3 y4 y5 y6 y7 y8 y9 y10 y11 y12 y13))
 | 0 => ⟨fun _ _ _ _ _ _ _ _ r h => by simp [aY.l0] at h, fun _ _ _ _ _ _ _ _ _ _ _ _ _ _ r h => by simp [aY.j1] at h⟩
 | k + 1 => by
  obtain ⟨ih0, ih1⟩ := aY.di k
  refine ⟨?_, ?_⟩ <;> intros <;> (first | unfold aY.l0 | unfold aY.j1) <;> (repeat' first | (with_reducible first | exact ih0 .. | exact ih1 .. | exact aJ.mono .. | exact LeO.refl .. | exact LeO.none .. | refine LeO.ite ?_ ?_ | refine LeO.bind ?_ (fun _ => ?_)))
theorem aY.mono : ∀ a0 a1 a2 k, LeO (aY.f k a0 a1 a2) (aY.f (k + 1) a0 a1 a2) := by
 intro a0 a1 a2 k
 obtain ⟨ih0, ih1⟩ := aY.di k
 unfold aY.f
 repeat' first | (with_reducible first | exact ih0 .. | exact ih1 .. | exact aJ.mono .. | exact LeO.refl .. | exact LeO.none .. | refine LeO.ite ?_ ?_ | refine LeO.bind ?_ (fun _ => ?_))
def aY.T2 : Bool × List (List Nat × List Nat) := (true, [([], []), ([], []), ([], []), ([2, 2], [2]), ([], []), ([4, 4], [4]), ([], []), ([6, 6], [6]), ([0, 1, 3, 5, 7], [0, 1, 3, 5, 7]), ([], []), ([9, 8, 0, 1, 2, 3, 4, 5, 6, 7, 8, 9], [8, 9])])
def aY.B2 : List Nat := [0, 0, 0, 4, 0, 16, 0, 64, 255, 0, 1023]
theorem aY.Du : ic .any (opsOf Tryz.f50 2) = aY.T2 := by kernel_rfl
theorem aY.Cv : fZ aY.T2.2 aY.B2 = true := by kernel_rfl
theorem aY.calls (k : Nat) (a0 : Int) (a1 : Int) (a2 : ByteArray) (r1 : Int) (r2 : Int) (r3 : List Int) (r4 : List Int) (r5 : List Int) (w : World) (h : aY.f k a0 a1 a2 = some (r1, r2, r3, r4, r5)) :
  Calls Tryz.prog 50 #[.int .i64 a0, .int .i64 a1, .string a2] w fun e w' => ∃ v2_ v3_ v4_ : Value, e = .returned (.agg #[.int .i64 r1, .int .i64 r2, v2_, v3_, v4_]) ∧ Kd.R (Kd.int .i64) 2 w' w.heap.size (fun k_ => some k_ ≠ (v3_ : Value).ownBlock ∧ some k_ ≠ (v4_ : Value).ownBlock) v2_ r3 ∧ Kd.R (Kd.int .i64) 2 w' w.heap.size (fun k_ => some k_ ≠ (v2_ : Value).ownBlock ∧ some k_ ≠ (v4_ : Value).ownBlock) v3_ r4 ∧ Kd.R (Kd.int .i64) 2 w' w.heap.size (fun k_ => some k_ ≠ (v2_ : Value).ownBlock ∧ some k_ ≠ (v3_ : Value).ownBlock) v4_ r5 ∧ Below w.heap.size w w' := by
 have hu28 := Tryz.underlying28
 have hu64 := Tryz.underlying64
 have HB := a_ (Below.refl w.heap.size w)
 have H : (if 0 ≤ (wrap64 (a0 * a1)) then (if (wrap64 (a0 * a1) : Int).toNat ≤ 35184372088832 then ((aJ.f k a0 a1 a2).bind fun A5 => (aY.l0 k a0 A5 0 a0 a1 (List.replicate (wrap64 (a0 * a1) : Int).toNat 0) (List.replicate (wrap64 (a0 * a1) : Int).toNat 0) (List.replicate (wrap64 (a0 * a1) : Int).toNat 0))) else (none)) else (none)) = some (r1, r2, r3, r4, r5) := h
 clear h
 obtain ⟨G1, I8⟩ : ∃ j_ : Int, (wrap64 (a0 * a1)) = j_ := ⟨_, rfl⟩
 replace H : (if 0 ≤ (G1) then (if (G1 : Int).toNat ≤ 35184372088832 then ((aJ.f k a0 a1 a2).bind fun A5 => (aY.l0 k a0 A5 0 a0 a1 (List.replicate (G1 : Int).toNat 0) (List.replicate (G1 : Int).toNat 0) (List.replicate (G1 : Int).toNat 0))) else (none)) else (none)) = some (r1, r2, r3, r4, r5) := by first | (rw [I8] at H; exact H) | (simp only [I8] at H ⊢; exact H)
 have hji4w : (IntKind.i64.wrap (a0 * a1)) = G1 := (eU _).trans I8
 replace H := ig_ H; obtain ⟨c5, H⟩ := H
 have b7 := eq_true c5
 have b8 := decide_eq_true c5
 clear c5
 replace H := ig_ H; obtain ⟨c6, H⟩ := H
 have b9 := eq_true c6
 have c1 := decide_eq_true c6
 clear c6
 obtain ⟨F1, G6⟩ : ∃ y_ : List Int, y_ = (List.replicate (G1 : Int).toNat 0) := ⟨_, rfl⟩
 replace H : ((aJ.f k a0 a1 a2).bind fun A5 => (aY.l0 k a0 A5 0 a0 a1 F1 (List.replicate (G1 : Int).toNat 0) (List.replicate (G1 : Int).toNat 0))) = some (r1, r2, r3, r4, r5) := rh_ G6 H
 have K4 := a_ G6
 clear G6
 obtain ⟨F6, G7⟩ : ∃ y_ : List Int, y_ = (List.replicate (G1 : Int).toNat 0) := ⟨_, rfl⟩
 replace H : ((aJ.f k a0 a1 a2).bind fun A5 => (aY.l0 k a0 A5 0 a0 a1 F1 F6 (List.replicate (G1 : Int).toNat 0))) = some (r1, r2, r3, r4, r5) := rh_ G7 H
 have K5 := a_ G7
 clear G7
 obtain ⟨F9, G8⟩ : ∃ y_ : List Int, y_ = (List.replicate (G1 : Int).toNat 0) := ⟨_, rfl⟩
 replace H : ((aJ.f k a0 a1 a2).bind fun A5 => (aY.l0 k a0 A5 0 a0 a1 F1 F6 F9)) = some (r1, r2, r3, r4, r5) := rh_ G8 H
 have K6 := a_ G8
 clear G8
 replace H := bo_ H; obtain ⟨A5, A7, H⟩ := H; (try dsimp only at H)
 have H' := a_ H
 clear H
 go_enter Tryz.func50, Tryz.ntmps50
 try go_wp2_with (first | ((with_reducible refine bf (N := 6) rfl ?_); refine cz ?hg (N := 6) ?hd (cs := #[.int .i64 0, .int .i64 0, .slice none 0 0, .slice none 0 0, .slice none 0 0]) (t := 28) ?hr ?_; (case hd => rfl); (case hg => rfl); (case hr => first | (go_simp; done) | (go_simp; rfl)); intro C3 hg w8 hbox hb; have BK394 := a_ (hbox); have h6 := a_ ((fG : w.heap.size ≤ C3)); have GE394 := a_ ((fG : w.heap.size ≤ C3)); replace HB := df bO hb; clear hb hbox hg))
 replace BK394 := a_ (bU BK394.out)
 replace HB := a_ (aU HB.out)
 refine gQ (n := 11) (S := fun w' => True) (ds := []) #[false, false, false, false, false, false, false, false, false, false, false] (by kernel_rfl) rfl rfl trivial (fun hHeld => ?_); refine fI aY.Du aY.Cv (fun HT_ HW_ => ?_)
 generalize w8.drew = w9 at BK394 HB hHeld ⊢
 refine pv_ 0 (some 17) ?_
 refine pv_ 1 (some 18) ?_
 refine pv_ 2 (some 19) ?_
 refine pv_ 4 (some 21) ?_
 refine pv_ 6 (some 23) ?_
 refine Bf [3, 5, 7, 8, 9, 10] (fun a0_ b a w' => ∃ (D2 : Value) (D3 : Value) (D4 : Value) (gb404 : Nat) (m8_ : Value) (m9_ : Value), a = iE a0_ b [(3, 20, D2), (5, 22, D3), (7, 24, D4), (8, 25, m8_), (9, 8, m9_)] ∧ (w'.heap[C3]? = some (.cells #[.int .i64 0, .int .i64 0, .slice none 0 0, .slice none 0 0, .slice none 0 0] 28 (0, 0))) ∧ (Below w.heap.size w w') ∧ (b 3 = true → Kd.R (Kd.int .i64) 2 w' w.heap.size (fun _ => True) D2 F1) ∧ (b 5 = true → Kd.R (Kd.int .i64) 2 w' w.heap.size (fun _ => True) D3 F6) ∧ (b 7 = true → Kd.R (Kd.int .i64) 2 w' w.heap.size (fun _ => True) D4 F9) ∧ (b 9 = true → b 10 = false → w'.heap[gb404]? = some (.cells #[.int .i64 0, .int .i64 0, .slice none 0 0, .slice none 0 0, .slice none 0 0] 28 (0, 0))) ∧ (b 9 = true → w.heap.size ≤ gb404) ∧ (b 9 = true → w.heap.size ≤ gb404) ∧ (b 9 = true → C3 ≠ gb404) ∧ (b 9 = true → gb404 ≠ C3) ∧ (b 10 = true → w'.heap[gb404]? = some (.cells #[.int .i64 a0, .int .i64 a1, D2, D3, D4] 28 (0, 0))) ∧ (b 8 = true → (m8_ : Value) = .agg #[.int .i64 a0, .int .i64 a1, D2, D3, D4]) ∧ (b 9 = true → (m9_ : Value) = .pointer (some ⟨gb404, 0, none⟩)) ∧ (b 3 = true → b 5 = true → ∀ k_ : Nat, (D2 : Value).ownBlock = some k_ → (D3 : Value).ownBlock ≠ some k_) ∧ (b 3 = true → b 7 = true → ∀ k_ : Nat, (D2 : Value).ownBlock = some k_ → (D4 : Value).ownBlock ≠ some k_) ∧ (b 5 = true → b 7 = true → ∀ k_ : Nat, (D3 : Value).ownBlock = some k_ → (D4 : Value).ownBlock ≠ some k_)) HT_.out HW_.out (by kernel_rfl) (by kernel_rfl) ?_ ?_ ?_
 ·exact ⟨.bool false, .bool false, .bool false, 0, .bool false, .bool false, by simp only [iE, Bool.false_eq_true, if_false], BK394.out, HB.out, fun h_ => absurd h_ (by decide), fun h_ => absurd h_ (by decide), fun h_ => absurd h_ (by decide), fun h_ => absurd h_ (by decide), fun h_ => absurd h_ (by decide), fun h_ => absurd h_ (by decide), fun h_ => absurd h_ (by decide), fun h_ => absurd h_ (by decide), fun h_ => absurd h_ (by decide), fun h_ => absurd h_ (by decide), fun h_ => absurd h_ (by decide), fun h_ => absurd h_ (by decide), fun h_ => absurd h_ (by decide), fun h_ => absurd h_ (by decide)⟩
 ·skip
  clear BK394 HB
  refine jY ?_ ?_
  ·rintro b a w' ⟨D2, D3, D4, gb404, m8_, m9_, ha, C5, Q_HB, B3, B4, B7, Q_BK404, C7, C8, A8, A9, C4, Q_X8_, Q_X9_, C9, D0, D1⟩ hb_ hon hoff
   refine ⟨_, rfl, fun K hK => ?_⟩
   have h7 : a.tmps[19]? = some (.int .i64 G1) := by rw [ha]; exact (jw rfl).trans rfl
   replace ha := a_ ha
   have BK394 := a_ C5
   have HB := a_ Q_HB
   refine Kd.mh (Kd.int .i64) _ 2 (by rfl) (N := 20) rfl 22 _ _ rfl G1 (by simp [Act.eval, Array.getD_eq_getD_getElem?, h7]) (by simp [Act.eval, Array.getD_eq_getD_getElem?, h7]) Tryz.underlying22 (.int .i64 0) 8 jc rfl (by decide) (by omega) 0 (ok := fun _ => True) (okp := fun _ => True) rfl (fun _ hk => hk) trivial (of_decide_eq_true aG) (Nat.le_trans (Nat.mul_le_mul_right _ (of_decide_eq_true aG : G1.toNat ≤ 35184372088832)) (by omega)) (Below.refl _ _) (Nat.le_refl _) ?_
   intro D2 G3 ho11 hb hg_ hnew_
   clear hg_ hnew_
   (first | rw [← K4.out] at ho11 | (simp only [Int.reduceToNat] at ho11; rw [← K4.out] at ho11))
   have n0_ := a_ (Kd.bu ho11 (af qx))
   have n1_ := bb_ C3 BK394 hb
   have n2_ := df qx hb
   have F2 := fun (h0_ : b 5 = true) => (show Kd.R (Kd.int .i64) 2 G3 w.heap.size (fun _ => True) D3 F6 from by first | exact (Kd.bB (rc_ (h := by exact B4 h0_)) (Kd.bN ho11) hb) | exact Kd.ae (Kd.bB (rc_ (h := by exact B4 h0_)) (Kd.bN ho11) hb) (fun _ h_ => by first | trivial | exact h_ | exact h_.1))
   have F3 := fun (h0_ : b 7 = true) => (show Kd.R (Kd.int .i64) 2 G3 w.heap.size (fun _ => True) D4 F9 from by first | exact (Kd.bB (rc_ (h := by exact B7 h0_)) (Kd.bN ho11) hb) | exact Kd.ae (Kd.bB (rc_ (h := by exact B7 h0_)) (Kd.bN ho11) hb) (fun _ h_ => by first | trivial | exact h_ | exact h_.1))
   have z_BK404 := fun (h0_ : b 9 = true) (h1_ : b 10 = false) => (show G3.heap[gb404]? = some (.cells #[.int .i64 0, .int .i64 0, .slice none 0 0, .slice none 0 0, .slice none 0 0] 28 (0, 0)) from z2_)
   clear BK394; clear HB
   have E3 := n0_
   have BK394 := n1_
   have HB := n2_
   clear n0_ n1_ n2_
   have z_NE3_5 := fun (h1_ : b 5 = true) (k_ : Nat) (hk_ : (D2 : Value).ownBlock = some k_) (hk2_ : (D3 : Value).ownBlock = some k_) => (Nat.not_lt.mpr (Kd.bN ho11 k_ hk_)) (Kd.dR (B4 h1_) k_ hk2_)
   have z_NE3_7 := fun (h1_ : b 7 = true) (k_ : Nat) (hk_ : (D2 : Value).ownBlock = some k_) (hk2_ : (D4 : Value).ownBlock = some k_) => (Nat.not_lt.mpr (Kd.bN ho11 k_ hk_)) (Kd.dR (B7 h1_) k_ hk2_)
   clear hb ho11
   refine hK.out _ _ ⟨D2, D3, D4, gb404, m8_, m9_, (by rw [ha.out]; exact kN 0 hb_ rfl rfl rfl), (rb_ BK394.out), qx, fun _ => Kd.ae (ra_ E3.out) (fun _ _ => trivial), F2, F3, z_BK404, C7, C8, A8, A9, fun h0_ => absurd ((hoff 10 (by kernel_rfl)).symm.trans h0_) (by decide), fun h0_ => absurd ((hoff 8 (by kernel_rfl)).symm.trans h0_) (by decide), Q_X9_, fun _ h1_ => z_NE3_5 h1_, fun _ h1_ => z_NE3_7 h1_, D1⟩
  refine jY ?_ ?_
  ·rintro b a w' ⟨D2, D3, D4, gb404, m8_, m9_, ha, C5, Q_HB, B3, B4, B7, Q_BK404, C7, C8, A8, A9, C4, Q_X8_, Q_X9_, C9, D0, D1⟩ hb_ hon hoff
   refine ⟨_, rfl, fun K hK => ?_⟩
   have h8 : a.tmps[21]? = some (.int .i64 G1) := by rw [ha]; exact (jw rfl).trans rfl
   replace ha := a_ ha
   have BK394 := a_ C5
   have HB := a_ Q_HB
   refine Kd.mh (Kd.int .i64) _ 2 (by rfl) (N := 22) rfl 22 _ _ rfl G1 (by simp [Act.eval, Array.getD_eq_getD_getElem?, h8]) (by simp [Act.eval, Array.getD_eq_getD_getElem?, h8]) Tryz.underlying22 (.int .i64 0) 8 jc rfl (by decide) (by omega) 0 (ok := fun _ => True) (okp := fun _ => True) rfl (fun _ hk => hk) trivial (of_decide_eq_true aG) (Nat.le_trans (Nat.mul_le_mul_right _ (of_decide_eq_true aG : G1.toNat ≤ 35184372088832)) (by omega)) (Below.refl _ _) (Nat.le_refl _) ?_
   intro D3 G3 ho11 hb hg_ hnew_
   clear hg_ hnew_
   (first | rw [← K5.out] at ho11 | (simp only [Int.reduceToNat] at ho11; rw [← K5.out] at ho11))
   have n0_ := a_ (Kd.bu ho11 (af qx))
   have n1_ := bb_ C3 BK394 hb
   have n2_ := df qx hb
   have F4 := fun (h0_ : b 3 = true) => (show Kd.R (Kd.int .i64) 2 G3 w.heap.size (fun _ => True) D2 F1 from by first | exact (Kd.bB (rc_ (h := by exact B3 h0_)) (Kd.bN ho11) hb) | exact Kd.ae (Kd.bB (rc_ (h := by exact B3 h0_)) (Kd.bN ho11) hb) (fun _ h_ => by first | trivial | exact h_ | exact h_.1))
   have F3 := fun (h0_ : b 7 = true) => (show Kd.R (Kd.int .i64) 2 G3 w.heap.size (fun _ => True) D4 F9 from by first | exact (Kd.bB (rc_ (h := by exact B7 h0_)) (Kd.bN ho11) hb) | exact Kd.ae (Kd.bB (rc_ (h := by exact B7 h0_)) (Kd.bN ho11) hb) (fun _ h_ => by first | trivial | exact h_ | exact h_.1))
   have z_BK404 := fun (h0_ : b 9 = true) (h1_ : b 10 = false) => (show G3.heap[gb404]? = some (.cells #[.int .i64 0, .int .i64 0, .slice none 0 0, .slice none 0 0, .slice none 0 0] 28 (0, 0)) from z2_)
   clear BK394; clear HB
   have E4 := n0_
   have BK394 := n1_
   have HB := n2_
   clear n0_ n1_ n2_
   have z_NE3_5 := fun (h1_ : b 3 = true) (k_ : Nat) (hk_ : (D2 : Value).ownBlock = some k_) (hk2_ : (D3 : Value).ownBlock = some k_) => (Nat.not_lt.mpr (Kd.bN ho11 k_ hk2_)) (Kd.dR (B3 h1_) k_ hk_)
   have z_NE5_7 := fun (h1_ : b 7 = true) (k_ : Nat) (hk_ : (D3 : Value).ownBlock = some k_) (hk2_ : (D4 : Value).ownBlock = some k_) => (Nat.not_lt.mpr (Kd.bN ho11 k_ hk_)) (Kd.dR (B7 h1_) k_ hk2_)
   clear hb ho11
   refine hK.out _ _ ⟨D2, D3, D4, gb404, m8_, m9_, (by rw [ha.out]; exact kN 1 hb_ rfl rfl rfl), (rb_ BK394.out), qx, F4, fun _ => Kd.ae (ra_ E4.out) (fun _ _ => trivial), F3, z_BK404, C7, C8, A8, A9, fun h0_ => absurd ((hoff 10 (by kernel_rfl)).symm.trans h0_) (by decide), fun h0_ => absurd ((hoff 8 (by kernel_rfl)).symm.trans h0_) (by decide), Q_X9_, fun h1_ _ => z_NE3_5 h1_, D0, fun _ h1_ => z_NE5_7 h1_⟩
  refine jY ?_ ?_
  ·rintro b a w' ⟨D2, D3, D4, gb404, m8_, m9_, ha, C5, Q_HB, B3, B4, B7, Q_BK404, C7, C8, A8, A9, C4, Q_X8_, Q_X9_, C9, D0, D1⟩ hb_ hon hoff
   refine ⟨_, rfl, fun K hK => ?_⟩
   have h9 : a.tmps[23]? = some (.int .i64 G1) := by rw [ha]; exact (jw rfl).trans rfl
   replace ha := a_ ha
   have BK394 := a_ C5
   have HB := a_ Q_HB
   refine Kd.mh (Kd.int .i64) _ 2 (by rfl) (N := 24) rfl 22 _ _ rfl G1 (by simp [Act.eval, Array.getD_eq_getD_getElem?, h9]) (by simp [Act.eval, Array.getD_eq_getD_getElem?, h9]) Tryz.underlying22 (.int .i64 0) 8 jc rfl (by decide) (by omega) 0 (ok := fun _ => True) (okp := fun _ => True) rfl (fun _ hk => hk) trivial (of_decide_eq_true aG) (Nat.le_trans (Nat.mul_le_mul_right _ (of_decide_eq_true aG : G1.toNat ≤ 35184372088832)) (by omega)) (Below.refl _ _) (Nat.le_refl _) ?_
   intro D4 G3 ho11 hb hg_ hnew_
   clear hg_ hnew_
   (first | rw [← K6.out] at ho11 | (simp only [Int.reduceToNat] at ho11; rw [← K6.out] at ho11))
   have n0_ := a_ (Kd.bu ho11 (af qx))
   have n1_ := bb_ C3 BK394 hb
   have n2_ := df qx hb
   have F4 := fun (h0_ : b 3 = true) => (show Kd.R (Kd.int .i64) 2 G3 w.heap.size (fun _ => True) D2 F1 from by first | exact (Kd.bB (rc_ (h := by exact B3 h0_)) (Kd.bN ho11) hb) | exact Kd.ae (Kd.bB (rc_ (h := by exact B3 h0_)) (Kd.bN ho11) hb) (fun _ h_ => by first | trivial | exact h_ | exact h_.1))
   have F2 := fun (h0_ : b 5 = true) => (show Kd.R (Kd.int .i64) 2 G3 w.heap.size (fun _ => True) D3 F6 from by first | exact (Kd.bB (rc_ (h := by exact B4 h0_)) (Kd.bN ho11) hb) | exact Kd.ae (Kd.bB (rc_ (h := by exact B4 h0_)) (Kd.bN ho11) hb) (fun _ h_ => by first | trivial | exact h_ | exact h_.1))
   have z_BK404 := fun (h0_ : b 9 = true) (h1_ : b 10 = false) => (show G3.heap[gb404]? = some (.cells #[.int .i64 0, .int .i64 0, .slice none 0 0, .slice none 0 0, .slice none 0 0] 28 (0, 0)) from z2_)
   clear BK394; clear HB
   have E5 := n0_
   have BK394 := n1_
   have HB := n2_
   clear n0_ n1_ n2_
   have z_NE3_7 := fun (h1_ : b 3 = true) (k_ : Nat) (hk_ : (D2 : Value).ownBlock = some k_) (hk2_ : (D4 : Value).ownBlock = some k_) => (Nat.not_lt.mpr (Kd.bN ho11 k_ hk2_)) (Kd.dR (B3 h1_) k_ hk_)
   have z_NE5_7 := fun (h1_ : b 5 = true) (k_ : Nat) (hk_ : (D3 : Value).ownBlock = some k_) (hk2_ : (D4 : Value).ownBlock = some k_) => (Nat.not_lt.mpr (Kd.bN ho11 k_ hk2_)) (Kd.dR (B4 h1_) k_ hk_)
   clear hb ho11
   refine hK.out _ _ ⟨D2, D3, D4, gb404, m8_, m9_, (by rw [ha.out]; exact kN 2 hb_ rfl rfl rfl), (rb_ BK394.out), qx, F4, F2, fun _ => Kd.ae (ra_ E5.out) (fun _ _ => trivial), z_BK404, C7, C8, A8, A9, fun h0_ => absurd ((hoff 10 (by kernel_rfl)).symm.trans h0_) (by decide), fun h0_ => absurd ((hoff 8 (by kernel_rfl)).symm.trans h0_) (by decide), Q_X9_, C9, fun h1_ _ => z_NE3_7 h1_, fun h1_ _ => z_NE5_7 h1_⟩
  refine jY ?_ ?_
  ·rintro b a w' ⟨D2, D3, D4, gb404, m8_, m9_, ha, C5, Q_HB, B3, B4, B7, Q_BK404, C7, C8, A8, A9, C4, Q_X8_, Q_X9_, C9, D0, D1⟩ hb_ hon hoff
   refine ⟨_, rfl, fun K hK => ?_⟩
   have k5 : a.tmps[17]? = some (.int .i64 a0) := by rw [ha]; exact (jw rfl).trans rfl
   have k6 : a.tmps[18]? = some (.int .i64 a1) := by rw [ha]; exact (jw rfl).trans rfl
   have k7 : a.tmps[20]? = some (D2) := by rw [ha]; exact ky (e := (3, 20, D2)) 0 rfl rfl (hon 3 (by kernel_rfl)) rfl
   have k8 : a.tmps[22]? = some (D3) := by rw [ha]; exact ky (e := (5, 22, D3)) 1 rfl rfl (hon 5 (by kernel_rfl)) rfl
   have k9 : a.tmps[24]? = some (D4) := by rw [ha]; exact ky (e := (7, 24, D4)) 2 rfl rfl (hon 7 (by kernel_rfl)) rfl
   replace ha := a_ ha
   have BK394 := a_ C5
   have HB := a_ Q_HB
   have E3 := a_ (B3 (hon 3 (by kernel_rfl)))
   have E4 := a_ (B4 (hon 5 (by kernel_rfl)))
   have E5 := a_ (B7 (hon 7 (by kernel_rfl)))
   obtain ⟨G9, H0, eo_⟩ := Kd.bg E3.out
   subst eo_
   obtain ⟨H2, H3, eo_⟩ := Kd.bg E4.out
   subst eo_
   obtain ⟨H4, H5, eo_⟩ := Kd.bg E5.out
   subst eo_
   refine rF (w1 := w') (v := .agg #[.int .i64 a0, .int .i64 a1, .slice G9 F1.length H0, .slice H2 F6.length H3, .slice H4 F9.length H5]) (by rfl) rfl ?_ ?_
   ·go_simp
    (try simp only [eU])
    try rfl
    (try (first | done | omega | (simp only [decide_eq_true_eq] at *; omega)))
   refine hK.out _ _ ⟨.slice G9 F1.length H0, .slice H2 F6.length H3, .slice H4 F9.length H5, gb404, (.agg #[.int .i64 a0, .int .i64 a1, .slice G9 F1.length H0, .slice H2 F6.length H3, .slice H4 F9.length H5]), m9_, (by rw [ha.out]; exact kN 3 hb_ rfl rfl rfl), C5, Q_HB, B3, B4, B7, Q_BK404, C7, C8, A8, A9, fun h0_ => absurd ((hoff 10 (by kernel_rfl)).symm.trans h0_) (by decide), fun _ => rfl, Q_X9_, C9, D0, D1⟩
  refine jY ?_ ?_
  ·rintro b a w' ⟨D2, D3, D4, gb404, m8_, m9_, ha, C5, Q_HB, B3, B4, B7, Q_BK404, C7, C8, A8, A9, C4, Q_X8_, Q_X9_, C9, D0, D1⟩ hb_ hon hoff
   refine ⟨_, rfl, fun K hK => ?_⟩
   replace ha := a_ ha
   have BK394 := a_ C5
   have HB := a_ Q_HB
   refine yE ?hg (N := 8) ?hd (cs := #[.int .i64 0, .int .i64 0, .slice none 0 0, .slice none 0 0, .slice none 0 0]) (t := 28) ?hr ?_; (case hd => rfl); (case hg => rfl); (case hr => first | (go_simp; done) | (go_simp; rfl))
   intro gb404 hg G3 hbox hb
   have n0_ := bb_ C3 BK394 hb
   have n1_ := df qx hb
   have n2_ := a_ (hbox)
   have n3_ := a_ ((by rw [hg]; exact (af qx) : w.heap.size ≤ gb404))
   have n4_ := a_ ((by rw [hg]; exact (af qx) : w.heap.size ≤ gb404))
   have n5_ := a_ ((by rw [hg]; exact Nat.ne_of_lt (fF (g := C3) (rb_ BK394.out)) : C3 ≠ gb404))
   have n6_ := a_ ((by rw [hg]; exact Nat.ne_of_gt (fF (g := C3) (rb_ BK394.out)) : gb404 ≠ C3))
   have F4 := fun (h0_ : b 3 = true) => (show Kd.R (Kd.int .i64) 2 G3 w.heap.size (fun _ => True) D2 F1 from by first | exact (Kd.dN (rc_ (h := by exact B3 h0_)) hb) | exact Kd.ae (Kd.dN (rc_ (h := by exact B3 h0_)) hb) (fun _ h_ => by first | trivial | exact h_ | exact h_.1))
   have F2 := fun (h0_ : b 5 = true) => (show Kd.R (Kd.int .i64) 2 G3 w.heap.size (fun _ => True) D3 F6 from by first | exact (Kd.dN (rc_ (h := by exact B4 h0_)) hb) | exact Kd.ae (Kd.dN (rc_ (h := by exact B4 h0_)) hb) (fun _ h_ => by first | trivial | exact h_ | exact h_.1))
   have F3 := fun (h0_ : b 7 = true) => (show Kd.R (Kd.int .i64) 2 G3 w.heap.size (fun _ => True) D4 F9 from by first | exact (Kd.dN (rc_ (h := by exact B7 h0_)) hb) | exact Kd.ae (Kd.dN (rc_ (h := by exact B7 h0_)) hb) (fun _ h_ => by first | trivial | exact h_ | exact h_.1))
   clear BK394; clear HB
   have BK394 := n0_
   have HB := n1_
   have BK404 := n2_
   have G5 := n3_
   have GE404 := n4_
   have C1 := n5_
   have C2 := n6_
   clear n0_ n1_ n2_ n3_ n4_ n5_ n6_
   clear hb hbox hg
   refine hK.out _ _ ⟨D2, D3, D4, gb404, m8_, (.pointer (some ⟨gb404, 0, none⟩)), (by rw [ha.out]; exact kN 4 hb_ rfl rfl rfl), (rb_ BK394.out), uI, F4, F2, F3, fun _ _ => (rb_ BK404.out), fun _ => G5.out, fun _ => GE404.out, fun _ => C1.out, fun _ => C2.out, fun h0_ => absurd ((hoff 10 (by kernel_rfl)).symm.trans h0_) (by decide), Q_X8_, fun _ => rfl, C9, D0, D1⟩
  refine jY ?_ ?_
  ·rintro b a w' ⟨D2, D3, D4, gb404, m8_, m9_, ha, C5, Q_HB, B3, B4, B7, Q_BK404, C7, C8, A8, A9, C4, Q_X8_, Q_X9_, C9, D0, D1⟩ hb_ hon hoff
   refine ⟨_, rfl, fun K hK => ?_⟩
   have e8 : a.tmps[8]? = some (m9_) := by rw [ha]; exact ky (e := (9, 8, m9_)) 4 rfl rfl (hon 9 (by kernel_rfl)) rfl
   rw [Q_X9_ (hon 9 (by kernel_rfl))] at e8
   have i9 : a.tmps[25]? = some (m8_) := by rw [ha]; exact ky (e := (8, 25, m8_)) 3 rfl rfl (hon 8 (by kernel_rfl)) rfl
   rw [Q_X8_ (hon 8 (by kernel_rfl))] at i9
   replace ha := a_ ha
   have BK394 := a_ C5
   have HB := a_ Q_HB
   have E3 := a_ (B3 (hon 3 (by kernel_rfl)))
   have E4 := a_ (B4 (hon 5 (by kernel_rfl)))
   have E5 := a_ (B7 (hon 7 (by kernel_rfl)))
   have BK404 := a_ (Q_BK404 (hon 9 (by kernel_rfl)) hb_)
   have G5 := a_ (C7 (hon 9 (by kernel_rfl)))
   have GE404 := a_ (C8 (hon 9 (by kernel_rfl)))
   have C1 := a_ (A8 (hon 9 (by kernel_rfl)))
   have C2 := a_ (A9 (hon 9 (by kernel_rfl)))
   obtain ⟨d0, d1, L0⟩ := Kd.bg E5.out
   (first | subst L0 | (injection L0.symm with f1_ f2_ f3_; clear f2_ L0; subst f1_ f3_))
   obtain ⟨d2, d3, L1⟩ := Kd.bg E4.out
   (first | subst L1 | (injection L1.symm with f1_ f2_ f3_; clear f2_ L1; subst f1_ f3_))
   obtain ⟨d4, d5, L2⟩ := Kd.bg E3.out
   (first | subst L2 | (injection L2.symm with f1_ f2_ f3_; clear f2_ L2; subst f1_ f3_))
   have j3 : w'.cell? ⟨gb404, 0, none⟩ = some (.int .i64 0) := (ai BK404.out 0).trans rfl
   have hfs24 := bG BK404.out 0
   have O2 := C1.out
   have hms24_0 := C2.out
   have j4 : w'.cell? ⟨gb404, 1, none⟩ = some (.int .i64 0) := (ai BK404.out 1).trans rfl
   have hfs25 := bG BK404.out 1
   have O3 := C1.out
   have hms25_0 := C2.out
   have j5 : w'.cell? ⟨gb404, 2, none⟩ = some (.slice none 0 0) := (ai BK404.out 2).trans rfl
   have hfs26 := bG BK404.out 2
   have O4 := C1.out
   have hms26_0 := C2.out
   have j6 : w'.cell? ⟨gb404, 3, none⟩ = some (.slice none 0 0) := (ai BK404.out 3).trans rfl
   have hfs27 := bG BK404.out 3
   have O5 := C1.out
   have hms27_0 := C2.out
   have j7 : w'.cell? ⟨gb404, 4, none⟩ = some (.slice none 0 0) := (ai BK404.out 4).trans rfl
   have hfs28 := bG BK404.out 4
   have O6 := C1.out
   have hms28_0 := C2.out
   refine tK (w1 := ?_) (by rfl) rfl ?_ ?_
   rotate_left
   ·go_simp
    rfl
   refine hK.out _ _ ⟨.slice d4 F1.length d5, .slice d2 F6.length d3, .slice d0 F9.length d1, gb404, m8_, m9_, (by rw [ha.out]; exact vw (v := undef) rfl), (iI (h := by exact rR C1.out BK394.out)), uI, fun _ => (rc_ (h := by exact Kd.ae (gB E3.out BK404.out) (fun _ _ => trivial))), fun _ => (rc_ (h := by exact Kd.ae (gB E4.out BK404.out) (fun _ _ => trivial))), fun _ => (rc_ (h := by exact Kd.ae (gB E5.out BK404.out) (fun _ _ => trivial))), fun _ h1_ => absurd ((oP b 10).symm.trans h1_) (by decide), fun _ => G5.out, fun _ => GE404.out, fun _ => C1.out, fun _ => C2.out, fun _ => (iI (h := by exact je BK404.out)), Q_X8_, Q_X9_, C9, D0, D1⟩
  exact xL
 rintro b a d6 hall ⟨D2, D3, D4, gb404, m8_, m9_, ha, C5, Q_HB, B3, B4, B7, Q_BK404, C7, C8, A8, A9, C4, Q_X8_, Q_X9_, C9, D0, D1⟩
 clear BK394 HB
 have hb3_ := hall 3 (by kernel_rfl)
 have hb5_ := hall 5 (by kernel_rfl)
 have hb7_ := hall 7 (by kernel_rfl)
 have hb8_ := hall 8 (by kernel_rfl)
 have hb9_ := hall 9 (by kernel_rfl)
 have hb10_ := hall 10 (by kernel_rfl)
 subst ha
 obtain rfl := Q_X8_ hb8_
 obtain rfl := Q_X9_ hb9_
 simp only [iE, hb3_, hb5_, hb7_, hb8_, hb9_, hb10_, if_true, Act.put, List.setIfInBounds_toArray, List.set_cons_zero, List.set_cons_succ]
 have BK394 := a_ C5
 clear C5
 have HB := a_ Q_HB
 clear Q_HB
 have E3 := a_ (show Kd.R (Kd.int .i64) 2 d6 w.heap.size (fun k_ => some k_ ≠ (D3 : Value).ownBlock ∧ some k_ ≠ (D4 : Value).ownBlock) D2 F1 from Kd.kg (Kd.gJ (B3 hb3_)) (fun k_ hk_ => ⟨fun e_ => C9 hb3_ hb5_ k_ hk_ e_.symm, fun e_ => D0 hb3_ hb7_ k_ hk_ e_.symm⟩))
 have E4 := a_ (show Kd.R (Kd.int .i64) 2 d6 w.heap.size (fun k_ => some k_ ≠ (D2 : Value).ownBlock ∧ some k_ ≠ (D4 : Value).ownBlock) D3 F6 from Kd.kg (Kd.gJ (B4 hb5_)) (fun k_ hk_ => ⟨fun e_ => C9 hb3_ hb5_ k_ e_.symm hk_, fun e_ => D1 hb5_ hb7_ k_ hk_ e_.symm⟩))
 have E5 := a_ (show Kd.R (Kd.int .i64) 2 d6 w.heap.size (fun k_ => some k_ ≠ (D2 : Value).ownBlock ∧ some k_ ≠ (D3 : Value).ownBlock) D4 F9 from Kd.kg (Kd.gJ (B7 hb7_)) (fun k_ hk_ => ⟨fun e_ => D0 hb3_ hb7_ k_ e_.symm hk_, fun e_ => D1 hb5_ hb7_ k_ e_.symm hk_⟩))
 clear Q_BK404
 have G5 := a_ (C7 hb9_)
 clear C7
 have GE404 := a_ (C8 hb9_)
 clear C8
 have C1 := a_ (A8 hb9_)
 clear A8
 have C2 := a_ (A9 hb9_)
 clear A9
 have BK404 := a_ (C4 hb10_)
 clear C4
 clear C9 D0 D1 B3 B4 B7
 clear hall hb3_ hb5_ hb7_ hb8_ hb9_ hb10_
 obtain ⟨d7, d8, L3⟩ := Kd.bg E5.out
 (first | subst L3 | (injection L3.symm with f1_ f2_ f3_; clear f2_ L3; subst f1_ f3_))
 obtain ⟨d9, e0, L4⟩ := Kd.bg E4.out
 (first | subst L4 | (injection L4.symm with f1_ f2_ f3_; clear f2_ L4; subst f1_ f3_))
 obtain ⟨e1, e2, L5⟩ := Kd.bg E3.out
 (first | subst L5 | (injection L5.symm with f1_ f2_ f3_; clear f2_ L5; subst f1_ f3_))
 try go_wp2_with (first | ((with_reducible refine av (f := 82) rfl ?_); refine bI (some 29) rfl rfl Tryz.func82 (by kernel_rfl) rfl #[.int .i64 a0, .int .i64 a1, .string a2] rfl dL ?_; (with_reducible refine (aJ.calls k a0 a1 a2 A5 _ A7.out).mono ?_); rintro e l3 ⟨e3, rfl, ho0, hb⟩; refine ⟨_, rfl, ?_⟩; replace E3 := rl_ E3 hb; replace E4 := rl_ E4 hb; replace E5 := rl_ E5 hb; have N4 := a_ (Kd.bu ho0 (af uI)); replace BK394 := bb_ C3 BK394 hb; replace BK404 := bb_ gb404 BK404 hb; replace HB := df uI hb; (try clear hb); (try clear ho0)))
 go_loopg [10] k (fun kq v10 w' => ∃ (A1 : Int) (A2 : List Int) (A3 : List Int) (A4 : List Int) (D6 : Value) (C6 : Value) (C0 : Value), v10 = .int .i64 A1 ∧ ah (aY.l0 kq a0 A5 A1 a0 a1 A2 A3 A4 = some (r1, r2, r3, r4, r5)) ∧ ah (kq ≤ k) ∧ ah (Kd.R k64 64 w' w.heap.size (fun _ => True) e3 A5) ∧ ah (Kd.R (Kd.int .i64) 2 w' w.heap.size (fun k_ => some k_ ≠ (C6 : Value).ownBlock ∧ some k_ ≠ (C0 : Value).ownBlock) D6 A2) ∧ ah (Kd.R (Kd.int .i64) 2 w' w.heap.size (fun k_ => some k_ ≠ (D6 : Value).ownBlock ∧ some k_ ≠ (C0 : Value).ownBlock) C6 A3) ∧ ah (Kd.R (Kd.int .i64) 2 w' w.heap.size (fun k_ => some k_ ≠ (D6 : Value).ownBlock ∧ some k_ ≠ (C6 : Value).ownBlock) C0 A4) ∧ ah (w'.heap[C3]? = some (.cells #[.int .i64 0, .int .i64 0, (.slice none 0 0), (.slice none 0 0), (.slice none 0 0)] 28 (0, 0))) ∧ ah (w'.heap[gb404]? = some (.cells #[.int .i64 a0, .int .i64 a1, D6, C6, C0] 28 (0, 0))) ∧ ah (Below w.heap.size w w'))
 case atStart => exact ⟨(0), (F1), (F6), (F9), (.slice e1 F1.length e2), (.slice d9 F6.length e0), (.slice d7 F9.length d8), bZ, H', ⟨Nat.le_refl _⟩, ⟨by (with_reducible repeat (first | apply Kd.aC | apply Kd.aD | apply Kd.az)); exact N4.out⟩, ⟨by (with_reducible repeat (first | apply Kd.aC | apply Kd.aD | apply Kd.az)); exact E3.out⟩, ⟨by (with_reducible repeat (first | apply Kd.aC | apply Kd.aD | apply Kd.az)); exact E4.out⟩, ⟨by (with_reducible repeat (first | apply Kd.aC | apply Kd.aD | apply Kd.az)); exact E5.out⟩, ⟨zo⟩, ⟨zq⟩, ⟨uI⟩⟩
 case round =>
  clear H'
  try clear b7; try clear b8; try clear b9; try clear c1
  obtain ⟨A1, A2, A3, A4, D6, C6, C0, rfl, HA, HK1, D9, HO_405002, HO_405003, HO_405004, BK394, BK404, HB⟩ := hrel
  cases gk with
  | zero => exact absurd HA.out (by simp [aY.l0])
  | succ k1 =>
   have H := HA.out
   clear HA
   simp only [aY.l0] at H
   by_cases c30 : A1 < (A5.length : Int)
   ·rw [if_pos c30] at H
    have K7 := decide_eq_true c30
    clear c30
    replace H := ig_ H; obtain ⟨c31, H⟩ := H
    have N5 := decide_eq_true c31
    clear c31
    replace H := bo_ H; obtain ⟨N6, j8, H⟩ := H; (try dsimp only at H)
    have L6 := a_ H
    clear H
    obtain ⟨j9, e4, e5⟩ := Kd.bg D9.out
    subst e5
    have I9 : 0 ≤ (A1 : Int) := of_decide_eq_true aG
    have J0 : A1 < (A5.length : Int) := of_decide_eq_true aG
    obtain ⟨N7, e6, J1, J2, J3, J4⟩ := qP (Kd.aH D9.out).2.2 A1 I9 J0
    cases e6
    replace I9 := eq_true I9
    replace J0 := eq_true J0
    go_upto_if 47 with (first | ((with_reducible refine bf (N := 11) rfl ?_); refine cz ?hg (N := 11) ?hd (cs := #[.int .i64 0, .int .i64 0, .bool false, .bool false]) (t := 64) ?hr ?_; (case hd => rfl); (case hg => rfl); (case hr => first | (go_simp; done) | (go_simp; rfl)); intro B0 hg k0 hbox hb; replace D9 := a_ (Kd.dN (Kd.jL (ra_ D9.out) B0 (Nat.le_of_eq hg.symm)) hb); replace HO_405002 := rl_ HO_405002 hb; replace HO_405003 := rl_ HO_405003 hb; replace HO_405004 := rl_ HO_405004 hb; have A6 := a_ (hbox); have i0 := a_ ((by rw [hg]; exact (af uI) : w.heap.size ≤ B0)); have GE409 := a_ ((by rw [hg]; exact (af uI) : w.heap.size ≤ B0)); replace HB := df uI hb; have E8 := a_ ((by rw [hg]; exact Nat.ne_of_lt (fF (g := C3) (rb_ BK394.out)) : C3 ≠ B0)); have F7 := a_ ((by rw [hg]; exact Nat.ne_of_gt (fF (g := C3) (rb_ BK394.out)) : B0 ≠ C3)); replace BK394 := bb_ C3 BK394 hb; have E9 := a_ ((by rw [hg]; exact Nat.ne_of_lt (fF (g := gb404) (rb_ BK404.out)) : gb404 ≠ B0)); have F8 := a_ ((by rw [hg]; exact Nat.ne_of_gt (fF (g := gb404) (rb_ BK404.out)) : B0 ≠ gb404)); replace BK404 := bb_ gb404 BK404 hb; clear hb hbox hg; have hnb36 := F7.out; have hnc36 := E8.out; have hnb37 := F8.out; have hnc37 := E9.out; obtain ⟨J5, J6, J7, J8, J9, K0, K1, K2⟩ := oz (w := k0) A6.out) | ((with_reducible refine av (f := 83) rfl ?_); refine bI (some 47) rfl rfl Tryz.func83 (by kernel_rfl) rfl #[.agg #[.int .i64 ((aa A5 A1).f0), .int .i64 ((aa A5 A1).f1), .bool ((aa A5 A1).f2), .bool ((aa A5 A1).f3)]] rfl dL ?_; (with_reducible refine (fJ.calls ((aa A5 A1).f0) ((aa A5 A1).f1) ((aa A5 A1).f2) ((aa A5 A1).f3) N6 _ j8.out).mono ?_); rintro e l4 ⟨rfl, hb⟩; refine ⟨_, rfl, ?_⟩; replace D9 := a_ (Kd.dN (rc_ (h := by exact Kd.ae (Kd.bV (p := ⟨B0, 3, none⟩) (Kd.bV (p := ⟨B0, 2, none⟩) (Kd.bV (p := ⟨B0, 1, none⟩) (Kd.bV (p := ⟨B0, 0, none⟩) (Kd.ae D9.out (fun k_ hk => (⟨hk, hk.2⟩ : _ ∧ k_ ≠ B0))) (fun _ hk => hk.2) (.int .i64 ((aa A5 A1).f0))) (fun _ hk => hk.2) (.int .i64 ((aa A5 A1).f1))) (fun _ hk => hk.2) (.bool ((aa A5 A1).f2))) (fun _ hk => hk.2) (.bool ((aa A5 A1).f3))) (fun _ h_ => h_.1))) hb); replace HO_405002 := a_ (Kd.dN (rc_ (h := by exact Kd.ae (uF HO_405002.out A6.out) (fun _ h_ => h_.1))) hb); replace HO_405003 := a_ (Kd.dN (rc_ (h := by exact Kd.ae (uF HO_405003.out A6.out) (fun _ h_ => h_.1))) hb); replace HO_405004 := a_ (Kd.dN (rc_ (h := by exact Kd.ae (uF HO_405004.out A6.out) (fun _ h_ => h_.1))) hb); replace BK394 := a_ (dS (g := C3) (o := .cells #[.int .i64 0, .int .i64 0, .slice none 0 0, .slice none 0 0, .slice none 0 0] 28 (0, 0)) (iI (h := by exact uP E8.out BK394.out)) hb); replace BK404 := a_ (dS (g := gb404) (o := .cells #[.int .i64 a0, .int .i64 a1, D6, C6, C0] 28 (0, 0)) (iI (h := by exact uP E9.out BK404.out)) hb); replace A6 := a_ (dS (g := B0) (o := .cells #[.int .i64 ((aa A5 A1).f0), .int .i64 ((aa A5 A1).f1), .bool ((aa A5 A1).f2), .bool ((aa A5 A1).f3)] 64 (0, 0)) (iI (h := by exact nS A6.out)) hb); replace HB := df z9_ hb; (try clear hb); (try clear hk)))
    (try simp only [Act.put, List.setIfInBounds_toArray, List.set_cons_zero, List.set_cons_succ])
    go_cut [12, 13] (fun v12 v13 wc => ∃ (kq : Nat) (E2 : Int) (D8 : Int), v12 = .int .i64 E2 ∧ v13 = .int .i64 D8 ∧ ah (aY.j1 kq a0 A5 A1 E2 D8 a0 a1 A2 A3 A4 ((aa A5 A1).f0) ((aa A5 A1).f1) ((aa A5 A1).f2) ((aa A5 A1).f3) = some (r1, r2, r3, r4, r5)) ∧ ah (kq ≤ k1) ∧ ah (Kd.R k64 64 wc w.heap.size (fun k_ => k_ ≠ B0) (.slice (some N7) A5.length e4) A5) ∧ ah (Kd.R (Kd.int .i64) 2 wc w.heap.size (fun k_ => some k_ ≠ (C6 : Value).ownBlock ∧ some k_ ≠ (C0 : Value).ownBlock) D6 A2) ∧ ah (Kd.R (Kd.int .i64) 2 wc w.heap.size (fun k_ => some k_ ≠ (D6 : Value).ownBlock ∧ some k_ ≠ (C0 : Value).ownBlock) C6 A3) ∧ ah (Kd.R (Kd.int .i64) 2 wc w.heap.size (fun k_ => some k_ ≠ (D6 : Value).ownBlock ∧ some k_ ≠ (C6 : Value).ownBlock) C0 A4) ∧ ah (wc.heap[C3]? = some (.cells #[.int .i64 0, .int .i64 0, (.slice none 0 0), (.slice none 0 0), (.slice none 0 0)] 28 (0, 0))) ∧ ah (wc.heap[gb404]? = some (.cells #[.int .i64 a0, .int .i64 a1, D6, C6, C0] 28 (0, 0))) ∧ ah (wc.heap[B0]? = some (.cells #[.int .i64 ((aa A5 A1).f0), .int .i64 ((aa A5 A1).f1), .bool ((aa A5 A1).f2), .bool ((aa A5 A1).f3)] 64 (0, 0))) ∧ ah (Below w.heap.size w wc))
    case first =>
     have H := L6.out
     clear L6
     by_cases c40 : N6 = true
     ·subst c40
      have H1 : (aY.j1 k1 a0 A5 A1 (wrap64 ((wrap64 (2 * A1)) + 2)) (wrap64 ((wrap64 (2 * A1)) + 1)) a0 a1 A2 A3 A4 ((aa A5 A1).f0) ((aa A5 A1).f1) ((aa A5 A1).f2) ((aa A5 A1).f3)) = some (r1, r2, r3, r4, r5) := by rw [if_pos rfl] at H; exact H
      clear H
      have H := H1
      clear H1
      have H' := a_ H
      clear H
      go_wp2
      go_meet
      case rel => exact ⟨_, (wrap64 ((wrap64 (2 * A1)) + 2)), (wrap64 ((wrap64 (2 * A1)) + 1)), bZ, bZ, H', ⟨nO⟩, ⟨by (with_reducible repeat (first | apply Kd.aC | apply Kd.aD | apply Kd.az)); exact Kd.ae D9.out (fun _ hk => hk.2)⟩, ⟨Ce⟩, ⟨zk⟩, ⟨xh⟩, ⟨zo⟩, ⟨zq⟩, ⟨by (with_reducible repeat (first | refine dz ?_ _ | refine bU ?_ | refine dx ?_ _)); exact A6.out⟩, ⟨z9_⟩⟩
     ·replace c40 := Bool.eq_false_iff.mpr c40
      subst c40
      have H1 : (aY.j1 k1 a0 A5 A1 (wrap64 ((wrap64 (2 * A1)) + 1)) (wrap64 ((wrap64 (2 * A1)) + 2)) a0 a1 A2 A3 A4 ((aa A5 A1).f0) ((aa A5 A1).f1) ((aa A5 A1).f2) ((aa A5 A1).f3)) = some (r1, r2, r3, r4, r5) := by rw [if_neg (show ¬ (false = true) by decide)] at H; exact H
      clear H
      have H := H1
      clear H1
      have H' := a_ H
      clear H
      go_wp2
      go_meet
      case rel => exact ⟨_, (wrap64 ((wrap64 (2 * A1)) + 1)), (wrap64 ((wrap64 (2 * A1)) + 2)), bZ, bZ, H', ⟨nO⟩, ⟨by (with_reducible repeat (first | apply Kd.aC | apply Kd.aD | apply Kd.az)); exact Kd.ae D9.out (fun _ hk => hk.2)⟩, ⟨Ce⟩, ⟨zk⟩, ⟨xh⟩, ⟨zo⟩, ⟨zq⟩, ⟨by (with_reducible repeat (first | refine dz ?_ _ | refine bU ?_ | refine dx ?_ _)); exact A6.out⟩, ⟨z9_⟩⟩
    case rest =>
     clear L6; try clear K7; try clear N5; try clear J5 J6 J7 J8; try clear J9 K0 K1 K2; try clear J1; try clear J2; try clear J3; try clear J4; try clear I9; try clear J0
     obtain ⟨kq, E2, D8, rfl, rfl, HA, K3, D9, HO_405002, HO_405003, HO_405004, BK394, BK404, A6, HB⟩ := hcut
     cases kq with
     | zero => exact absurd HA.out (by simp [aY.j1])
     | succ G0 =>
      have H := HA.out
      clear HA
      simp only [aY.j1] at H
      obtain ⟨D5, H6⟩ : ∃ j_ : Int, (wrap64 ((wrap64 (((aa A5 A1).f1) * a0)) + ((aa A5 A1).f0))) = j_ := ⟨_, rfl⟩
      replace H : (if 0 ≤ (D5) then (if (D5) < (A2.length : Int) then ((some (A2.set ((D5) : Int).toNat E2 : List Int)).bind fun F5 => (if 0 ≤ (wrap64 ((wrap64 ((wrap64 ((wrap64 (((aa A5 A1).f1) * a0)) + a0)) - 1)) - ((aa A5 A1).f0))) then (if (wrap64 ((wrap64 ((wrap64 ((wrap64 (((aa A5 A1).f1) * a0)) + a0)) - 1)) - ((aa A5 A1).f0))) < (A3.length : Int) then ((some (A3.set ((wrap64 ((wrap64 ((wrap64 ((wrap64 (((aa A5 A1).f1) * a0)) + a0)) - 1)) - ((aa A5 A1).f0))) : Int).toNat D8 : List Int)).bind fun F0 => (if ((aa A5 A1).f3) = true then (if (D5) < (A4.length : Int) then (aY.l0 G0 a0 A5 (wrap64 (A1 + 1)) a0 a1 F5 F0 (A4.set ((D5) : Int).toNat 1)) else (none)) else (aY.l0 G0 a0 A5 (wrap64 (A1 + 1)) a0 a1 F5 F0 A4))) else (none)) else (none))) else (none)) else (none)) = some (r1, r2, r3, r4, r5) := by first | (rw [H6] at H; exact H) | (simp only [H6] at H ⊢; exact H)
      have hji41w : (IntKind.i64.wrap ((wrap64 (((aa A5 A1).f1) * a0)) + ((aa A5 A1).f0))) = D5 := (eU _).trans H6
      replace H := ig_ H; obtain ⟨c42, H⟩ := H
      have i1 := decide_eq_true c42
      clear c42
      replace H := ig_ H; obtain ⟨c43, H⟩ := H
      have i2 := decide_eq_true c43
      clear c43
      obtain ⟨F5, H7⟩ : ∃ y_ : List Int, y_ = (A2.set ((D5) : Int).toNat E2) := ⟨_, rfl⟩
      replace H : (if 0 ≤ (wrap64 ((wrap64 ((wrap64 ((wrap64 (((aa A5 A1).f1) * a0)) + a0)) - 1)) - ((aa A5 A1).f0))) then (if (wrap64 ((wrap64 ((wrap64 ((wrap64 (((aa A5 A1).f1) * a0)) + a0)) - 1)) - ((aa A5 A1).f0))) < (A3.length : Int) then ((some (A3.set ((wrap64 ((wrap64 ((wrap64 ((wrap64 (((aa A5 A1).f1) * a0)) + a0)) - 1)) - ((aa A5 A1).f0))) : Int).toNat D8 : List Int)).bind fun F0 => (if ((aa A5 A1).f3) = true then (if (D5) < (A4.length : Int) then (aY.l0 G0 a0 A5 (wrap64 (A1 + 1)) a0 a1 F5 F0 (A4.set ((D5) : Int).toNat 1)) else (none)) else (aY.l0 G0 a0 A5 (wrap64 (A1 + 1)) a0 a1 F5 F0 A4))) else (none)) else (none)) = some (r1, r2, r3, r4, r5) := rh_ H7 H
      have K8 := a_ H7
      clear H7
      obtain ⟨E6, H8⟩ : ∃ j_ : Int, (wrap64 ((wrap64 ((wrap64 ((wrap64 (((aa A5 A1).f1) * a0)) + a0)) - 1)) - ((aa A5 A1).f0))) = j_ := ⟨_, rfl⟩
      replace H : (if 0 ≤ (E6) then (if (E6) < (A3.length : Int) then ((some (A3.set ((E6) : Int).toNat D8 : List Int)).bind fun F0 => (if ((aa A5 A1).f3) = true then (if (D5) < (A4.length : Int) then (aY.l0 G0 a0 A5 (wrap64 (A1 + 1)) a0 a1 F5 F0 (A4.set ((D5) : Int).toNat 1)) else (none)) else (aY.l0 G0 a0 A5 (wrap64 (A1 + 1)) a0 a1 F5 F0 A4))) else (none)) else (none)) = some (r1, r2, r3, r4, r5) := by first | (rw [H8] at H; exact H) | (simp only [H8] at H ⊢; exact H)
      have hji45w : (IntKind.i64.wrap ((wrap64 ((wrap64 ((wrap64 (((aa A5 A1).f1) * a0)) + a0)) - 1)) - ((aa A5 A1).f0))) = E6 := (eU _).trans H8
      replace H := ig_ H; obtain ⟨c46, H⟩ := H
      have i3 := decide_eq_true c46
      clear c46
      replace H := ig_ H; obtain ⟨c47, H⟩ := H
      have i4 := decide_eq_true c47
      clear c47
      obtain ⟨F0, H9⟩ : ∃ y_ : List Int, y_ = (A3.set ((E6) : Int).toNat D8) := ⟨_, rfl⟩
      replace H : (if ((aa A5 A1).f3) = true then (if (D5) < (A4.length : Int) then (aY.l0 G0 a0 A5 (wrap64 (A1 + 1)) a0 a1 F5 F0 (A4.set ((D5) : Int).toNat 1)) else (none)) else (aY.l0 G0 a0 A5 (wrap64 (A1 + 1)) a0 a1 F5 F0 A4)) = some (r1, r2, r3, r4, r5) := rh_ H9 H
      have K9 := a_ H9
      clear H9
      by_cases c49 : ((aa A5 A1).f3) = true
      ·rw [if_pos c49] at H
       have N8 : ((aa A5 A1).f3) = true := c49
       clear c49
       replace H := ig_ H; obtain ⟨c50, H⟩ := H
       have i5 := decide_eq_true c50
       clear c50
       obtain ⟨L7, I0⟩ : ∃ y_ : List Int, y_ = (A4.set ((D5) : Int).toNat 1) := ⟨_, rfl⟩
       replace H : (aY.l0 G0 a0 A5 (wrap64 (A1 + 1)) a0 a1 F5 F0 L7) = some (r1, r2, r3, r4, r5) := rh_ I0 H
       have N9 := a_ I0
       clear I0
       have H' := a_ H
       clear H
       have hnb52 := C2.out
       have hnc52 := C1.out
       have hnb53 := E9.out
       have hnc53 := F8.out
       obtain ⟨O7, O8, O9, P0, P1, P2, P3, P4, P5, P6⟩ := eH (w := wc) BK404.out
       have hnb55 := F7.out
       have hnc55 := E8.out
       obtain ⟨P7, P8, P9, Q0, Q1, Q2, Q3, Q4⟩ := oz (w := wc) A6.out
       have L8 : 0 ≤ ((D5) : Int) := of_decide_eq_true aG
       have L9 : ((D5) : Int) < ((A2.length : Int) : Int) := of_decide_eq_true aG
       obtain ⟨D7, E0, I1, I2, gl44, cl44, HG44⟩ := Kd.lI HO_405002.out (by omega)
       (first | cases I1 | (injection I1 with ea_ en_ ec_; (first | subst ea_ | (injection ea_ with ea_; subst ea_)); subst ec_; clear en_))
       have M0 := a_ I2
       have e7 := a_ HG44
       clear I2 gl44 HG44
       obtain ⟨M1, M2⟩ := Kd.jA 0 HO_405002.out ((D5) : Int) L8 L9
       replace L8 := eq_true L8
       replace L9 := eq_true L9
       have M3 := Kd.oU HO_405002.out ((D5) : Int) E2
       go_wp2_with (first | ((with_reducible refine jW (t := 2) (p := 60) rfl ?_); refine jJ (t := 2) (p := 60) (v := ?vo_w58) (w1 := (wc.setCell ⟨D7, ((D5) : Int).toNat, none⟩ (.int .i64 E2))) ?hg ?ho ?hn ?hr ?_; (case ho => rfl); (case hg => rfl); (case hn => rfl); (case hr => first | (go_simp; done) | (go_simp; rfl)); intro I5 hw; have hg : wc.grownBy I5 (some D7) := (by rw [hw]; exact M3.2); have hp_ : Kd.R (Kd.int .i64) 2 I5 w.heap.size (fun k_ => some k_ ≠ (C6 : Value).ownBlock ∧ some k_ ≠ (C0 : Value).ownBlock) (.slice (some ⟨D7, 0, none⟩) A2.length E0) F5 := (by rw [hw, K8.out]; exact M3.1); clear M3; replace D9 := a_ (Kd.iH (v := (.slice (some ⟨D7, 0, none⟩) A2.length E0)) (ra_ D9.out) (Kd.fV HO_405002.out) (by decide) hg); replace HO_405003 := a_ (Kd.dn (v := (.slice (some ⟨D7, 0, none⟩) A2.length E0)) (v1 := (.slice (some ⟨D7, 0, none⟩) A2.length E0)) (ok := (fun k_ => some k_ ≠ (C0 : Value).ownBlock)) (rc_ (h := by exact Kd.ae HO_405003.out (fun _ hk => ⟨hk.2, hk.1⟩))) hg (.inl rfl)); replace HO_405004 := a_ (Kd.dn (v := (.slice (some ⟨D7, 0, none⟩) A2.length E0)) (v1 := (.slice (some ⟨D7, 0, none⟩) A2.length E0)) (ok := (fun k_ => some k_ ≠ (C6 : Value).ownBlock)) (rc_ (h := by exact Kd.ae HO_405004.out (fun _ hk => ⟨hk.2, hk.1⟩))) hg (.inl rfl)); replace BK394 := a_ (dA (g := C3) (rb_ BK394.out) hg (Kd.gp HO_405002.out BK394.out (by decide))); replace BK404 := a_ (dA (g := gb404) (rb_ BK404.out) hg (Kd.gp HO_405002.out BK404.out (by decide))); replace A6 := a_ (dA (g := B0) (rb_ A6.out) hg (Kd.gp HO_405002.out A6.out (by decide))); replace HO_405002 := a_ (hp_); replace HB := a_ ((by rw [hw]; exact bi (HB.out) M0.out : Below w.heap.size w I5)); clear hg hw hp_; obtain ⟨Q5, Q6, Q7, Q8, Q9, R0, R1, R2, R3, R4⟩ := eH (w := I5) BK404.out; have R5 : I5.cell? ⟨B0, 0, none⟩ = some (.int .i64 ((aa A5 A1).f0)) := (ai A6.out 0).trans rfl; have R6 : I5.cell? ⟨B0, 1, none⟩ = some (.int .i64 ((aa A5 A1).f1)) := (ai A6.out 1).trans rfl; have R7 : I5.cell? ⟨B0, 2, none⟩ = some (.bool ((aa A5 A1).f2)) := (ai A6.out 2).trans rfl; have R8 : I5.cell? ⟨B0, 3, none⟩ = some (.bool ((aa A5 A1).f3)) := (ai A6.out 3).trans rfl; have R9 := bG A6.out 0; have S0 := bG A6.out 1; have S1 := bG A6.out 2; have S2 := bG A6.out 3; have M4 : 0 ≤ ((E6) : Int) := of_decide_eq_true aG; have M5 : ((E6) : Int) < ((A3.length : Int) : Int) := of_decide_eq_true aG; obtain ⟨E1, E7, I3, I4, gl48, cl48, HG48⟩ := Kd.lI HO_405003.out (by omega); (first | cases I3 | (injection I3 with ea_ en_ ec_; (first | subst ea_ | (injection ea_ with ea_; subst ea_)); subst ec_; clear en_)); have M6 := a_ I4; have e9 := a_ HG48; clear I4 gl48 HG48; obtain ⟨M7, M8⟩ := Kd.jA 0 HO_405003.out ((E6) : Int) M4 M5; replace M4 := eq_true M4; replace M5 := eq_true M5; obtain ⟨i6, hz61_⟩ := Kd.jA 0 HO_405003.out ((E6) : Int) (of_decide_eq_true aG) (of_decide_eq_true aG); have M9 := Kd.oU HO_405003.out ((E6) : Int) D8) | ((with_reducible refine jW (t := 2) (p := 74) rfl ?_); refine jJ (t := 2) (p := 74) (v := ?vo_w62) (w1 := (I5.setCell ⟨E1, ((E6) : Int).toNat, none⟩ (.int .i64 D8))) ?hg ?ho ?hn ?hr ?_; (case ho => rfl); (case hg => rfl); (case hn => rfl); (case hr => first | (go_simp; done) | (go_simp; rfl)); intro I6 hw; have hg : I5.grownBy I6 (some E1) := (by rw [hw]; exact M9.2); have hp_ : Kd.R (Kd.int .i64) 2 I6 w.heap.size (fun k_ => some k_ ≠ (C0 : Value).ownBlock ∧ some k_ ≠ (.slice (some ⟨D7, 0, none⟩) A2.length E0 : Value).ownBlock) (.slice (some ⟨E1, 0, none⟩) A3.length E7) F0 := (by rw [hw, K9.out]; exact M9.1); clear M9; replace D9 := a_ (Kd.iH (v := (.slice (some ⟨E1, 0, none⟩) A3.length E7)) (ra_ D9.out) (Kd.fV HO_405003.out) (by decide) hg); replace HO_405002 := a_ (Kd.dn (v := (.slice (some ⟨E1, 0, none⟩) A3.length E7)) (v1 := (.slice (some ⟨E1, 0, none⟩) A3.length E7)) (ok := (fun k_ => some k_ ≠ (C0 : Value).ownBlock)) (rc_ (h := by exact Kd.ae HO_405002.out (fun _ hk => ⟨hk.2, hk.1⟩))) hg (.inl rfl)); replace HO_405004 := a_ (Kd.dn (v := (.slice (some ⟨E1, 0, none⟩) A3.length E7)) (v1 := (.slice (some ⟨E1, 0, none⟩) A3.length E7)) (ok := (fun k_ => some k_ ≠ (.slice (some ⟨D7, 0, none⟩) A2.length E0 : Value).ownBlock)) (rc_ (h := by exact Kd.ae HO_405004.out (fun _ hk => ⟨hk.2, hk.1⟩))) hg (.inl rfl)); replace BK394 := a_ (dA (g := C3) (rb_ BK394.out) hg (Kd.gp HO_405003.out BK394.out (by decide))); replace BK404 := a_ (dA (g := gb404) (rb_ BK404.out) hg (Kd.gp HO_405003.out BK404.out (by decide))); replace A6 := a_ (dA (g := B0) (rb_ A6.out) hg (Kd.gp HO_405003.out A6.out (by decide))); replace HO_405003 := a_ (hp_); replace HB := a_ ((by rw [hw]; exact bi (HB.out) M6.out : Below w.heap.size w I6)); clear hg hw hp_; have S3 : I6.cell? ⟨B0, 0, none⟩ = some (.int .i64 ((aa A5 A1).f0)) := (ai A6.out 0).trans rfl; have S4 : I6.cell? ⟨B0, 1, none⟩ = some (.int .i64 ((aa A5 A1).f1)) := (ai A6.out 1).trans rfl; have S5 : I6.cell? ⟨B0, 2, none⟩ = some (.bool ((aa A5 A1).f2)) := (ai A6.out 2).trans rfl; have S6 : I6.cell? ⟨B0, 3, none⟩ = some (.bool ((aa A5 A1).f3)) := (ai A6.out 3).trans rfl; have S7 := bG A6.out 0; have S8 := bG A6.out 1; have S9 := bG A6.out 2; have T0 := bG A6.out 3; obtain ⟨T3, T4, T7, U0, U1, U2, U3, U4, U5, U6⟩ := eH (w := I6) BK404.out; have f4 : 0 ≤ ((D5) : Int) := of_decide_eq_true aG; have f7 : ((D5) : Int) < ((A4.length : Int) : Int) := of_decide_eq_true aG; obtain ⟨G2, G4, O0, O1, gl51, cl51, HG51⟩ := Kd.lI HO_405004.out (by omega); (first | cases O0 | (injection O0 with ea_ en_ ec_; (first | subst ea_ | (injection ea_ with ea_; subst ea_)); subst ec_; clear en_)); have f9 := a_ O1; have k2 := a_ HG51; clear O1 gl51 HG51; obtain ⟨g1, g2⟩ := Kd.jA 0 HO_405004.out ((D5) : Int) f4 f7; replace f4 := eq_true f4; replace f7 := eq_true f7; obtain ⟨i7, hz65_⟩ := Kd.jA 0 HO_405004.out ((D5) : Int) (of_decide_eq_true aG) (of_decide_eq_true aG); have N0 := Kd.oU HO_405004.out ((D5) : Int) 1) | ((with_reducible refine jW (t := 2) (p := 86) rfl ?_); refine jJ (t := 2) (p := 86) (v := ?vo_w66) (w1 := (I6.setCell ⟨G2, ((D5) : Int).toNat, none⟩ (.int .i64 1))) ?hg ?ho ?hn ?hr ?_; (case ho => rfl); (case hg => rfl); (case hn => rfl); (case hr => first | (go_simp; done) | (go_simp; rfl)); intro g3 hw; have hg : I6.grownBy g3 (some G2) := (by rw [hw]; exact N0.2); have hp_ : Kd.R (Kd.int .i64) 2 g3 w.heap.size (fun k_ => some k_ ≠ (.slice (some ⟨D7, 0, none⟩) A2.length E0 : Value).ownBlock ∧ some k_ ≠ (.slice (some ⟨E1, 0, none⟩) A3.length E7 : Value).ownBlock) (.slice (some ⟨G2, 0, none⟩) A4.length G4) L7 := (by rw [hw, N9.out]; exact N0.1); clear N0; replace D9 := a_ (Kd.iH (v := (.slice (some ⟨G2, 0, none⟩) A4.length G4)) (ra_ D9.out) (Kd.fV HO_405004.out) (by decide) hg); replace HO_405002 := a_ (Kd.dn (v := (.slice (some ⟨G2, 0, none⟩) A4.length G4)) (v1 := (.slice (some ⟨G2, 0, none⟩) A4.length G4)) (ok := (fun k_ => some k_ ≠ (.slice (some ⟨E1, 0, none⟩) A3.length E7 : Value).ownBlock)) (rc_ (h := by exact Kd.ae HO_405002.out (fun _ hk => ⟨hk.2, hk.1⟩))) hg (.inl rfl)); replace HO_405003 := a_ (Kd.dn (v := (.slice (some ⟨G2, 0, none⟩) A4.length G4)) (v1 := (.slice (some ⟨G2, 0, none⟩) A4.length G4)) (ok := (fun k_ => some k_ ≠ (.slice (some ⟨D7, 0, none⟩) A2.length E0 : Value).ownBlock)) (rc_ (h := by exact Kd.ae HO_405003.out (fun _ hk => ⟨hk.2, hk.1⟩))) hg (.inl rfl)); replace BK394 := a_ (dA (g := C3) (rb_ BK394.out) hg (Kd.gp HO_405004.out BK394.out (by decide))); replace BK404 := a_ (dA (g := gb404) (rb_ BK404.out) hg (Kd.gp HO_405004.out BK404.out (by decide))); replace A6 := a_ (dA (g := B0) (rb_ A6.out) hg (Kd.gp HO_405004.out A6.out (by decide))); replace HO_405004 := a_ (hp_); replace HB := a_ ((by rw [hw]; exact bi (HB.out) f9.out : Below w.heap.size w g3)); clear hg hw hp_))
       go_roundg G0
       case measure => have := HK1.out; have := K3.out; omega
       case rel => exact ⟨(wrap64 (A1 + 1)), (F5), (F0), (L7), (.slice (some ⟨D7, 0, none⟩) A2.length E0), (.slice (some ⟨E1, 0, none⟩) A3.length E7), (.slice (some ⟨G2, 0, none⟩) A4.length G4), bZ, H', ⟨by have := HK1.out; have := K3.out; omega⟩, ⟨by (with_reducible repeat (first | apply Kd.aC | apply Kd.aD | apply Kd.az)); exact Kd.ae D9.out (fun _ hk => trivial)⟩, ⟨Ce⟩, ⟨zk⟩, ⟨xh⟩, ⟨zo⟩, ⟨zq⟩, ⟨z9_⟩⟩
      rw [if_neg c49] at H
      have N8 : ((aa A5 A1).f3) = false := by simpa using c49
      clear c49
      have H' := a_ H
      clear H
      have hnb67 := C2.out
      have hnc67 := C1.out
      have hnb68 := E9.out
      have hnc68 := F8.out
      obtain ⟨U7, U8, U9, V0, V1, V2, V3, V4, V5, V6⟩ := eH (w := wc) BK404.out
      have hnb70 := F7.out
      have hnc70 := E8.out
      obtain ⟨V7, V8, V9, W0, W1, W3, W4, W5⟩ := oz (w := wc) A6.out
      have L8 : 0 ≤ ((D5) : Int) := of_decide_eq_true aG
      have L9 : ((D5) : Int) < ((A2.length : Int) : Int) := of_decide_eq_true aG
      obtain ⟨D7, E0, I1, I2, gl44, cl44, HG44⟩ := Kd.lI HO_405002.out (by omega)
      (first | cases I1 | (injection I1 with ea_ en_ ec_; (first | subst ea_ | (injection ea_ with ea_; subst ea_)); subst ec_; clear en_))
      have M0 := a_ I2
      have e7 := a_ HG44
      clear I2 gl44 HG44
      obtain ⟨M1, M2⟩ := Kd.jA 0 HO_405002.out ((D5) : Int) L8 L9
      replace L8 := eq_true L8
      replace L9 := eq_true L9
      have N1 := Kd.oU HO_405002.out ((D5) : Int) E2
      go_wp2_with (first | ((with_reducible refine jW (t := 2) (p := 60) rfl ?_); refine jJ (t := 2) (p := 60) (v := ?vo_w73) (w1 := (wc.setCell ⟨D7, ((D5) : Int).toNat, none⟩ (.int .i64 E2))) ?hg ?ho ?hn ?hr ?_; (case ho => rfl); (case hg => rfl); (case hn => rfl); (case hr => first | (go_simp; done) | (go_simp; rfl)); intro I7 hw; have hg : wc.grownBy I7 (some D7) := (by rw [hw]; exact N1.2); have hp_ : Kd.R (Kd.int .i64) 2 I7 w.heap.size (fun k_ => some k_ ≠ (C6 : Value).ownBlock ∧ some k_ ≠ (C0 : Value).ownBlock) (.slice (some ⟨D7, 0, none⟩) A2.length E0) F5 := (by rw [hw, K8.out]; exact N1.1); clear N1; replace D9 := a_ (Kd.iH (v := (.slice (some ⟨D7, 0, none⟩) A2.length E0)) (ra_ D9.out) (Kd.fV HO_405002.out) (by decide) hg); replace HO_405003 := a_ (Kd.dn (v := (.slice (some ⟨D7, 0, none⟩) A2.length E0)) (v1 := (.slice (some ⟨D7, 0, none⟩) A2.length E0)) (ok := (fun k_ => some k_ ≠ (C0 : Value).ownBlock)) (rc_ (h := by exact Kd.ae HO_405003.out (fun _ hk => ⟨hk.2, hk.1⟩))) hg (.inl rfl)); replace HO_405004 := a_ (Kd.dn (v := (.slice (some ⟨D7, 0, none⟩) A2.length E0)) (v1 := (.slice (some ⟨D7, 0, none⟩) A2.length E0)) (ok := (fun k_ => some k_ ≠ (C6 : Value).ownBlock)) (rc_ (h := by exact Kd.ae HO_405004.out (fun _ hk => ⟨hk.2, hk.1⟩))) hg (.inl rfl)); replace BK394 := a_ (dA (g := C3) (rb_ BK394.out) hg (Kd.gp HO_405002.out BK394.out (by decide))); replace BK404 := a_ (dA (g := gb404) (rb_ BK404.out) hg (Kd.gp HO_405002.out BK404.out (by decide))); replace A6 := a_ (dA (g := B0) (rb_ A6.out) hg (Kd.gp HO_405002.out A6.out (by decide))); replace HO_405002 := a_ (hp_); replace HB := a_ ((by rw [hw]; exact bi (HB.out) M0.out : Below w.heap.size w I7)); clear hg hw hp_; obtain ⟨W6, W7, W8, W9, X0, X1, X2, X3, X4, X5⟩ := eH (w := I7) BK404.out; have X6 : I7.cell? ⟨B0, 0, none⟩ = some (.int .i64 ((aa A5 A1).f0)) := (ai A6.out 0).trans rfl; have X7 : I7.cell? ⟨B0, 1, none⟩ = some (.int .i64 ((aa A5 A1).f1)) := (ai A6.out 1).trans rfl; have X8 : I7.cell? ⟨B0, 2, none⟩ = some (.bool ((aa A5 A1).f2)) := (ai A6.out 2).trans rfl; have X9 : I7.cell? ⟨B0, 3, none⟩ = some (.bool ((aa A5 A1).f3)) := (ai A6.out 3).trans rfl; have Y0 := bG A6.out 0; have Y1 := bG A6.out 1; have Y2 := bG A6.out 2; have Y3 := bG A6.out 3; have M4 : 0 ≤ ((E6) : Int) := of_decide_eq_true aG; have M5 : ((E6) : Int) < ((A3.length : Int) : Int) := of_decide_eq_true aG; obtain ⟨E1, E7, I3, I4, gl48, cl48, HG48⟩ := Kd.lI HO_405003.out (by omega); (first | cases I3 | (injection I3 with ea_ en_ ec_; (first | subst ea_ | (injection ea_ with ea_; subst ea_)); subst ec_; clear en_)); have M6 := a_ I4; have e9 := a_ HG48; clear I4 gl48 HG48; obtain ⟨M7, M8⟩ := Kd.jA 0 HO_405003.out ((E6) : Int) M4 M5; replace M4 := eq_true M4; replace M5 := eq_true M5; obtain ⟨i8, hz76_⟩ := Kd.jA 0 HO_405003.out ((E6) : Int) (of_decide_eq_true aG) (of_decide_eq_true aG); have N2 := Kd.oU HO_405003.out ((E6) : Int) D8) | ((with_reducible refine jW (t := 2) (p := 74) rfl ?_); refine jJ (t := 2) (p := 74) (v := ?vo_w77) (w1 := (I7.setCell ⟨E1, ((E6) : Int).toNat, none⟩ (.int .i64 D8))) ?hg ?ho ?hn ?hr ?_; (case ho => rfl); (case hg => rfl); (case hn => rfl); (case hr => first | (go_simp; done) | (go_simp; rfl)); intro N3 hw; have hg : I7.grownBy N3 (some E1) := (by rw [hw]; exact N2.2); have hp_ : Kd.R (Kd.int .i64) 2 N3 w.heap.size (fun k_ => some k_ ≠ (C0 : Value).ownBlock ∧ some k_ ≠ (.slice (some ⟨D7, 0, none⟩) A2.length E0 : Value).ownBlock) (.slice (some ⟨E1, 0, none⟩) A3.length E7) F0 := (by rw [hw, K9.out]; exact N2.1); clear N2; replace D9 := a_ (Kd.iH (v := (.slice (some ⟨E1, 0, none⟩) A3.length E7)) (ra_ D9.out) (Kd.fV HO_405003.out) (by decide) hg); replace HO_405002 := a_ (Kd.dn (v := (.slice (some ⟨E1, 0, none⟩) A3.length E7)) (v1 := (.slice (some ⟨E1, 0, none⟩) A3.length E7)) (ok := (fun k_ => some k_ ≠ (C0 : Value).ownBlock)) (rc_ (h := by exact Kd.ae HO_405002.out (fun _ hk => ⟨hk.2, hk.1⟩))) hg (.inl rfl)); replace HO_405004 := a_ (Kd.dn (v := (.slice (some ⟨E1, 0, none⟩) A3.length E7)) (v1 := (.slice (some ⟨E1, 0, none⟩) A3.length E7)) (ok := (fun k_ => some k_ ≠ (.slice (some ⟨D7, 0, none⟩) A2.length E0 : Value).ownBlock)) (rc_ (h := by exact Kd.ae HO_405004.out (fun _ hk => ⟨hk.2, hk.1⟩))) hg (.inl rfl)); replace BK394 := a_ (dA (g := C3) (rb_ BK394.out) hg (Kd.gp HO_405003.out BK394.out (by decide))); replace BK404 := a_ (dA (g := gb404) (rb_ BK404.out) hg (Kd.gp HO_405003.out BK404.out (by decide))); replace A6 := a_ (dA (g := B0) (rb_ A6.out) hg (Kd.gp HO_405003.out A6.out (by decide))); replace HO_405003 := a_ (hp_); replace HB := a_ ((by rw [hw]; exact bi (HB.out) M6.out : Below w.heap.size w N3)); clear hg hw hp_; have Y4 : N3.cell? ⟨B0, 0, none⟩ = some (.int .i64 ((aa A5 A1).f0)) := (ai A6.out 0).trans rfl; have Y5 : N3.cell? ⟨B0, 1, none⟩ = some (.int .i64 ((aa A5 A1).f1)) := (ai A6.out 1).trans rfl; have Y6 : N3.cell? ⟨B0, 2, none⟩ = some (.bool ((aa A5 A1).f2)) := (ai A6.out 2).trans rfl; have Y7 : N3.cell? ⟨B0, 3, none⟩ = some (.bool ((aa A5 A1).f3)) := (ai A6.out 3).trans rfl; have Y8 := bG A6.out 0; have Y9 := bG A6.out 1; have Z0 := bG A6.out 2; have Z1 := bG A6.out 3))
      go_roundg G0
      case measure => have := HK1.out; have := K3.out; omega
      case rel => exact ⟨(wrap64 (A1 + 1)), (F5), (F0), (A4), (.slice (some ⟨D7, 0, none⟩) A2.length E0), (.slice (some ⟨E1, 0, none⟩) A3.length E7), (C0), bZ, H', ⟨by have := HK1.out; have := K3.out; omega⟩, ⟨by (with_reducible repeat (first | apply Kd.aC | apply Kd.aD | apply Kd.az)); exact Kd.ae D9.out (fun _ hk => trivial)⟩, ⟨by (with_reducible repeat (first | apply Kd.aC | apply Kd.aD | apply Kd.az)); exact Kd.ae HO_405002.out (fun _ hk => ⟨hk.2, hk.1⟩)⟩, ⟨by (with_reducible repeat (first | apply Kd.aC | apply Kd.aD | apply Kd.az)); exact Kd.ae HO_405003.out (fun _ hk => ⟨hk.2, hk.1⟩)⟩, ⟨xh⟩, ⟨zo⟩, ⟨zq⟩, ⟨z9_⟩⟩
   rw [if_neg c30] at H
   have K7 := decide_eq_false c30
   clear c30
   simp only [Option.some.injEq, Prod.mk.injEq] at H
   obtain ⟨rfl, rfl, rfl, rfl, rfl⟩ := H
   obtain ⟨k3, k4, g4⟩ := Kd.bg D9.out
   subst g4
   have hnb80 := C2.out
   have hnc80 := C1.out
   obtain ⟨Z2, Z3, Z4, Z5, Z6, Z7, Z8, Z9, a5, a6⟩ := eH (w := wr) BK404.out
   obtain ⟨a7, a8, a9, b0, b1, b2, b3, b4, b5, b6⟩ := eH (w := wr) BK394.out
   obtain ⟨g5, g6, g7⟩ := Kd.bg HO_405002.out
   subst g7
   obtain ⟨g8, g9, h2⟩ := Kd.bg HO_405003.out
   subst h2
   obtain ⟨h3, h4, h5⟩ := Kd.bg HO_405004.out
   subst h5
   go_wp2
   refine bodyPost_ret (results_cell_row rfl _ _ C3 28 #[.int .i64 a0, .int .i64 a1, .slice g5 A2.length g6, .slice g8 A3.length g9, .slice h3 A4.length h4] (0, 0) _ rfl (iI (h := by exact je BK394.out)) Tryz.underlying28 rfl (by kernel_rfl)) rfl ?_
   exact ⟨_, _, _, by first | rfl | (simp only [Go.IntWalk.i64_left]; first | done | rfl) | (simp [gV, gW] <;> rfl) | (simp only [← I8]; first | rfl | (simp [gV, gW] <;> rfl)) | (simp [*, gV, gW] <;> rfl), by (with_reducible repeat (first | apply Kd.aC | apply Kd.aD | apply Kd.az)); exact Kd.ae (gB HO_405002.out BK394.out) (fun _ hk => ⟨hk.1.1, hk.1.2⟩), by (with_reducible repeat (first | apply Kd.aC | apply Kd.aD | apply Kd.az)); exact Kd.ae (gB HO_405003.out BK394.out) (fun _ hk => ⟨hk.1.1, hk.1.2⟩), by (with_reducible repeat (first | apply Kd.aC | apply Kd.aD | apply Kd.az)); exact Kd.ae (gB HO_405004.out BK394.out) (fun _ hk => ⟨hk.1.1, hk.1.2⟩), uI⟩
def dG.f (k : Nat) (a0 : Int) (a1 : Int) (a2 : ByteArray) : Option (Int × Int × List Int × List Int × List Int × Int) := (fA.f k a0 a1 a2).bind fun t415 => (if t415 = 0 then ((aY.f k a0 a1 a2).bind fun bt416 => (some (bt416.1, bt416.2.1, bt416.2.2.1, bt416.2.2.2.1, bt416.2.2.2.2, 0))) else (some (0, 0, ([] : List Int), ([] : List Int), ([] : List Int), t415)))
theorem dG.mono : ∀ a0 a1 a2 k, LeO (dG.f k a0 a1 a2) (dG.f (k + 1) a0 a1 a2) := by
 intro a0 a1 a2 k
 unfold dG.f
 repeat' first | (with_reducible first | exact fA.mono .. | exact aY.mono .. | exact LeO.refl .. | exact LeO.none .. | refine LeO.ite ?_ ?_ | refine LeO.bind ?_ (fun _ => ?_))
theorem dG.calls (k : Nat) (a0 : Int) (a1 : Int) (a2 : ByteArray) (r1 : Int) (r2 : Int) (r3 : List Int) (r4 : List Int) (r5 : List Int) (r6 : Int) (w : World) (h : dG.f k a0 a1 a2 = some (r1, r2, r3, r4, r5, r6)) :
  Calls Tryz.prog 15 #[.int .i64 a0, .int .i64 a1, .string a2] w fun e w' => ∃ v2_ v3_ v4_ : Value, e = .returned (.tuple #[.agg #[.int .i64 r1, .int .i64 r2, v2_, v3_, v4_], .int .i64 r6]) ∧ Kd.R (Kd.int .i64) 2 w' w.heap.size (fun k_ => some k_ ≠ (v3_ : Value).ownBlock ∧ some k_ ≠ (v4_ : Value).ownBlock) v2_ r3 ∧ Kd.R (Kd.int .i64) 2 w' w.heap.size (fun k_ => some k_ ≠ (v2_ : Value).ownBlock ∧ some k_ ≠ (v4_ : Value).ownBlock) v3_ r4 ∧ Kd.R (Kd.int .i64) 2 w' w.heap.size (fun k_ => some k_ ≠ (v2_ : Value).ownBlock ∧ some k_ ≠ (v3_ : Value).ownBlock) v4_ r5 ∧ Below w.heap.size w w' := by
 have hu28 := Tryz.underlying28
 have HB := a_ (Below.refl w.heap.size w)
 have H : ((fA.f k a0 a1 a2).bind fun A3 => (if A3 = 0 then ((aY.f k a0 a1 a2).bind fun A5 => (some (A5.1, A5.2.1, A5.2.2.1, A5.2.2.2.1, A5.2.2.2.2, 0))) else (some (0, 0, ([] : List Int), ([] : List Int), ([] : List Int), A3)))) = some (r1, r2, r3, r4, r5, r6) := h
 clear h
 replace H := bo_ H; obtain ⟨A3, A4, H⟩ := H; (try dsimp only at H)
 by_cases c5 : A3 = 0
 ·rw [if_pos c5] at H
  have D3 : (A3 == 0) = true := beq_iff_eq.mpr c5
  have D4 : (A3 != 0) = false := bne_eq_false_iff_eq.mpr c5
  clear c5
  replace H := bo_ H; obtain ⟨⟨B3, B4, B7, C0, C1⟩, A6, H⟩ := H; (try dsimp only at H)
  simp only [Option.some.injEq, Prod.mk.injEq] at H
  obtain ⟨rfl, rfl, rfl, rfl, rfl, rfl⟩ := H
  go_enter Tryz.func15, Tryz.ntmps15
  go_wp2_with (first | ((with_reducible refine bf (N := 6) rfl ?_); refine cz ?hg (N := 6) ?hd (cs := #[.int .i64 0, .int .i64 0, .slice none 0 0, .slice none 0 0, .slice none 0 0]) (t := 28) ?hr ?_; (case hd => rfl); (case hg => rfl); (case hr => first | (go_simp; done) | (go_simp; rfl)); intro A2 hg w7 hbox hb; have A1 := a_ (hbox); have C2 := a_ ((fG : w.heap.size ≤ A2)); have GE414 := a_ ((fG : w.heap.size ≤ A2)); replace HB := df bO hb; clear hb hbox hg) | ((with_reducible refine av (f := 49) rfl ?_); refine bI (some 12) rfl rfl Tryz.func49 (by kernel_rfl) rfl #[.int .i64 a0, .int .i64 a1, .string a2] rfl dL ?_; (with_reducible refine (fA.calls k a0 a1 a2 A3 _ A4.out).mono ?_); rintro e w' ⟨rfl, ⟨nd, rfl⟩⟩; refine ⟨_, rfl, ?_⟩; (try (rw [qQ w7]; generalize hq_ : World.drewN w7 _ = w7; have n0_ : ah (w7.heap[A2]? = some (.cells #[.int .i64 0, .int .i64 0, .slice none 0 0, .slice none 0 0, .slice none 0 0] 28 (0, 0))) := ⟨by rw [← hq_]; exact (rb_ A1.out)⟩; have n1_ : ah (Below w.heap.size w w7) := ⟨by rw [← hq_]; exact vR⟩; clear A1 HB hq_; have A1 := n0_; have HB := n1_; clear n0_ n1_))) | ((with_reducible refine av (f := 50) rfl ?_); refine bI (some 20) rfl rfl Tryz.func50 (by kernel_rfl) rfl #[.int .i64 a0, .int .i64 a1, .string a2] rfl dL ?_; (with_reducible refine (aY.calls k a0 a1 a2 B3 B4 B7 C0 C1 _ A6.out).mono ?_); rintro e w8 ⟨F4, F5, F6, rfl, ho0, ho1, ho2, hb⟩; refine ⟨_, rfl, ?_⟩; have A7 := a_ (Kd.bu ho0 (af vR)); have A8 := a_ (Kd.bu ho1 (af vR)); have A9 := a_ (Kd.bu ho2 (af vR)); replace A1 := bb_ A2 A1 hb; replace HB := df vR hb; (try clear hb); (try clear ho0); (try clear ho1); (try clear ho2); obtain ⟨D5, D6, D7, D8, D9, E0, E1, E2, E3, E4⟩ := eH (w := w8) A1.out; obtain ⟨E5, E6, E7⟩ := Kd.bg A7.out; subst E7; obtain ⟨E8, E9, F0⟩ := Kd.bg A8.out; subst F0; obtain ⟨F1, F2, F3⟩ := Kd.bg A9.out; subst F3))
  refine bodyPost_ret (jX rfl _ _ A2 28 #[.int .i64 B3, .int .i64 B4, .slice E5 B7.length E6, .slice E8 C0.length E9, .slice F1 C1.length F2] (0, 0) _ rfl (iI (h := by exact je A1.out)) Tryz.underlying28 rfl (by kernel_rfl)) rfl ?_
  exact ⟨_, _, _, fO, by (with_reducible repeat (first | apply Kd.aC | apply Kd.aD | apply Kd.az)); exact Kd.ae (gB A7.out A1.out) (fun _ hk => ⟨hk.1.1, hk.1.2⟩), by (with_reducible repeat (first | apply Kd.aC | apply Kd.aD | apply Kd.az)); exact Kd.ae (gB A8.out A1.out) (fun _ hk => ⟨hk.1.1, hk.1.2⟩), by (with_reducible repeat (first | apply Kd.aC | apply Kd.aD | apply Kd.az)); exact Kd.ae (gB A9.out A1.out) (fun _ hk => ⟨hk.1.1, hk.1.2⟩), vR⟩
 rw [if_neg c5] at H
 have D3 : (A3 == 0) = false := beq_eq_false_iff_ne.mpr c5
 have D4 : (A3 != 0) = true := bne_iff_ne.mpr c5
 simp only [Option.some.injEq, Prod.mk.injEq] at H
 obtain ⟨rfl, rfl, rfl, rfl, rfl, rfl⟩ := H
 go_enter Tryz.func15, Tryz.ntmps15
 go_wp2_with (first | ((with_reducible refine bf (N := 6) rfl ?_); refine cz ?hg (N := 6) ?hd (cs := #[.int .i64 0, .int .i64 0, .slice none 0 0, .slice none 0 0, .slice none 0 0]) (t := 28) ?hr ?_; (case hd => rfl); (case hg => rfl); (case hr => first | (go_simp; done) | (go_simp; rfl)); intro A2 hg B0 hbox hb; have A1 := a_ (hbox); have C2 := a_ ((fG : w.heap.size ≤ A2)); have GE414 := a_ ((fG : w.heap.size ≤ A2)); replace HB := df bO hb; clear hb hbox hg) | ((with_reducible refine av (f := 49) rfl ?_); refine bI (some 12) rfl rfl Tryz.func49 (by kernel_rfl) rfl #[.int .i64 a0, .int .i64 a1, .string a2] rfl dL ?_; (with_reducible refine (fA.calls k a0 a1 a2 A3 _ A4.out).mono ?_); rintro e w' ⟨rfl, ⟨nd, rfl⟩⟩; refine ⟨_, rfl, ?_⟩; (try (rw [qQ B0]; generalize hq_ : World.drewN B0 _ = B0; have n0_ : ah (B0.heap[A2]? = some (.cells #[.int .i64 0, .int .i64 0, .slice none 0 0, .slice none 0 0, .slice none 0 0] 28 (0, 0))) := ⟨by rw [← hq_]; exact (rb_ A1.out)⟩; have n1_ : ah (Below w.heap.size w B0) := ⟨by rw [← hq_]; exact vR⟩; clear A1 HB hq_; have A1 := n0_; have HB := n1_; clear n0_ n1_)); obtain ⟨C3, C4, C5, C6, C7, C8, C9, D0, D1, D2⟩ := eH (w := B0) A1.out))
 refine bodyPost_ret (jX rfl _ _ A2 28 #[.int .i64 0, .int .i64 0, .slice none 0 0, .slice none 0 0, .slice none 0 0] (0, 0) _ rfl (iI (h := by exact je A1.out)) Tryz.underlying28 rfl (by kernel_rfl)) rfl ?_
 exact ⟨_, _, _, fO, xX, xX, xX, vR⟩
end Go.Proofs.YtkpidjmhdagkfaaGreatDoor.QFnReadForms
