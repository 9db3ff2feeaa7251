-- Written by own_print.py of this session's repo over the kit's print (its output, turned at some places).
import Derived.Test.YtkpidjmhdagkfaaDoorQFnExactImposeSheetx0
import Derived.Test.YtkpidjmhdagkfaaDoorQFnExactImposeSheetx1
import Derived.Test.YtkpidjmhdagkfaaDoorQFnExactImposeSheetx4
namespace Go.Proofs.YtkpidjmhdagkfaaDoor.QFnExactImposeSheet
open Go.RowKit Go.Proofs.YtkpidjmhdagkfaaDoorW.PrintWords Go.Proofs.YtkpidjmhdagkfaaDoorW.PrintLast Go.Proofs.YtkpidjmhdagkfaaDoorW.PrintMore
attribute [local go_sem] max2_int min2_int max_two min_two max_three min_three max_four min_four   -- for this text's walks alone
set_option linter.unusedVariables false
set_option linter.unusedSimpArgs false

/-! ### spec_l05Form: function 10 -/
mutual
def spec_l05Form.l0 : Nat → Int → List (S35) → Int → Int → Int → List Int → List Int → List Int → Option (Int × Int × List Int × List Int × List Int)
 | 0, _, _, _, _, _, _, _, _ => none
 | k + 1, x0, x9, x10, x226000, x226001, x226002, x226003, x226004 => if x10 < (x9.length : Int) then (if 0 ≤ x10 then ((spec_l04Down.f ((rd_T35 x9 x10).f0) ((rd_T35 x9 x10).f1) ((rd_T35 x9 x10).f2) ((rd_T35 x9 x10).f3)).bind fun t231 => (if t231 = true then (spec_l05Form.j1 k x0 x9 x10 (wrap64 ((wrap64 (2 * x10)) + 2)) (wrap64 ((wrap64 (2 * x10)) + 1)) x226000 x226001 x226002 x226003 x226004 ((rd_T35 x9 x10).f0) ((rd_T35 x9 x10).f1) ((rd_T35 x9 x10).f2) ((rd_T35 x9 x10).f3)) else (spec_l05Form.j1 k x0 x9 x10 (wrap64 ((wrap64 (2 * x10)) + 1)) (wrap64 ((wrap64 (2 * x10)) + 2)) x226000 x226001 x226002 x226003 x226004 ((rd_T35 x9 x10).f0) ((rd_T35 x9 x10).f1) ((rd_T35 x9 x10).f2) ((rd_T35 x9 x10).f3)))) else (none)) else (some (x226000, x226001, x226002, x226003, x226004))
def spec_l05Form.j1 : Nat → Int → List (S35) → Int → Int → Int → Int → Int → List Int → List Int → List Int → Int → Int → Bool → Bool → Option (Int × Int × List Int × List Int × List Int)
 | 0, _, _, _, _, _, _, _, _, _, _, _, _, _, _ => none
 | k + 1, x0, x9, x10, x12, x13, x226000, x226001, x226002, x226003, x226004, x231000, x231001, x231002, x231003 => if 0 ≤ (wrap64 ((wrap64 (x231001 * x0)) + x231000)) then (if (wrap64 ((wrap64 (x231001 * x0)) + x231000)) < (x226002.length : Int) then ((some (x226002.set ((wrap64 ((wrap64 (x231001 * x0)) + x231000)) : Int).toNat x12 : List Int)).bind fun y232 => (if 0 ≤ (wrap64 ((wrap64 ((wrap64 ((wrap64 (x231001 * x0)) + x0)) - 1)) - x231000)) then (if (wrap64 ((wrap64 ((wrap64 ((wrap64 (x231001 * x0)) + x0)) - 1)) - x231000)) < (x226003.length : Int) then ((some (x226003.set ((wrap64 ((wrap64 ((wrap64 ((wrap64 (x231001 * x0)) + x0)) - 1)) - x231000)) : Int).toNat x13 : List Int)).bind fun y233 => (if x231003 = true then (if (wrap64 ((wrap64 (x231001 * x0)) + x231000)) < (x226004.length : Int) then (spec_l05Form.l0 k x0 x9 (wrap64 (x10 + 1)) x226000 x226001 y232 y233 (x226004.set ((wrap64 ((wrap64 (x231001 * x0)) + x231000)) : Int).toNat 1)) else (none)) else (spec_l05Form.l0 k x0 x9 (wrap64 (x10 + 1)) x226000 x226001 y232 y233 x226004))) else (none)) else (none))) else (none)) else (none)
end
def spec_l05Form.f (k : Nat) (a0 : Int) (a1 : Int) (a2 : ByteArray) : Option (Int × Int × List Int × List Int × List Int) := if 0 ≤ (wrap64 (a0 * a1)) then (if (wrap64 (a0 * a1) : Int).toNat ≤ 35184372088832 then ((spec_l04Leaves.f k a0 a1 a2).bind fun t226 => (spec_l05Form.l0 k a0 t226 0 a0 a1 (List.replicate (wrap64 (a0 * a1) : Int).toNat 0) (List.replicate (wrap64 (a0 * a1) : Int).toNat 0) (List.replicate (wrap64 (a0 * a1) : Int).toNat 0))) else (none)) else (none)
theorem spec_l05Form.mono_l : ∀ k, (∀ y0 y1 y2 y3 y4 y5 y6 y7, LeO (spec_l05Form.l0 k y0 y1 y2 y3 y4 y5 y6 y7) (spec_l05Form.l0 (k + 1) y0 y1 y2 y3 y4 y5 y6 y7)) ∧ (∀ y0 y1 y2 y3 y4 y5 y6 y7 y8 y9 y10 y11 y12 y13, LeO (spec_l05Form.j1 k y0 y1 y2 y3 y4 y5 y6 y7 y8 y9 y10 y11 y12 y13) (spec_l05Form.j1 (k + 1) y0 y1 y2 y3 y4 y5 y6 y7 y8 y9 y10 y11 y12 y13))
 | 0 => ⟨fun _ _ _ _ _ _ _ _ r h => by simp [spec_l05Form.l0] at h, fun _ _ _ _ _ _ _ _ _ _ _ _ _ _ r h => by simp [spec_l05Form.j1] at h⟩
 | k + 1 => by
  obtain ⟨ih0, ih1⟩ := spec_l05Form.mono_l k
  refine ⟨?_, ?_⟩
  ·intro y0 y1 y2 y3 y4 y5 y6 y7
   unfold spec_l05Form.l0
   repeat' first
   | (with_reducible exact ih0 _ _ _ _ _ _ _ _)
   | (with_reducible exact ih1 _ _ _ _ _ _ _ _ _ _ _ _ _ _)
   | (with_reducible exact spec_l04Leaves.mono _ _ _ _)
   | (with_reducible exact LeO.refl _)
   | (with_reducible exact LeO.none _)
   | (with_reducible refine LeO.ite ?_ ?_)
   | (with_reducible refine LeO.bind ?_ (fun _ => ?_))
   | exact ih0 _ _ _ _ _ _ _ _
   | exact ih1 _ _ _ _ _ _ _ _ _ _ _ _ _ _
   | exact spec_l04Leaves.mono _ _ _ _
   | exact LeO.none _
   | refine LeO.ite ?_ ?_
   | refine LeO.bind ?_ (fun _ => ?_)
  ·intro y0 y1 y2 y3 y4 y5 y6 y7 y8 y9 y10 y11 y12 y13
   unfold spec_l05Form.j1
   repeat' first
   | (with_reducible exact ih0 _ _ _ _ _ _ _ _)
   | (with_reducible exact ih1 _ _ _ _ _ _ _ _ _ _ _ _ _ _)
   | (with_reducible exact spec_l04Leaves.mono _ _ _ _)
   | (with_reducible exact LeO.refl _)
   | (with_reducible exact LeO.none _)
   | (with_reducible refine LeO.ite ?_ ?_)
   | (with_reducible refine LeO.bind ?_ (fun _ => ?_))
   | exact ih0 _ _ _ _ _ _ _ _
   | exact ih1 _ _ _ _ _ _ _ _ _ _ _ _ _ _
   | exact spec_l04Leaves.mono _ _ _ _
   | exact LeO.none _
   | refine LeO.ite ?_ ?_
   | refine LeO.bind ?_ (fun _ => ?_)
theorem spec_l05Form.mono : ∀ a0 a1 a2 k, LeO (spec_l05Form.f k a0 a1 a2) (spec_l05Form.f (k + 1) a0 a1 a2) := by
 intro a0 a1 a2 k
 obtain ⟨ih0, ih1⟩ := spec_l05Form.mono_l k
 unfold spec_l05Form.f
 repeat' first
   | (with_reducible exact ih0 _ _ _ _ _ _ _ _)
   | (with_reducible exact ih1 _ _ _ _ _ _ _ _ _ _ _ _ _ _)
   | (with_reducible exact spec_l04Leaves.mono _ _ _ _)
   | (with_reducible exact LeO.refl _)
   | (with_reducible exact LeO.none _)
   | (with_reducible refine LeO.ite ?_ ?_)
   | (with_reducible refine LeO.bind ?_ (fun _ => ?_))
   | exact ih0 _ _ _ _ _ _ _ _
   | exact ih1 _ _ _ _ _ _ _ _ _ _ _ _ _ _
   | exact spec_l04Leaves.mono _ _ _ _
   | exact LeO.none _
   | refine LeO.ite ?_ ?_
   | refine LeO.bind ?_ (fun _ => ?_)
def spec_l05Form.T2 : Bool × List (List Nat × List Nat) := (true, [([], []), ([], []), ([], []), ([2, 2], [2]), ([], []), ([4, 4], [4]), ([], []), ([6, 6], [6]), ([0, 1, 3, 5, 7], [0, 1, 3, 5, 7]), ([], []), ([9, 8, 0, 1, 2, 3, 4, 5, 6, 7, 8, 9], [8, 9])])
def spec_l05Form.B2 : List Nat := [0, 0, 0, 4, 0, 16, 0, 64, 255, 0, 1023]
theorem spec_l05Form.tab2 : rtab .any (opsOf Tryd.f10 2) = spec_l05Form.T2 := by kernel_rfl
theorem spec_l05Form.bits2 : waitsOk spec_l05Form.T2.2 spec_l05Form.B2 = true := by kernel_rfl
set_option maxHeartbeats 8000000 in
set_option maxRecDepth 100000 in
theorem spec_l05Form.calls (k : Nat) (a0 : Int) (a1 : Int) (a2 : ByteArray) (r1 : Int) (r2 : Int) (r3 : List Int) (r4 : List Int) (r5 : List Int) (w : World) (h : spec_l05Form.f k a0 a1 a2 = some (r1, r2, r3, r4, r5)) :
  Calls Tryd.prog 10 #[.int .i64 a0, .int .i64 a1, .string a2] w fun e w' => ∃ v2_ v3_ v4_ : Value, e = .returned (.agg #[.int .i64 r1, .int .i64 r2, v2_, v3_, v4_]) ∧ Kd.R (Kd.int .i64) 2 w' w.heap.size (fun k_ => some k_ ≠ (v3_ : Value).ownBlock ∧ some k_ ≠ (v4_ : Value).ownBlock) v2_ r3 ∧ Kd.R (Kd.int .i64) 2 w' w.heap.size (fun k_ => some k_ ≠ (v2_ : Value).ownBlock ∧ some k_ ≠ (v4_ : Value).ownBlock) v3_ r4 ∧ Kd.R (Kd.int .i64) 2 w' w.heap.size (fun k_ => some k_ ≠ (v2_ : Value).ownBlock ∧ some k_ ≠ (v3_ : Value).ownBlock) v4_ r5 ∧ Below w.heap.size w w' := by
 have hu24 := Tryd.underlying24
 have hu35 := Tryd.underlying35
 have HB := a_ (Below.refl w.heap.size w)
 have H : (if 0 ≤ (wrap64 (a0 * a1)) then (if (wrap64 (a0 * a1) : Int).toNat ≤ 35184372088832 then ((spec_l04Leaves.f k a0 a1 a2).bind fun t226 => (spec_l05Form.l0 k a0 t226 0 a0 a1 (List.replicate (wrap64 (a0 * a1) : Int).toNat 0) (List.replicate (wrap64 (a0 * a1) : Int).toNat 0) (List.replicate (wrap64 (a0 * a1) : Int).toNat 0))) else (none)) else (none)) = some (r1, r2, r3, r4, r5) := h
 clear h
 obtain ⟨ji4, hji4⟩ : ∃ j_ : Int, (wrap64 (a0 * a1)) = j_ := ⟨_, rfl⟩
 replace H : (if 0 ≤ (ji4) then (if (ji4 : Int).toNat ≤ 35184372088832 then ((spec_l04Leaves.f k a0 a1 a2).bind fun t226 => (spec_l05Form.l0 k a0 t226 0 a0 a1 (List.replicate (ji4 : Int).toNat 0) (List.replicate (ji4 : Int).toNat 0) (List.replicate (ji4 : Int).toNat 0))) else (none)) else (none)) = some (r1, r2, r3, r4, r5) := by first | (rw [hji4] at H; exact H) | (simp only [hji4] at H ⊢; exact H)
 have hji4w : (IntKind.i64.wrap (a0 * a1)) = ji4 := (i64_w _).trans hji4
 by_cases c5 : 0 ≤ (ji4)
 ·rw [if_pos c5] at H
  have c5b0 := eq_true c5
  have c5b1 : decide (0 ≤ (ji4)) = true := decide_eq_true c5
  clear c5
  by_cases c6 : (ji4 : Int).toNat ≤ 35184372088832
  ·rw [if_pos c6] at H
   have c6b0 := eq_true c6
   have c6b1 : decide ((ji4 : Int).toNat ≤ 35184372088832) = true := decide_eq_true c6
   clear c6
   obtain ⟨y216, hy216⟩ : ∃ y_ : List Int, y_ = (List.replicate (ji4 : Int).toNat 0) := ⟨_, rfl⟩
   replace H : ((spec_l04Leaves.f k a0 a1 a2).bind fun t226 => (spec_l05Form.l0 k a0 t226 0 a0 a1 y216 (List.replicate (ji4 : Int).toNat 0) (List.replicate (ji4 : Int).toNat 0))) = some (r1, r2, r3, r4, r5) := rh_ hy216 H
   have Ny216 := a_ hy216
   clear hy216
   obtain ⟨y219, hy219⟩ : ∃ y_ : List Int, y_ = (List.replicate (ji4 : Int).toNat 0) := ⟨_, rfl⟩
   replace H : ((spec_l04Leaves.f k a0 a1 a2).bind fun t226 => (spec_l05Form.l0 k a0 t226 0 a0 a1 y216 y219 (List.replicate (ji4 : Int).toNat 0))) = some (r1, r2, r3, r4, r5) := rh_ hy219 H
   have Ny219 := a_ hy219
   clear hy219
   obtain ⟨y222, hy222⟩ : ∃ y_ : List Int, y_ = (List.replicate (ji4 : Int).toNat 0) := ⟨_, rfl⟩
   replace H : ((spec_l04Leaves.f k a0 a1 a2).bind fun t226 => (spec_l05Form.l0 k a0 t226 0 a0 a1 y216 y219 y222)) = some (r1, r2, r3, r4, r5) := rh_ hy222 H
   have Ny222 := a_ hy222
   clear hy222
   replace H := Option.bind_eq_some_iff.mp H
   obtain ⟨t226, A70, H⟩ := H
   replace H : (spec_l05Form.l0 k a0 t226 0 a0 a1 y216 y219 y222) = some (r1, r2, r3, r4, r5) := H
   have A7 := a_ A70
   clear A70
   have H' := a_ H
   clear H
   go_enter Tryd.func10, Tryd.ntmps10
   try go_wp2_with (first | ((with_reducible refine gate_dst (N := 6) rfl ?_); refine box_event ?hg (N := 6) ?hd (cs := #[.int .i64 0, .int .i64 0, .slice none 0 0, .slice none 0 0, .slice none 0 0]) (t := 24) ?hr ?_; (case hd => rfl); (case hg => rfl); (case hr => first | (go_simp; done) | (go_simp; rfl)); intro gb215 hg w8 hbox hb; have BK215 := a_ (hbox); have GW215 := a_ ((z22_ : w.heap.size ≤ gb215)); have GE215 := a_ ((z22_ : w.heap.size ≤ gb215)); replace HB := bst_ z23_ hb; clear hb hbox hg))
   replace BK215 := a_ (blk_drew BK215.out)
   replace HB := a_ (below_drew1 HB.out)
   refine start_ (n := 11) (S := fun w' => True) (ds := []) #[false, false, false, false, false, false, false, false, false, false, false] (by kernel_rfl) rfl rfl trivial (fun hHeld => ?_); refine with_tabW spec_l05Form.tab2 spec_l05Form.bits2 (fun HT_ HW_ => ?_)
   generalize w8.drew = w9 at BK215 HB hHeld ⊢
   refine pv_ (i := 0) (N := some 17) ?_
   refine pv_ (i := 1) (N := some 18) ?_
   refine pv_ (i := 2) (N := some 19) ?_
   refine pv_ (i := 4) (N := some 21) ?_
   refine pv_ (i := 6) (N := some 23) ?_
   refine inv_at [3, 5, 7, 8, 9, 10] (fun a0_ b a w' => ∃ (v217 : Value) (v220 : Value) (v223 : Value) (gb225 : Nat) (m8_ : Value) (m9_ : Value), a = putSel a0_ b [(3, 20, v217), (5, 22, v220), (7, 24, v223), (8, 25, m8_), (9, 8, m9_)] ∧ (w'.heap[gb215]? = some (.cells #[.int .i64 0, .int .i64 0, .slice none 0 0, .slice none 0 0, .slice none 0 0] 24 (0, 0))) ∧ (Below w.heap.size w w') ∧ (b 3 = true → Kd.R (Kd.int .i64) 2 w' w.heap.size (fun _ => True) v217 y216) ∧ (b 5 = true → Kd.R (Kd.int .i64) 2 w' w.heap.size (fun _ => True) v220 y219) ∧ (b 7 = true → Kd.R (Kd.int .i64) 2 w' w.heap.size (fun _ => True) v223 y222) ∧ (b 9 = true → b 10 = false → w'.heap[gb225]? = some (.cells #[.int .i64 0, .int .i64 0, .slice none 0 0, .slice none 0 0, .slice none 0 0] 24 (0, 0))) ∧ (b 9 = true → w.heap.size ≤ gb225) ∧ (b 9 = true → w.heap.size ≤ gb225) ∧ (b 9 = true → gb215 ≠ gb225) ∧ (b 9 = true → gb225 ≠ gb215) ∧ (b 10 = true → w'.heap[gb225]? = some (.cells #[.int .i64 a0, .int .i64 a1, v217, v220, v223] 24 (0, 0))) ∧ (b 8 = true → (m8_ : Value) = .agg #[.int .i64 a0, .int .i64 a1, v217, v220, v223]) ∧ (b 9 = true → (m9_ : Value) = .pointer (some ⟨gb225, 0, none⟩)) ∧ (b 3 = true → b 5 = true → ∀ k_ : Nat, (v217 : Value).ownBlock = some k_ → (v220 : Value).ownBlock ≠ some k_) ∧ (b 3 = true → b 7 = true → ∀ k_ : Nat, (v217 : Value).ownBlock = some k_ → (v223 : Value).ownBlock ≠ some k_) ∧ (b 5 = true → b 7 = true → ∀ k_ : Nat, (v220 : Value).ownBlock = some k_ → (v223 : Value).ownBlock ≠ some k_)) HT_.out HW_.out (by kernel_rfl) (by kernel_rfl) ?_ ?_ ?_
   ·exact ⟨.bool false, .bool false, .bool false, 0, .bool false, .bool false, by simp only [putSel, Bool.false_eq_true, if_false], BK215.out, HB.out, fun h_ => absurd h_ (by decide), fun h_ => absurd h_ (by decide), fun h_ => absurd h_ (by decide), fun h_ => absurd h_ (by decide), fun h_ => absurd h_ (by decide), fun h_ => absurd h_ (by decide), fun h_ => absurd h_ (by decide), fun h_ => absurd h_ (by decide), fun h_ => absurd h_ (by decide), fun h_ => absurd h_ (by decide), fun h_ => absurd h_ (by decide), fun h_ => absurd h_ (by decide), fun h_ => absurd h_ (by decide), fun h_ => absurd h_ (by decide)⟩
   ·skip
    clear BK215 HB
    refine steps_cons ?_ ?_
    ·rintro b a w' ⟨v217, v220, v223, gb225, m8_, m9_, ha, Q_BK215, Q_HB, Q_HO218, Q_HO221, Q_HO224, Q_BK225, Q_GW225, Q_GE225, Q_NB215_225, Q_NB225_215, Q_BK225_e10, Q_X8_, Q_X9_, Q_NE3_5, Q_NE3_7, Q_NE5_7⟩ hb_ hon hoff
     refine ⟨_, rfl, fun K hK => ?_⟩
     have e19 : a.tmps[19]? = some (.int .i64 ji4) := by rw [ha]; exact (putSel_off rfl).trans rfl
     replace ha := a_ ha
     have BK215 := a_ Q_BK215
     have HB := a_ Q_HB
     refine Kd.R_make_step (Kd.int .i64) _ 2 (by rfl) (N := 20) rfl 22 _ _ rfl ji4 (by simp [Act.eval, Array.getD_eq_getD_getElem?, e19]) (by simp [Act.eval, Array.getD_eq_getD_getElem?, e19]) Tryd.underlying22 (.int .i64 0) 8 info2 rfl (by decide) (by omega) 0 (ok := fun _ => True) (okp := fun _ => True) rfl (fun _ hk => hk) trivial (of_decide_eq_true z47_) (Nat.le_trans (Nat.mul_le_mul_right _ (of_decide_eq_true z47_ : ji4.toNat ≤ 35184372088832)) (by omega)) (Below.refl _ _) (Nat.le_refl _) ?_
     intro v217 w10 ho11 hb hg_ hnew_
     clear hg_ hnew_
     (first | rw [← Ny216.out] at ho11 | (simp only [Int.reduceToNat] at ho11; rw [← Ny216.out] at ho11))
     have n0_ := a_ (Kd.R_lower ho11 (below_size z15_))
     have n1_ := bb_ gb215 BK215 hb
     have n2_ := bst_ z15_ hb
     have z_HO221 := fun (h0_ : b 5 = true) => (show Kd.R (Kd.int .i64) 2 w10 w.heap.size (fun _ => True) v220 y219 from by first | exact (Kd.R_elder' (rc_ (h := by exact Q_HO221 h0_)) (Kd.R_base ho11) hb) | exact Kd.R_mono (Kd.R_elder' (rc_ (h := by exact Q_HO221 h0_)) (Kd.R_base ho11) hb) (fun _ h_ => by first | trivial | exact h_ | exact h_.1))
     have z_HO224 := fun (h0_ : b 7 = true) => (show Kd.R (Kd.int .i64) 2 w10 w.heap.size (fun _ => True) v223 y222 from by first | exact (Kd.R_elder' (rc_ (h := by exact Q_HO224 h0_)) (Kd.R_base ho11) hb) | exact Kd.R_mono (Kd.R_elder' (rc_ (h := by exact Q_HO224 h0_)) (Kd.R_base ho11) hb) (fun _ h_ => by first | trivial | exact h_ | exact h_.1))
     have z_BK225 := fun (h0_ : b 9 = true) (h1_ : b 10 = false) => (show w10.heap[gb225]? = some (.cells #[.int .i64 0, .int .i64 0, .slice none 0 0, .slice none 0 0, .slice none 0 0] 24 (0, 0)) from z3_)
     clear BK215; clear HB
     have HO218 := n0_
     have BK215 := n1_
     have HB := n2_
     clear n0_ n1_ n2_
     have z_NE3_5 := fun (h1_ : b 5 = true) (k_ : Nat) (hk_ : (v217 : Value).ownBlock = some k_) (hk2_ : (v220 : Value).ownBlock = some k_) => (Nat.not_lt.mpr (Kd.R_base ho11 k_ hk_)) (Kd.R_lt (Q_HO221 h1_) k_ hk2_)
     have z_NE3_7 := fun (h1_ : b 7 = true) (k_ : Nat) (hk_ : (v217 : Value).ownBlock = some k_) (hk2_ : (v223 : Value).ownBlock = some k_) => (Nat.not_lt.mpr (Kd.R_base ho11 k_ hk_)) (Kd.R_lt (Q_HO224 h1_) k_ hk2_)
     clear hb ho11
     refine hK.out _ _ ⟨v217, v220, v223, gb225, m8_, m9_, (by rw [ha.out]; exact putSel_upk 0 hb_ rfl rfl rfl), (rb_ BK215.out), z15_, fun _ => (ra_ HO218.out), z_HO221, z_HO224, z_BK225, Q_GW225, Q_GE225, Q_NB215_225, Q_NB225_215, fun h0_ => absurd ((hoff 10 (by kernel_rfl)).symm.trans h0_) (by decide), fun h0_ => absurd ((hoff 8 (by kernel_rfl)).symm.trans h0_) (by decide), Q_X9_, fun _ h1_ => z_NE3_5 h1_, fun _ h1_ => z_NE3_7 h1_, Q_NE5_7⟩
    refine steps_cons ?_ ?_
    ·rintro b a w' ⟨v217, v220, v223, gb225, m8_, m9_, ha, Q_BK215, Q_HB, Q_HO218, Q_HO221, Q_HO224, Q_BK225, Q_GW225, Q_GE225, Q_NB215_225, Q_NB225_215, Q_BK225_e10, Q_X8_, Q_X9_, Q_NE3_5, Q_NE3_7, Q_NE5_7⟩ hb_ hon hoff
     refine ⟨_, rfl, fun K hK => ?_⟩
     have e21 : a.tmps[21]? = some (.int .i64 ji4) := by rw [ha]; exact (putSel_off rfl).trans rfl
     replace ha := a_ ha
     have BK215 := a_ Q_BK215
     have HB := a_ Q_HB
     refine Kd.R_make_step (Kd.int .i64) _ 2 (by rfl) (N := 22) rfl 22 _ _ rfl ji4 (by simp [Act.eval, Array.getD_eq_getD_getElem?, e21]) (by simp [Act.eval, Array.getD_eq_getD_getElem?, e21]) Tryd.underlying22 (.int .i64 0) 8 info2 rfl (by decide) (by omega) 0 (ok := fun _ => True) (okp := fun _ => True) rfl (fun _ hk => hk) trivial (of_decide_eq_true z47_) (Nat.le_trans (Nat.mul_le_mul_right _ (of_decide_eq_true z47_ : ji4.toNat ≤ 35184372088832)) (by omega)) (Below.refl _ _) (Nat.le_refl _) ?_
     intro v220 w10 ho11 hb hg_ hnew_
     clear hg_ hnew_
     (first | rw [← Ny219.out] at ho11 | (simp only [Int.reduceToNat] at ho11; rw [← Ny219.out] at ho11))
     have n0_ := a_ (Kd.R_lower ho11 (below_size z15_))
     have n1_ := bb_ gb215 BK215 hb
     have n2_ := bst_ z15_ hb
     have z_HO218 := fun (h0_ : b 3 = true) => (show Kd.R (Kd.int .i64) 2 w10 w.heap.size (fun _ => True) v217 y216 from by first | exact (Kd.R_elder' (rc_ (h := by exact Q_HO218 h0_)) (Kd.R_base ho11) hb) | exact Kd.R_mono (Kd.R_elder' (rc_ (h := by exact Q_HO218 h0_)) (Kd.R_base ho11) hb) (fun _ h_ => by first | trivial | exact h_ | exact h_.1))
     have z_HO224 := fun (h0_ : b 7 = true) => (show Kd.R (Kd.int .i64) 2 w10 w.heap.size (fun _ => True) v223 y222 from by first | exact (Kd.R_elder' (rc_ (h := by exact Q_HO224 h0_)) (Kd.R_base ho11) hb) | exact Kd.R_mono (Kd.R_elder' (rc_ (h := by exact Q_HO224 h0_)) (Kd.R_base ho11) hb) (fun _ h_ => by first | trivial | exact h_ | exact h_.1))
     have z_BK225 := fun (h0_ : b 9 = true) (h1_ : b 10 = false) => (show w10.heap[gb225]? = some (.cells #[.int .i64 0, .int .i64 0, .slice none 0 0, .slice none 0 0, .slice none 0 0] 24 (0, 0)) from z3_)
     clear BK215; clear HB
     have HO221 := n0_
     have BK215 := n1_
     have HB := n2_
     clear n0_ n1_ n2_
     have z_NE3_5 := fun (h1_ : b 3 = true) (k_ : Nat) (hk_ : (v217 : Value).ownBlock = some k_) (hk2_ : (v220 : Value).ownBlock = some k_) => (Nat.not_lt.mpr (Kd.R_base ho11 k_ hk2_)) (Kd.R_lt (Q_HO218 h1_) k_ hk_)
     have z_NE5_7 := fun (h1_ : b 7 = true) (k_ : Nat) (hk_ : (v220 : Value).ownBlock = some k_) (hk2_ : (v223 : Value).ownBlock = some k_) => (Nat.not_lt.mpr (Kd.R_base ho11 k_ hk_)) (Kd.R_lt (Q_HO224 h1_) k_ hk2_)
     clear hb ho11
     refine hK.out _ _ ⟨v217, v220, v223, gb225, m8_, m9_, (by rw [ha.out]; exact putSel_upk 1 hb_ rfl rfl rfl), (rb_ BK215.out), z15_, z_HO218, fun _ => (ra_ HO221.out), z_HO224, z_BK225, Q_GW225, Q_GE225, Q_NB215_225, Q_NB225_215, fun h0_ => absurd ((hoff 10 (by kernel_rfl)).symm.trans h0_) (by decide), fun h0_ => absurd ((hoff 8 (by kernel_rfl)).symm.trans h0_) (by decide), Q_X9_, fun h1_ _ => z_NE3_5 h1_, Q_NE3_7, fun _ h1_ => z_NE5_7 h1_⟩
    refine steps_cons ?_ ?_
    ·rintro b a w' ⟨v217, v220, v223, gb225, m8_, m9_, ha, Q_BK215, Q_HB, Q_HO218, Q_HO221, Q_HO224, Q_BK225, Q_GW225, Q_GE225, Q_NB215_225, Q_NB225_215, Q_BK225_e10, Q_X8_, Q_X9_, Q_NE3_5, Q_NE3_7, Q_NE5_7⟩ hb_ hon hoff
     refine ⟨_, rfl, fun K hK => ?_⟩
     have e23 : a.tmps[23]? = some (.int .i64 ji4) := by rw [ha]; exact (putSel_off rfl).trans rfl
     replace ha := a_ ha
     have BK215 := a_ Q_BK215
     have HB := a_ Q_HB
     refine Kd.R_make_step (Kd.int .i64) _ 2 (by rfl) (N := 24) rfl 22 _ _ rfl ji4 (by simp [Act.eval, Array.getD_eq_getD_getElem?, e23]) (by simp [Act.eval, Array.getD_eq_getD_getElem?, e23]) Tryd.underlying22 (.int .i64 0) 8 info2 rfl (by decide) (by omega) 0 (ok := fun _ => True) (okp := fun _ => True) rfl (fun _ hk => hk) trivial (of_decide_eq_true z47_) (Nat.le_trans (Nat.mul_le_mul_right _ (of_decide_eq_true z47_ : ji4.toNat ≤ 35184372088832)) (by omega)) (Below.refl _ _) (Nat.le_refl _) ?_
     intro v223 w10 ho11 hb hg_ hnew_
     clear hg_ hnew_
     (first | rw [← Ny222.out] at ho11 | (simp only [Int.reduceToNat] at ho11; rw [← Ny222.out] at ho11))
     have n0_ := a_ (Kd.R_lower ho11 (below_size z15_))
     have n1_ := bb_ gb215 BK215 hb
     have n2_ := bst_ z15_ hb
     have z_HO218 := fun (h0_ : b 3 = true) => (show Kd.R (Kd.int .i64) 2 w10 w.heap.size (fun _ => True) v217 y216 from by first | exact (Kd.R_elder' (rc_ (h := by exact Q_HO218 h0_)) (Kd.R_base ho11) hb) | exact Kd.R_mono (Kd.R_elder' (rc_ (h := by exact Q_HO218 h0_)) (Kd.R_base ho11) hb) (fun _ h_ => by first | trivial | exact h_ | exact h_.1))
     have z_HO221 := fun (h0_ : b 5 = true) => (show Kd.R (Kd.int .i64) 2 w10 w.heap.size (fun _ => True) v220 y219 from by first | exact (Kd.R_elder' (rc_ (h := by exact Q_HO221 h0_)) (Kd.R_base ho11) hb) | exact Kd.R_mono (Kd.R_elder' (rc_ (h := by exact Q_HO221 h0_)) (Kd.R_base ho11) hb) (fun _ h_ => by first | trivial | exact h_ | exact h_.1))
     have z_BK225 := fun (h0_ : b 9 = true) (h1_ : b 10 = false) => (show w10.heap[gb225]? = some (.cells #[.int .i64 0, .int .i64 0, .slice none 0 0, .slice none 0 0, .slice none 0 0] 24 (0, 0)) from z3_)
     clear BK215; clear HB
     have HO224 := n0_
     have BK215 := n1_
     have HB := n2_
     clear n0_ n1_ n2_
     have z_NE3_7 := fun (h1_ : b 3 = true) (k_ : Nat) (hk_ : (v217 : Value).ownBlock = some k_) (hk2_ : (v223 : Value).ownBlock = some k_) => (Nat.not_lt.mpr (Kd.R_base ho11 k_ hk2_)) (Kd.R_lt (Q_HO218 h1_) k_ hk_)
     have z_NE5_7 := fun (h1_ : b 5 = true) (k_ : Nat) (hk_ : (v220 : Value).ownBlock = some k_) (hk2_ : (v223 : Value).ownBlock = some k_) => (Nat.not_lt.mpr (Kd.R_base ho11 k_ hk2_)) (Kd.R_lt (Q_HO221 h1_) k_ hk_)
     clear hb ho11
     refine hK.out _ _ ⟨v217, v220, v223, gb225, m8_, m9_, (by rw [ha.out]; exact putSel_upk 2 hb_ rfl rfl rfl), (rb_ BK215.out), z15_, z_HO218, z_HO221, fun _ => (ra_ HO224.out), z_BK225, Q_GW225, Q_GE225, Q_NB215_225, Q_NB225_215, fun h0_ => absurd ((hoff 10 (by kernel_rfl)).symm.trans h0_) (by decide), fun h0_ => absurd ((hoff 8 (by kernel_rfl)).symm.trans h0_) (by decide), Q_X9_, Q_NE3_5, fun h1_ _ => z_NE3_7 h1_, fun h1_ _ => z_NE5_7 h1_⟩
    refine steps_cons ?_ ?_
    ·rintro b a w' ⟨v217, v220, v223, gb225, m8_, m9_, ha, Q_BK215, Q_HB, Q_HO218, Q_HO221, Q_HO224, Q_BK225, Q_GW225, Q_GE225, Q_NB215_225, Q_NB225_215, Q_BK225_e10, Q_X8_, Q_X9_, Q_NE3_5, Q_NE3_7, Q_NE5_7⟩ hb_ hon hoff
     refine ⟨_, rfl, fun K hK => ?_⟩
     have e17 : a.tmps[17]? = some (.int .i64 a0) := by rw [ha]; exact (putSel_off rfl).trans rfl
     have e18 : a.tmps[18]? = some (.int .i64 a1) := by rw [ha]; exact (putSel_off rfl).trans rfl
     have e20 : a.tmps[20]? = some (v217) := by rw [ha]; exact putSel_on (e := (3, 20, v217)) 0 rfl rfl (hon 3 (by kernel_rfl)) rfl
     have e22 : a.tmps[22]? = some (v220) := by rw [ha]; exact putSel_on (e := (5, 22, v220)) 1 rfl rfl (hon 5 (by kernel_rfl)) rfl
     have e24 : a.tmps[24]? = some (v223) := by rw [ha]; exact putSel_on (e := (7, 24, v223)) 2 rfl rfl (hon 7 (by kernel_rfl)) rfl
     replace ha := a_ ha
     have BK215 := a_ Q_BK215
     have HB := a_ Q_HB
     have HO218 := a_ (Q_HO218 (hon 3 (by kernel_rfl)))
     have HO221 := a_ (Q_HO221 (hon 5 (by kernel_rfl)))
     have HO224 := a_ (Q_HO224 (hon 7 (by kernel_rfl)))
     obtain ⟨Ao8_0, co8_0, eo_⟩ := Kd.R_slice HO218.out
     subst eo_
     obtain ⟨Ao8_1, co8_1, eo_⟩ := Kd.R_slice HO221.out
     subst eo_
     obtain ⟨Ao8_2, co8_2, eo_⟩ := Kd.R_slice HO224.out
     subst eo_
     refine value_ (w1 := w') (v := .agg #[.int .i64 a0, .int .i64 a1, .slice Ao8_0 y216.length co8_0, .slice Ao8_1 y219.length co8_1, .slice Ao8_2 y222.length co8_2]) (by rfl) rfl ?_ ?_
     ·go_simp
      (try simp only [i64_w])
      try rfl
      (try (first | done | omega | (simp only [decide_eq_true_eq] at *; omega)))
     refine hK.out _ _ ⟨.slice Ao8_0 y216.length co8_0, .slice Ao8_1 y219.length co8_1, .slice Ao8_2 y222.length co8_2, gb225, (.agg #[.int .i64 a0, .int .i64 a1, .slice Ao8_0 y216.length co8_0, .slice Ao8_1 y219.length co8_1, .slice Ao8_2 y222.length co8_2]), m9_, (by rw [ha.out]; exact putSel_upk 3 hb_ rfl rfl rfl), Q_BK215, Q_HB, Q_HO218, Q_HO221, Q_HO224, Q_BK225, Q_GW225, Q_GE225, Q_NB215_225, Q_NB225_215, fun h0_ => absurd ((hoff 10 (by kernel_rfl)).symm.trans h0_) (by decide), fun _ => rfl, Q_X9_, Q_NE3_5, Q_NE3_7, Q_NE5_7⟩
    refine steps_cons ?_ ?_
    ·rintro b a w' ⟨v217, v220, v223, gb225, m8_, m9_, ha, Q_BK215, Q_HB, Q_HO218, Q_HO221, Q_HO224, Q_BK225, Q_GW225, Q_GE225, Q_NB215_225, Q_NB225_215, Q_BK225_e10, Q_X8_, Q_X9_, Q_NE3_5, Q_NE3_7, Q_NE5_7⟩ hb_ hon hoff
     refine ⟨_, rfl, fun K hK => ?_⟩
     replace ha := a_ ha
     have BK215 := a_ Q_BK215
     have HB := a_ Q_HB
     refine box_step ?hg (N := 8) ?hd (cs := #[.int .i64 0, .int .i64 0, .slice none 0 0, .slice none 0 0, .slice none 0 0]) (t := 24) ?hr ?_; (case hd => rfl); (case hg => rfl); (case hr => first | (go_simp; done) | (go_simp; rfl))
     intro gb225 hg w10 hbox hb
     have n0_ := bb_ gb215 BK215 hb
     have n1_ := bst_ z15_ hb
     have n2_ := a_ (hbox)
     have n3_ := a_ ((by rw [hg]; exact (below_size z15_) : w.heap.size ≤ gb225))
     have n4_ := a_ ((by rw [hg]; exact (below_size z15_) : w.heap.size ≤ gb225))
     have n5_ := a_ ((by rw [hg]; exact Nat.ne_of_lt (blk_lt (g := gb215) (rb_ BK215.out)) : gb215 ≠ gb225))
     have n6_ := a_ ((by rw [hg]; exact Nat.ne_of_gt (blk_lt (g := gb215) (rb_ BK215.out)) : gb225 ≠ gb215))
     have z_HO218 := fun (h0_ : b 3 = true) => (show Kd.R (Kd.int .i64) 2 w10 w.heap.size (fun _ => True) v217 y216 from by first | exact (Kd.R_below (rc_ (h := by exact Q_HO218 h0_)) hb) | exact Kd.R_mono (Kd.R_below (rc_ (h := by exact Q_HO218 h0_)) hb) (fun _ h_ => by first | trivial | exact h_ | exact h_.1))
     have z_HO221 := fun (h0_ : b 5 = true) => (show Kd.R (Kd.int .i64) 2 w10 w.heap.size (fun _ => True) v220 y219 from by first | exact (Kd.R_below (rc_ (h := by exact Q_HO221 h0_)) hb) | exact Kd.R_mono (Kd.R_below (rc_ (h := by exact Q_HO221 h0_)) hb) (fun _ h_ => by first | trivial | exact h_ | exact h_.1))
     have z_HO224 := fun (h0_ : b 7 = true) => (show Kd.R (Kd.int .i64) 2 w10 w.heap.size (fun _ => True) v223 y222 from by first | exact (Kd.R_below (rc_ (h := by exact Q_HO224 h0_)) hb) | exact Kd.R_mono (Kd.R_below (rc_ (h := by exact Q_HO224 h0_)) hb) (fun _ h_ => by first | trivial | exact h_ | exact h_.1))
     clear BK215; clear HB
     have BK215 := n0_
     have HB := n1_
     have BK225 := n2_
     have GW225 := n3_
     have GE225 := n4_
     have NB215_225 := n5_
     have NB225_215 := n6_
     clear n0_ n1_ n2_ n3_ n4_ n5_ n6_
     clear hb hbox hg
     refine hK.out _ _ ⟨v217, v220, v223, gb225, m8_, (.pointer (some ⟨gb225, 0, none⟩)), (by rw [ha.out]; exact putSel_upk 4 hb_ rfl rfl rfl), (rb_ BK215.out), z8_, z_HO218, z_HO221, z_HO224, fun _ _ => (rb_ BK225.out), fun _ => GW225.out, fun _ => GE225.out, fun _ => NB215_225.out, fun _ => NB225_215.out, fun h0_ => absurd ((hoff 10 (by kernel_rfl)).symm.trans h0_) (by decide), Q_X8_, fun _ => rfl, Q_NE3_5, Q_NE3_7, Q_NE5_7⟩
    refine steps_cons ?_ ?_
    ·rintro b a w' ⟨v217, v220, v223, gb225, m8_, m9_, ha, Q_BK215, Q_HB, Q_HO218, Q_HO221, Q_HO224, Q_BK225, Q_GW225, Q_GE225, Q_NB215_225, Q_NB225_215, Q_BK225_e10, Q_X8_, Q_X9_, Q_NE3_5, Q_NE3_7, Q_NE5_7⟩ hb_ hon hoff
     refine ⟨_, rfl, fun K hK => ?_⟩
     have e8 : a.tmps[8]? = some (m9_) := by rw [ha]; exact putSel_on (e := (9, 8, m9_)) 4 rfl rfl (hon 9 (by kernel_rfl)) rfl
     rw [Q_X9_ (hon 9 (by kernel_rfl))] at e8
     have e25 : a.tmps[25]? = some (m8_) := by rw [ha]; exact putSel_on (e := (8, 25, m8_)) 3 rfl rfl (hon 8 (by kernel_rfl)) rfl
     rw [Q_X8_ (hon 8 (by kernel_rfl))] at e25
     replace ha := a_ ha
     have BK215 := a_ Q_BK215
     have HB := a_ Q_HB
     have HO218 := a_ (Q_HO218 (hon 3 (by kernel_rfl)))
     have HO221 := a_ (Q_HO221 (hon 5 (by kernel_rfl)))
     have HO224 := a_ (Q_HO224 (hon 7 (by kernel_rfl)))
     have BK225 := a_ (Q_BK225 (hon 9 (by kernel_rfl)) hb_)
     have GW225 := a_ (Q_GW225 (hon 9 (by kernel_rfl)))
     have GE225 := a_ (Q_GE225 (hon 9 (by kernel_rfl)))
     have NB215_225 := a_ (Q_NB215_225 (hon 9 (by kernel_rfl)))
     have NB225_215 := a_ (Q_NB225_215 (hon 9 (by kernel_rfl)))
     obtain ⟨Ao21, co21, eo21⟩ := Kd.R_slice HO224.out
     (first | subst eo21 | (injection eo21 with f1_ f2_ f3_; have f4_ := f1_.symm; have f5_ := f3_.symm; clear f1_ f2_ f3_; subst f4_; subst f5_))
     obtain ⟨Ao22, co22, eo22⟩ := Kd.R_slice HO221.out
     (first | subst eo22 | (injection eo22 with f1_ f2_ f3_; have f4_ := f1_.symm; have f5_ := f3_.symm; clear f1_ f2_ f3_; subst f4_; subst f5_))
     obtain ⟨Ao23, co23, eo23⟩ := Kd.R_slice HO218.out
     (first | subst eo23 | (injection eo23 with f1_ f2_ f3_; have f4_ := f1_.symm; have f5_ := f3_.symm; clear f1_ f2_ f3_; subst f4_; subst f5_))
     have hs24 : w'.cell? ⟨gb225, 0, none⟩ = some (.int .i64 0) := (blk_cell BK225.out 0).trans rfl
     have hfs24 := blk_frozen BK225.out 0
     have hns24_0 := NB215_225.out
     have hms24_0 := NB225_215.out
     have hs25 : w'.cell? ⟨gb225, 1, none⟩ = some (.int .i64 0) := (blk_cell BK225.out 1).trans rfl
     have hfs25 := blk_frozen BK225.out 1
     have hns25_0 := NB215_225.out
     have hms25_0 := NB225_215.out
     have hs26 : w'.cell? ⟨gb225, 2, none⟩ = some (.slice none 0 0) := (blk_cell BK225.out 2).trans rfl
     have hfs26 := blk_frozen BK225.out 2
     have hns26_0 := NB215_225.out
     have hms26_0 := NB225_215.out
     have hs27 : w'.cell? ⟨gb225, 3, none⟩ = some (.slice none 0 0) := (blk_cell BK225.out 3).trans rfl
     have hfs27 := blk_frozen BK225.out 3
     have hns27_0 := NB215_225.out
     have hms27_0 := NB225_215.out
     have hs28 : w'.cell? ⟨gb225, 4, none⟩ = some (.slice none 0 0) := (blk_cell BK225.out 4).trans rfl
     have hfs28 := blk_frozen BK225.out 4
     have hns28_0 := NB215_225.out
     have hms28_0 := NB225_215.out
     refine skip_ (w1 := ?_) (by rfl) rfl ?_ ?_
     rotate_left
     ·go_simp
      rfl
     refine hK.out _ _ ⟨.slice Ao23 y216.length co23, .slice Ao22 y219.length co22, .slice Ao21 y222.length co21, gb225, m8_, m9_, (by rw [ha.out]; exact putSel_none (v := undef) rfl), (rb2_ (h := by exact bf5_ NB215_225.out BK215.out)), z8_, fun _ => (rc_ (h := by exact Kd.R_mono (rt5_ HO218.out BK225.out) (fun _ _ => trivial))), fun _ => (rc_ (h := by exact Kd.R_mono (rt5_ HO221.out BK225.out) (fun _ _ => trivial))), fun _ => (rc_ (h := by exact Kd.R_mono (rt5_ HO224.out BK225.out) (fun _ _ => trivial))), fun _ h1_ => absurd ((up_self b 10).symm.trans h1_) (by decide), fun _ => GW225.out, fun _ => GE225.out, fun _ => NB215_225.out, fun _ => NB225_215.out, fun _ => (rb2_ (h := by exact bp5x5_ BK225.out)), Q_X8_, Q_X9_, Q_NE3_5, Q_NE3_7, Q_NE5_7⟩
    exact steps_nil
   rintro b a w25 hall ⟨v217, v220, v223, gb225, m8_, m9_, ha, Q_BK215, Q_HB, Q_HO218, Q_HO221, Q_HO224, Q_BK225, Q_GW225, Q_GE225, Q_NB215_225, Q_NB225_215, Q_BK225_e10, Q_X8_, Q_X9_, Q_NE3_5, Q_NE3_7, Q_NE5_7⟩
   clear BK215 HB
   have hb3_ := hall 3 (by kernel_rfl)
   have hb5_ := hall 5 (by kernel_rfl)
   have hb7_ := hall 7 (by kernel_rfl)
   have hb8_ := hall 8 (by kernel_rfl)
   have hb9_ := hall 9 (by kernel_rfl)
   have hb10_ := hall 10 (by kernel_rfl)
   subst ha
   obtain rfl := Q_X8_ hb8_
   obtain rfl := Q_X9_ hb9_
   simp only [putSel, hb3_, hb5_, hb7_, hb8_, hb9_, hb10_, if_true, Act.put, List.setIfInBounds_toArray, List.set_cons_zero, List.set_cons_succ]
   have BK215 := a_ Q_BK215
   clear Q_BK215
   have HB := a_ Q_HB
   clear Q_HB
   have HO218 := a_ (show Kd.R (Kd.int .i64) 2 w25 w.heap.size (fun k_ => some k_ ≠ (v220 : Value).ownBlock ∧ some k_ ≠ (v223 : Value).ownBlock) v217 y216 from Kd.R_of_own (Kd.own_of_R (Q_HO218 hb3_)) (fun k_ hk_ => ⟨fun e_ => Q_NE3_5 hb3_ hb5_ k_ hk_ e_.symm, fun e_ => Q_NE3_7 hb3_ hb7_ k_ hk_ e_.symm⟩))
   have HO221 := a_ (show Kd.R (Kd.int .i64) 2 w25 w.heap.size (fun k_ => some k_ ≠ (v217 : Value).ownBlock ∧ some k_ ≠ (v223 : Value).ownBlock) v220 y219 from Kd.R_of_own (Kd.own_of_R (Q_HO221 hb5_)) (fun k_ hk_ => ⟨fun e_ => Q_NE3_5 hb3_ hb5_ k_ e_.symm hk_, fun e_ => Q_NE5_7 hb5_ hb7_ k_ hk_ e_.symm⟩))
   have HO224 := a_ (show Kd.R (Kd.int .i64) 2 w25 w.heap.size (fun k_ => some k_ ≠ (v217 : Value).ownBlock ∧ some k_ ≠ (v220 : Value).ownBlock) v223 y222 from Kd.R_of_own (Kd.own_of_R (Q_HO224 hb7_)) (fun k_ hk_ => ⟨fun e_ => Q_NE3_7 hb3_ hb7_ k_ e_.symm hk_, fun e_ => Q_NE5_7 hb5_ hb7_ k_ e_.symm hk_⟩))
   clear Q_BK225
   have GW225 := a_ (Q_GW225 hb9_)
   clear Q_GW225
   have GE225 := a_ (Q_GE225 hb9_)
   clear Q_GE225
   have NB215_225 := a_ (Q_NB215_225 hb9_)
   clear Q_NB215_225
   have NB225_215 := a_ (Q_NB225_215 hb9_)
   clear Q_NB225_215
   have BK225 := a_ (Q_BK225_e10 hb10_)
   clear Q_BK225_e10
   clear Q_NE3_5 Q_NE3_7 Q_NE5_7 Q_HO218 Q_HO221 Q_HO224
   clear hall hb3_ hb5_ hb7_ hb8_ hb9_ hb10_
   obtain ⟨Ao26, co26, eo26⟩ := Kd.R_slice HO224.out
   (first | subst eo26 | (injection eo26 with f1_ f2_ f3_; have f4_ := f1_.symm; have f5_ := f3_.symm; clear f1_ f2_ f3_; subst f4_; subst f5_))
   obtain ⟨Ao27, co27, eo27⟩ := Kd.R_slice HO221.out
   (first | subst eo27 | (injection eo27 with f1_ f2_ f3_; have f4_ := f1_.symm; have f5_ := f3_.symm; clear f1_ f2_ f3_; subst f4_; subst f5_))
   obtain ⟨Ao28, co28, eo28⟩ := Kd.R_slice HO218.out
   (first | subst eo28 | (injection eo28 with f1_ f2_ f3_; have f4_ := f1_.symm; have f5_ := f3_.symm; clear f1_ f2_ f3_; subst f4_; subst f5_))
   try go_wp2_with (first | ((with_reducible refine gate_callee (f := 22) rfl ?_); refine goesL_ (some 29) rfl rfl Tryd.func22 (by kernel_rfl) rfl #[.int .i64 a0, .int .i64 a1, .string a2] rfl z27_ ?_; (with_reducible refine (spec_l04Leaves.calls k a0 a1 a2 t226 _ A7.out).mono ?_); rintro e w29 ⟨v227, rfl, ho0, hb⟩; refine ⟨_, rfl, ?_⟩; replace HO218 := rl_ HO218 hb; replace HO221 := rl_ HO221 hb; replace HO224 := rl_ HO224 hb; have HO228 := a_ (Kd.R_lower ho0 (below_size z8_)); replace BK215 := bb_ gb215 BK215 hb; replace BK225 := bb_ gb225 BK225 hb; replace HB := bst_ z8_ hb; (try clear hb); (try clear hb2); (try clear hk); (try clear hi); (try clear ho0)))
   go_loopg [10] k (fun kq v10 w' => ∃ (x10_1 : Int) (x226002_1 : List Int) (x226003_1 : List Int) (x226004_1 : List Int) (u226002 : Value) (u226003 : Value) (u226004 : Value), v10 = .int .i64 x10_1 ∧ Aside0 (spec_l05Form.l0 kq a0 t226 x10_1 a0 a1 x226002_1 x226003_1 x226004_1 = some (r1, r2, r3, r4, r5)) ∧ Aside0 (kq ≤ k) ∧ Aside0 (Kd.R k35 35 w' w.heap.size (fun _ => True) v227 t226) ∧ Aside0 (Kd.R (Kd.int .i64) 2 w' w.heap.size (fun k_ => some k_ ≠ (u226003 : Value).ownBlock ∧ some k_ ≠ (u226004 : Value).ownBlock) u226002 x226002_1) ∧ Aside0 (Kd.R (Kd.int .i64) 2 w' w.heap.size (fun k_ => some k_ ≠ (u226002 : Value).ownBlock ∧ some k_ ≠ (u226004 : Value).ownBlock) u226003 x226003_1) ∧ Aside0 (Kd.R (Kd.int .i64) 2 w' w.heap.size (fun k_ => some k_ ≠ (u226002 : Value).ownBlock ∧ some k_ ≠ (u226003 : Value).ownBlock) u226004 x226004_1) ∧ Aside0 (w'.heap[gb215]? = some (.cells #[.int .i64 0, .int .i64 0, (.slice none 0 0), (.slice none 0 0), (.slice none 0 0)] 24 (0, 0))) ∧ Aside0 (w'.heap[gb225]? = some (.cells #[.int .i64 a0, .int .i64 a1, u226002, u226003, u226004] 24 (0, 0))) ∧ Aside0 (Below w.heap.size w w'))
   case atStart => exact ⟨(0), (y216), (y219), (y222), (.slice Ao28 y216.length co28), (.slice Ao27 y219.length co27), (.slice Ao26 y222.length co26), z48_, H', ⟨Nat.le_refl _⟩, ⟨by (with_reducible repeat (first | apply Kd.R_alloc | apply Kd.R_drewN | apply Kd.R_drew)); exact HO228.out⟩, ⟨by (with_reducible repeat (first | apply Kd.R_alloc | apply Kd.R_drewN | apply Kd.R_drew)); exact HO218.out⟩, ⟨by (with_reducible repeat (first | apply Kd.R_alloc | apply Kd.R_drewN | apply Kd.R_drew)); exact HO221.out⟩, ⟨by (with_reducible repeat (first | apply Kd.R_alloc | apply Kd.R_drewN | apply Kd.R_drew)); exact HO224.out⟩, ⟨z32_⟩, ⟨z33_⟩, ⟨z8_⟩⟩
   case round =>
    clear H'
    try clear c5b0; try clear c5b1; try clear c6b0; try clear c6b1
    obtain ⟨x10_1, x226002_1, x226003_1, x226004_1, u226002, u226003, u226004, rfl, HA, HK1, HO_9, HO_226002, HO_226003, HO_226004, BK215, BK225, HB⟩ := hrel
    cases gk with
    | zero => exact absurd HA.out (by simp [spec_l05Form.l0])
    | succ k1 =>
     have H := HA.out
     clear HA
     simp only [spec_l05Form.l0] at H
     by_cases c30 : x10_1 < (t226.length : Int)
     ·rw [if_pos c30] at H
      have c30b0 : decide (x10_1 < (t226.length : Int)) = true := decide_eq_true c30
      clear c30
      by_cases c31 : 0 ≤ x10_1
      ·rw [if_pos c31] at H
       have c31b0 : decide (0 ≤ x10_1) = true := decide_eq_true c31
       clear c31
       replace H := Option.bind_eq_some_iff.mp H
       obtain ⟨t231, A320, H⟩ := H
       replace H : (if t231 = true then (spec_l05Form.j1 k1 a0 t226 x10_1 (wrap64 ((wrap64 (2 * x10_1)) + 2)) (wrap64 ((wrap64 (2 * x10_1)) + 1)) a0 a1 x226002_1 x226003_1 x226004_1 ((rd_T35 t226 x10_1).f0) ((rd_T35 t226 x10_1).f1) ((rd_T35 t226 x10_1).f2) ((rd_T35 t226 x10_1).f3)) else (spec_l05Form.j1 k1 a0 t226 x10_1 (wrap64 ((wrap64 (2 * x10_1)) + 1)) (wrap64 ((wrap64 (2 * x10_1)) + 2)) a0 a1 x226002_1 x226003_1 x226004_1 ((rd_T35 t226 x10_1).f0) ((rd_T35 t226 x10_1).f1) ((rd_T35 t226 x10_1).f2) ((rd_T35 t226 x10_1).f3))) = some (r1, r2, r3, r4, r5) := H
       have A32 := a_ A320
       clear A320
       have HC33 := a_ H
       clear H
       obtain ⟨Ao34, co34, eo34⟩ := Kd.R_slice HO_9.out
       subst eo34
       have p229 : 0 ≤ (x10_1 : Int) := of_decide_eq_true z47_
       have q229 : x10_1 < (t226.length : Int) := of_decide_eq_true z47_
       obtain ⟨ad229, e229, hx229_0, hx229_1, hx229_2, hx229_3⟩ := at_T35 (Kd.R_reads' HO_9.out).2.2 x10_1 p229 q229
       cases e229
       replace p229 := eq_true p229
       replace q229 := eq_true q229
       go_upto_if 47 with (first | ((with_reducible refine gate_dst (N := 11) rfl ?_); refine box_event ?hg (N := 11) ?hd (cs := #[.int .i64 0, .int .i64 0, .bool false, .bool false]) (t := 35) ?hr ?_; (case hd => rfl); (case hg => rfl); (case hr => first | (go_simp; done) | (go_simp; rfl)); intro gb230 hg w35 hbox hb; replace HO_9 := a_ (Kd.R_below (Kd.R_elderB (ra_ HO_9.out) gb230 (Nat.le_of_eq hg.symm)) hb); replace HO_226002 := rl_ HO_226002 hb; replace HO_226003 := rl_ HO_226003 hb; replace HO_226004 := rl_ HO_226004 hb; have BK230 := a_ (hbox); have GW230 := a_ ((by rw [hg]; exact (below_size z8_) : w.heap.size ≤ gb230)); have GE230 := a_ ((by rw [hg]; exact (below_size z8_) : w.heap.size ≤ gb230)); replace HB := bst_ z8_ hb; have NB215_230 := a_ ((by rw [hg]; exact Nat.ne_of_lt (blk_lt (g := gb215) (rb_ BK215.out)) : gb215 ≠ gb230)); have NB230_215 := a_ ((by rw [hg]; exact Nat.ne_of_gt (blk_lt (g := gb215) (rb_ BK215.out)) : gb230 ≠ gb215)); replace BK215 := bb_ gb215 BK215 hb; have NB225_230 := a_ ((by rw [hg]; exact Nat.ne_of_lt (blk_lt (g := gb225) (rb_ BK225.out)) : gb225 ≠ gb230)); have NB230_225 := a_ ((by rw [hg]; exact Nat.ne_of_gt (blk_lt (g := gb225) (rb_ BK225.out)) : gb230 ≠ gb225)); replace BK225 := bb_ gb225 BK225 hb; clear hb hbox hg; have hnb36 := NB230_215.out; have hnc36 := NB215_230.out; have hnb37 := NB230_225.out; have hnc37 := NB225_230.out; obtain ⟨hcz38_0, hcz38_1, hcz38_2, hcz38_3, hfz38_0, hfz38_1, hfz38_2, hfz38_3⟩ := cz4_ (w := w35) BK230.out) | ((with_reducible refine gate_callee (f := 23) rfl ?_); refine goesL_ (some 47) rfl rfl Tryd.func23 (by kernel_rfl) rfl #[.agg #[.int .i64 ((rd_T35 t226 x10_1).f0), .int .i64 ((rd_T35 t226 x10_1).f1), .bool ((rd_T35 t226 x10_1).f2), .bool ((rd_T35 t226 x10_1).f3)]] rfl z27_ ?_; (with_reducible refine (spec_l04Down.calls ((rd_T35 t226 x10_1).f0) ((rd_T35 t226 x10_1).f1) ((rd_T35 t226 x10_1).f2) ((rd_T35 t226 x10_1).f3) t231 _ A32.out).mono ?_); rintro e w39 ⟨rfl, hb⟩; refine ⟨_, rfl, ?_⟩; replace HO_9 := a_ (Kd.R_below (rc_ (h := by exact Kd.R_mono (Kd.R_far (p := ⟨gb230, 3, none⟩) (Kd.R_far (p := ⟨gb230, 2, none⟩) (Kd.R_far (p := ⟨gb230, 1, none⟩) (Kd.R_far (p := ⟨gb230, 0, none⟩) (Kd.R_mono HO_9.out (fun k_ hk => (⟨hk, hk.2⟩ : _ ∧ k_ ≠ gb230))) (fun _ hk => hk.2) (.int .i64 ((rd_T35 t226 x10_1).f0))) (fun _ hk => hk.2) (.int .i64 ((rd_T35 t226 x10_1).f1))) (fun _ hk => hk.2) (.bool ((rd_T35 t226 x10_1).f2))) (fun _ hk => hk.2) (.bool ((rd_T35 t226 x10_1).f3))) (fun _ h_ => h_.1))) hb); replace HO_226002 := a_ (Kd.R_below (rc_ (h := by exact Kd.R_mono (rt4_ HO_226002.out BK230.out) (fun _ h_ => h_.1))) hb); replace HO_226003 := a_ (Kd.R_below (rc_ (h := by exact Kd.R_mono (rt4_ HO_226003.out BK230.out) (fun _ h_ => h_.1))) hb); replace HO_226004 := a_ (Kd.R_below (rc_ (h := by exact Kd.R_mono (rt4_ HO_226004.out BK230.out) (fun _ h_ => h_.1))) hb); replace BK215 := a_ (blk_below (g := gb215) (o := .cells #[.int .i64 0, .int .i64 0, .slice none 0 0, .slice none 0 0, .slice none 0 0] 24 (0, 0)) (rb2_ (h := by exact bf4_ NB215_230.out BK215.out)) hb); replace BK225 := a_ (blk_below (g := gb225) (o := .cells #[.int .i64 a0, .int .i64 a1, u226002, u226003, u226004] 24 (0, 0)) (rb2_ (h := by exact bf4_ NB225_230.out BK225.out)) hb); replace BK230 := a_ (blk_below (g := gb230) (o := .cells #[.int .i64 ((rd_T35 t226 x10_1).f0), .int .i64 ((rd_T35 t226 x10_1).f1), .bool ((rd_T35 t226 x10_1).f2), .bool ((rd_T35 t226 x10_1).f3)] 35 (0, 0)) (rb2_ (h := by exact bp4x4_ BK230.out)) hb); replace HB := bst_ z5_ hb; (try clear hb); (try clear hb2); (try clear hk); (try clear hi)))
       (try simp only [Act.put, List.setIfInBounds_toArray, List.set_cons_zero, List.set_cons_succ])
       go_cut [12, 13] (fun v12 v13 wc => ∃ (kq : Nat) (x12_32 : Int) (x13_32 : Int), v12 = .int .i64 x12_32 ∧ v13 = .int .i64 x13_32 ∧ Aside0 (spec_l05Form.j1 kq a0 t226 x10_1 x12_32 x13_32 a0 a1 x226002_1 x226003_1 x226004_1 ((rd_T35 t226 x10_1).f0) ((rd_T35 t226 x10_1).f1) ((rd_T35 t226 x10_1).f2) ((rd_T35 t226 x10_1).f3) = some (r1, r2, r3, r4, r5)) ∧ Aside0 (kq ≤ k1) ∧ Aside0 (Kd.R k35 35 wc w.heap.size (fun k_ => k_ ≠ gb230) (.slice (some ad229) t226.length co34) t226) ∧ Aside0 (Kd.R (Kd.int .i64) 2 wc w.heap.size (fun k_ => some k_ ≠ (u226003 : Value).ownBlock ∧ some k_ ≠ (u226004 : Value).ownBlock) u226002 x226002_1) ∧ Aside0 (Kd.R (Kd.int .i64) 2 wc w.heap.size (fun k_ => some k_ ≠ (u226002 : Value).ownBlock ∧ some k_ ≠ (u226004 : Value).ownBlock) u226003 x226003_1) ∧ Aside0 (Kd.R (Kd.int .i64) 2 wc w.heap.size (fun k_ => some k_ ≠ (u226002 : Value).ownBlock ∧ some k_ ≠ (u226003 : Value).ownBlock) u226004 x226004_1) ∧ Aside0 (wc.heap[gb215]? = some (.cells #[.int .i64 0, .int .i64 0, (.slice none 0 0), (.slice none 0 0), (.slice none 0 0)] 24 (0, 0))) ∧ Aside0 (wc.heap[gb225]? = some (.cells #[.int .i64 a0, .int .i64 a1, u226002, u226003, u226004] 24 (0, 0))) ∧ Aside0 (wc.heap[gb230]? = some (.cells #[.int .i64 ((rd_T35 t226 x10_1).f0), .int .i64 ((rd_T35 t226 x10_1).f1), .bool ((rd_T35 t226 x10_1).f2), .bool ((rd_T35 t226 x10_1).f3)] 35 (0, 0))) ∧ Aside0 (Below w.heap.size w wc))
       case first =>
        have H := HC33.out
        clear HC33
        by_cases c40 : t231 = true
        ·subst c40
         have H1 : (spec_l05Form.j1 k1 a0 t226 x10_1 (wrap64 ((wrap64 (2 * x10_1)) + 2)) (wrap64 ((wrap64 (2 * x10_1)) + 1)) a0 a1 x226002_1 x226003_1 x226004_1 ((rd_T35 t226 x10_1).f0) ((rd_T35 t226 x10_1).f1) ((rd_T35 t226 x10_1).f2) ((rd_T35 t226 x10_1).f3)) = some (r1, r2, r3, r4, r5) := by rw [if_pos rfl] at H; exact H
         clear H
         have H := H1
         clear H1
         have H' := a_ H
         clear H
         go_wp2
         go_meet
         case rel => exact ⟨_, (wrap64 ((wrap64 (2 * x10_1)) + 2)), (wrap64 ((wrap64 (2 * x10_1)) + 1)), z48_, z48_, H', ⟨z46_⟩, ⟨by (with_reducible repeat (first | apply Kd.R_alloc | apply Kd.R_drewN | apply Kd.R_drew)); exact Kd.R_mono HO_9.out (fun _ hk => hk.2)⟩, ⟨z36_⟩, ⟨z37_⟩, ⟨z38_⟩, ⟨z32_⟩, ⟨z33_⟩, ⟨by (with_reducible repeat (first | refine blk_drewN ?_ _ | refine blk_drew ?_ | refine blk_alloc ?_ _)); exact BK230.out⟩, ⟨z5_⟩⟩
        ·replace c40 := Bool.eq_false_iff.mpr c40
         subst c40
         have H1 : (spec_l05Form.j1 k1 a0 t226 x10_1 (wrap64 ((wrap64 (2 * x10_1)) + 1)) (wrap64 ((wrap64 (2 * x10_1)) + 2)) a0 a1 x226002_1 x226003_1 x226004_1 ((rd_T35 t226 x10_1).f0) ((rd_T35 t226 x10_1).f1) ((rd_T35 t226 x10_1).f2) ((rd_T35 t226 x10_1).f3)) = some (r1, r2, r3, r4, r5) := by rw [if_neg (show ¬ (false = true) by decide)] at H; exact H
         clear H
         have H := H1
         clear H1
         have H' := a_ H
         clear H
         go_wp2
         go_meet
         case rel => exact ⟨_, (wrap64 ((wrap64 (2 * x10_1)) + 1)), (wrap64 ((wrap64 (2 * x10_1)) + 2)), z48_, z48_, H', ⟨z46_⟩, ⟨by (with_reducible repeat (first | apply Kd.R_alloc | apply Kd.R_drewN | apply Kd.R_drew)); exact Kd.R_mono HO_9.out (fun _ hk => hk.2)⟩, ⟨z36_⟩, ⟨z37_⟩, ⟨z38_⟩, ⟨z32_⟩, ⟨z33_⟩, ⟨by (with_reducible repeat (first | refine blk_drewN ?_ _ | refine blk_drew ?_ | refine blk_alloc ?_ _)); exact BK230.out⟩, ⟨z5_⟩⟩
       case rest =>
        clear HC33; try clear c30b0; try clear c31b0; try clear hcz38_0 hcz38_1 hcz38_2 hcz38_3; try clear hfz38_0 hfz38_1 hfz38_2 hfz38_3; try clear hx229_0; try clear hx229_1; try clear hx229_2; try clear hx229_3; try clear p229; try clear q229
        obtain ⟨kq, x12_32, x13_32, rfl, rfl, HA, HJ32, HO_9, HO_226002, HO_226003, HO_226004, BK215, BK225, BK230, HB⟩ := hcut
        cases kq with
        | zero => exact absurd HA.out (by simp [spec_l05Form.j1])
        | succ kj32 =>
         have H := HA.out
         clear HA
         simp only [spec_l05Form.j1] at H
         obtain ⟨ji41, hji41⟩ : ∃ j_ : Int, (wrap64 ((wrap64 (((rd_T35 t226 x10_1).f1) * a0)) + ((rd_T35 t226 x10_1).f0))) = j_ := ⟨_, rfl⟩
         replace H : (if 0 ≤ (ji41) then (if (ji41) < (x226002_1.length : Int) then ((some (x226002_1.set ((ji41) : Int).toNat x12_32 : List Int)).bind fun y232 => (if 0 ≤ (wrap64 ((wrap64 ((wrap64 ((wrap64 (((rd_T35 t226 x10_1).f1) * a0)) + a0)) - 1)) - ((rd_T35 t226 x10_1).f0))) then (if (wrap64 ((wrap64 ((wrap64 ((wrap64 (((rd_T35 t226 x10_1).f1) * a0)) + a0)) - 1)) - ((rd_T35 t226 x10_1).f0))) < (x226003_1.length : Int) then ((some (x226003_1.set ((wrap64 ((wrap64 ((wrap64 ((wrap64 (((rd_T35 t226 x10_1).f1) * a0)) + a0)) - 1)) - ((rd_T35 t226 x10_1).f0))) : Int).toNat x13_32 : List Int)).bind fun y233 => (if ((rd_T35 t226 x10_1).f3) = true then (if (ji41) < (x226004_1.length : Int) then (spec_l05Form.l0 kj32 a0 t226 (wrap64 (x10_1 + 1)) a0 a1 y232 y233 (x226004_1.set ((ji41) : Int).toNat 1)) else (none)) else (spec_l05Form.l0 kj32 a0 t226 (wrap64 (x10_1 + 1)) a0 a1 y232 y233 x226004_1))) else (none)) else (none))) else (none)) else (none)) = some (r1, r2, r3, r4, r5) := by first | (rw [hji41] at H; exact H) | (simp only [hji41] at H ⊢; exact H)
         have hji41w : (IntKind.i64.wrap ((wrap64 (((rd_T35 t226 x10_1).f1) * a0)) + ((rd_T35 t226 x10_1).f0))) = ji41 := (i64_w _).trans hji41
         by_cases c42 : 0 ≤ (ji41)
         ·rw [if_pos c42] at H
          have c42b0 : decide (0 ≤ (ji41)) = true := decide_eq_true c42
          clear c42
          by_cases c43 : (ji41) < (x226002_1.length : Int)
          ·rw [if_pos c43] at H
           have c43b0 : decide ((ji41) < (x226002_1.length : Int)) = true := decide_eq_true c43
           clear c43
           obtain ⟨y232, hy232⟩ : ∃ y_ : List Int, y_ = (x226002_1.set ((ji41) : Int).toNat x12_32) := ⟨_, rfl⟩
           replace H : (if 0 ≤ (wrap64 ((wrap64 ((wrap64 ((wrap64 (((rd_T35 t226 x10_1).f1) * a0)) + a0)) - 1)) - ((rd_T35 t226 x10_1).f0))) then (if (wrap64 ((wrap64 ((wrap64 ((wrap64 (((rd_T35 t226 x10_1).f1) * a0)) + a0)) - 1)) - ((rd_T35 t226 x10_1).f0))) < (x226003_1.length : Int) then ((some (x226003_1.set ((wrap64 ((wrap64 ((wrap64 ((wrap64 (((rd_T35 t226 x10_1).f1) * a0)) + a0)) - 1)) - ((rd_T35 t226 x10_1).f0))) : Int).toNat x13_32 : List Int)).bind fun y233 => (if ((rd_T35 t226 x10_1).f3) = true then (if (ji41) < (x226004_1.length : Int) then (spec_l05Form.l0 kj32 a0 t226 (wrap64 (x10_1 + 1)) a0 a1 y232 y233 (x226004_1.set ((ji41) : Int).toNat 1)) else (none)) else (spec_l05Form.l0 kj32 a0 t226 (wrap64 (x10_1 + 1)) a0 a1 y232 y233 x226004_1))) else (none)) else (none)) = some (r1, r2, r3, r4, r5) := rh_ hy232 H
           have Ny232 := a_ hy232
           clear hy232
           obtain ⟨ji45, hji45⟩ : ∃ j_ : Int, (wrap64 ((wrap64 ((wrap64 ((wrap64 (((rd_T35 t226 x10_1).f1) * a0)) + a0)) - 1)) - ((rd_T35 t226 x10_1).f0))) = j_ := ⟨_, rfl⟩
           replace H : (if 0 ≤ (ji45) then (if (ji45) < (x226003_1.length : Int) then ((some (x226003_1.set ((ji45) : Int).toNat x13_32 : List Int)).bind fun y233 => (if ((rd_T35 t226 x10_1).f3) = true then (if (ji41) < (x226004_1.length : Int) then (spec_l05Form.l0 kj32 a0 t226 (wrap64 (x10_1 + 1)) a0 a1 y232 y233 (x226004_1.set ((ji41) : Int).toNat 1)) else (none)) else (spec_l05Form.l0 kj32 a0 t226 (wrap64 (x10_1 + 1)) a0 a1 y232 y233 x226004_1))) else (none)) else (none)) = some (r1, r2, r3, r4, r5) := by first | (rw [hji45] at H; exact H) | (simp only [hji45] at H ⊢; exact H)
           have hji45w : (IntKind.i64.wrap ((wrap64 ((wrap64 ((wrap64 (((rd_T35 t226 x10_1).f1) * a0)) + a0)) - 1)) - ((rd_T35 t226 x10_1).f0))) = ji45 := (i64_w _).trans hji45
           by_cases c46 : 0 ≤ (ji45)
           ·rw [if_pos c46] at H
            have c46b0 : decide (0 ≤ (ji45)) = true := decide_eq_true c46
            clear c46
            by_cases c47 : (ji45) < (x226003_1.length : Int)
            ·rw [if_pos c47] at H
             have c47b0 : decide ((ji45) < (x226003_1.length : Int)) = true := decide_eq_true c47
             clear c47
             obtain ⟨y233, hy233⟩ : ∃ y_ : List Int, y_ = (x226003_1.set ((ji45) : Int).toNat x13_32) := ⟨_, rfl⟩
             replace H : (if ((rd_T35 t226 x10_1).f3) = true then (if (ji41) < (x226004_1.length : Int) then (spec_l05Form.l0 kj32 a0 t226 (wrap64 (x10_1 + 1)) a0 a1 y232 y233 (x226004_1.set ((ji41) : Int).toNat 1)) else (none)) else (spec_l05Form.l0 kj32 a0 t226 (wrap64 (x10_1 + 1)) a0 a1 y232 y233 x226004_1)) = some (r1, r2, r3, r4, r5) := rh_ hy233 H
             have Ny233 := a_ hy233
             clear hy233
             by_cases c49 : ((rd_T35 t226 x10_1).f3) = true
             ·rw [if_pos c49] at H
              have c49b0 : ((rd_T35 t226 x10_1).f3) = true := c49
              clear c49
              by_cases c50 : (ji41) < (x226004_1.length : Int)
              ·rw [if_pos c50] at H
               have c50b0 : decide ((ji41) < (x226004_1.length : Int)) = true := decide_eq_true c50
               clear c50
               obtain ⟨y234, hy234⟩ : ∃ y_ : List Int, y_ = (x226004_1.set ((ji41) : Int).toNat 1) := ⟨_, rfl⟩
               replace H : (spec_l05Form.l0 kj32 a0 t226 (wrap64 (x10_1 + 1)) a0 a1 y232 y233 y234) = some (r1, r2, r3, r4, r5) := rh_ hy234 H
               have Ny234 := a_ hy234
               clear hy234
               have H' := a_ H
               clear H
               have hnb52 := NB225_215.out
               have hnc52 := NB215_225.out
               have hnb53 := NB225_230.out
               have hnc53 := NB230_225.out
               obtain ⟨hcz54_0, hcz54_1, hcz54_2, hcz54_3, hcz54_4, hfz54_0, hfz54_1, hfz54_2, hfz54_3, hfz54_4⟩ := cz5_ (w := wc) BK225.out
               have hnb55 := NB230_215.out
               have hnc55 := NB215_230.out
               obtain ⟨hcz56_0, hcz56_1, hcz56_2, hcz56_3, hfz56_0, hfz56_1, hfz56_2, hfz56_3⟩ := cz4_ (w := wc) BK230.out
               have p44 : 0 ≤ ((ji41) : Int) := of_decide_eq_true z47_
               have q44 : ((ji41) : Int) < ((x226002_1.length : Int) : Int) := of_decide_eq_true z47_
               obtain ⟨go44, co44, eo44, gb44, gl44, cl44, HG44⟩ := Kd.R_form HO_226002.out (by omega)
               (first | cases eo44 | (injection eo44 with ea_ en_ ec_; (first | subst ea_ | (injection ea_ with ea_; subst ea_)); subst ec_; clear en_))
               have GB44 := a_ gb44
               have GG44 := a_ HG44
               clear gb44 gl44 HG44
               obtain ⟨hx44_0, hf44_0⟩ := Kd.R_celln 0 HO_226002.out ((ji41) : Int) p44 q44
               replace p44 := eq_true p44
               replace q44 := eq_true q44
               have HP57 := Kd.R_putg HO_226002.out ((ji41) : Int) x12_32
               go_wp2_with (first | ((with_reducible refine gate_store (t := 2) (p := 60) rfl ?_); refine store_event (t := 2) (p := 60) (v := ?vo_w58) (w1 := (wc.setCell ⟨go44, ((ji41) : Int).toNat, none⟩ (.int .i64 x12_32))) ?hg ?ho ?hn ?hr ?_; (case ho => rfl); (case hg => rfl); (case hn => rfl); (case hr => first | (go_simp; done) | (go_simp; rfl)); intro w58 hw; have hg : wc.grownBy w58 (some go44) := (by rw [hw]; exact HP57.2); have hp_ : Kd.R (Kd.int .i64) 2 w58 w.heap.size (fun k_ => some k_ ≠ (u226003 : Value).ownBlock ∧ some k_ ≠ (u226004 : Value).ownBlock) (.slice (some ⟨go44, 0, none⟩) x226002_1.length co44) y232 := (by rw [hw, Ny232.out]; exact HP57.1); clear HP57; replace HO_9 := a_ (Kd.R_over' (v := (.slice (some ⟨go44, 0, none⟩) x226002_1.length co44)) (ra_ HO_9.out) (Kd.R_typed HO_226002.out) (by decide) hg); replace HO_226003 := a_ (Kd.R_after (v := (.slice (some ⟨go44, 0, none⟩) x226002_1.length co44)) (v1 := (.slice (some ⟨go44, 0, none⟩) x226002_1.length co44)) (ok := (fun k_ => some k_ ≠ (u226004 : Value).ownBlock)) (rc_ (h := by exact Kd.R_mono HO_226003.out (fun _ hk => ⟨hk.2, hk.1⟩))) hg (.inl rfl)); replace HO_226004 := a_ (Kd.R_after (v := (.slice (some ⟨go44, 0, none⟩) x226002_1.length co44)) (v1 := (.slice (some ⟨go44, 0, none⟩) x226002_1.length co44)) (ok := (fun k_ => some k_ ≠ (u226003 : Value).ownBlock)) (rc_ (h := by exact Kd.R_mono HO_226004.out (fun _ hk => ⟨hk.2, hk.1⟩))) hg (.inl rfl)); replace BK215 := a_ (blk_grown (g := gb215) (rb_ BK215.out) hg (Kd.R_ne HO_226002.out BK215.out (by decide))); replace BK225 := a_ (blk_grown (g := gb225) (rb_ BK225.out) hg (Kd.R_ne HO_226002.out BK225.out (by decide))); replace BK230 := a_ (blk_grown (g := gb230) (rb_ BK230.out) hg (Kd.R_ne HO_226002.out BK230.out (by decide))); replace HO_226002 := a_ (hp_); replace HB := a_ ((by rw [hw]; exact below_set (HB.out) GB44.out : Below w.heap.size w w58)); clear hg hw hp_; obtain ⟨hcz59_0, hcz59_1, hcz59_2, hcz59_3, hcz59_4, hfz59_0, hfz59_1, hfz59_2, hfz59_3, hfz59_4⟩ := cz5_ (w := w58) BK225.out; have hcz60_0 : w58.cell? ⟨gb230, 0, none⟩ = some (.int .i64 ((rd_T35 t226 x10_1).f0)) := (blk_cell BK230.out 0).trans rfl; have hcz60_1 : w58.cell? ⟨gb230, 1, none⟩ = some (.int .i64 ((rd_T35 t226 x10_1).f1)) := (blk_cell BK230.out 1).trans rfl; have hcz60_2 : w58.cell? ⟨gb230, 2, none⟩ = some (.bool ((rd_T35 t226 x10_1).f2)) := (blk_cell BK230.out 2).trans rfl; have hcz60_3 : w58.cell? ⟨gb230, 3, none⟩ = some (.bool ((rd_T35 t226 x10_1).f3)) := (blk_cell BK230.out 3).trans rfl; have hfz60_0 := blk_frozen BK230.out 0; have hfz60_1 := blk_frozen BK230.out 1; have hfz60_2 := blk_frozen BK230.out 2; have hfz60_3 := blk_frozen BK230.out 3; have p48 : 0 ≤ ((ji45) : Int) := of_decide_eq_true z47_; have q48 : ((ji45) : Int) < ((x226003_1.length : Int) : Int) := of_decide_eq_true z47_; obtain ⟨go48, co48, eo48, gb48, gl48, cl48, HG48⟩ := Kd.R_form HO_226003.out (by omega); (first | cases eo48 | (injection eo48 with ea_ en_ ec_; (first | subst ea_ | (injection ea_ with ea_; subst ea_)); subst ec_; clear en_)); have GB48 := a_ gb48; have GG48 := a_ HG48; clear gb48 gl48 HG48; obtain ⟨hx48_0, hf48_0⟩ := Kd.R_celln 0 HO_226003.out ((ji45) : Int) p48 q48; replace p48 := eq_true p48; replace q48 := eq_true q48; obtain ⟨hy61_, hz61_⟩ := Kd.R_celln 0 HO_226003.out ((ji45) : Int) (of_decide_eq_true z47_) (of_decide_eq_true z47_); have HP61 := Kd.R_putg HO_226003.out ((ji45) : Int) x13_32) | ((with_reducible refine gate_store (t := 2) (p := 74) rfl ?_); refine store_event (t := 2) (p := 74) (v := ?vo_w62) (w1 := (w58.setCell ⟨go48, ((ji45) : Int).toNat, none⟩ (.int .i64 x13_32))) ?hg ?ho ?hn ?hr ?_; (case ho => rfl); (case hg => rfl); (case hn => rfl); (case hr => first | (go_simp; done) | (go_simp; rfl)); intro w62 hw; have hg : w58.grownBy w62 (some go48) := (by rw [hw]; exact HP61.2); have hp_ : Kd.R (Kd.int .i64) 2 w62 w.heap.size (fun k_ => some k_ ≠ (u226004 : Value).ownBlock ∧ some k_ ≠ (.slice (some ⟨go44, 0, none⟩) x226002_1.length co44 : Value).ownBlock) (.slice (some ⟨go48, 0, none⟩) x226003_1.length co48) y233 := (by rw [hw, Ny233.out]; exact HP61.1); clear HP61; replace HO_9 := a_ (Kd.R_over' (v := (.slice (some ⟨go48, 0, none⟩) x226003_1.length co48)) (ra_ HO_9.out) (Kd.R_typed HO_226003.out) (by decide) hg); replace HO_226002 := a_ (Kd.R_after (v := (.slice (some ⟨go48, 0, none⟩) x226003_1.length co48)) (v1 := (.slice (some ⟨go48, 0, none⟩) x226003_1.length co48)) (ok := (fun k_ => some k_ ≠ (u226004 : Value).ownBlock)) (rc_ (h := by exact Kd.R_mono HO_226002.out (fun _ hk => ⟨hk.2, hk.1⟩))) hg (.inl rfl)); replace HO_226004 := a_ (Kd.R_after (v := (.slice (some ⟨go48, 0, none⟩) x226003_1.length co48)) (v1 := (.slice (some ⟨go48, 0, none⟩) x226003_1.length co48)) (ok := (fun k_ => some k_ ≠ (.slice (some ⟨go44, 0, none⟩) x226002_1.length co44 : Value).ownBlock)) (rc_ (h := by exact Kd.R_mono HO_226004.out (fun _ hk => ⟨hk.2, hk.1⟩))) hg (.inl rfl)); replace BK215 := a_ (blk_grown (g := gb215) (rb_ BK215.out) hg (Kd.R_ne HO_226003.out BK215.out (by decide))); replace BK225 := a_ (blk_grown (g := gb225) (rb_ BK225.out) hg (Kd.R_ne HO_226003.out BK225.out (by decide))); replace BK230 := a_ (blk_grown (g := gb230) (rb_ BK230.out) hg (Kd.R_ne HO_226003.out BK230.out (by decide))); replace HO_226003 := a_ (hp_); replace HB := a_ ((by rw [hw]; exact below_set (HB.out) GB48.out : Below w.heap.size w w62)); clear hg hw hp_; have hcz63_0 : w62.cell? ⟨gb230, 0, none⟩ = some (.int .i64 ((rd_T35 t226 x10_1).f0)) := (blk_cell BK230.out 0).trans rfl; have hcz63_1 : w62.cell? ⟨gb230, 1, none⟩ = some (.int .i64 ((rd_T35 t226 x10_1).f1)) := (blk_cell BK230.out 1).trans rfl; have hcz63_2 : w62.cell? ⟨gb230, 2, none⟩ = some (.bool ((rd_T35 t226 x10_1).f2)) := (blk_cell BK230.out 2).trans rfl; have hcz63_3 : w62.cell? ⟨gb230, 3, none⟩ = some (.bool ((rd_T35 t226 x10_1).f3)) := (blk_cell BK230.out 3).trans rfl; have hfz63_0 := blk_frozen BK230.out 0; have hfz63_1 := blk_frozen BK230.out 1; have hfz63_2 := blk_frozen BK230.out 2; have hfz63_3 := blk_frozen BK230.out 3; obtain ⟨hcz64_0, hcz64_1, hcz64_2, hcz64_3, hcz64_4, hfz64_0, hfz64_1, hfz64_2, hfz64_3, hfz64_4⟩ := cz5_ (w := w62) BK225.out; have p51 : 0 ≤ ((ji41) : Int) := of_decide_eq_true z47_; have q51 : ((ji41) : Int) < ((x226004_1.length : Int) : Int) := of_decide_eq_true z47_; obtain ⟨go51, co51, eo51, gb51, gl51, cl51, HG51⟩ := Kd.R_form HO_226004.out (by omega); (first | cases eo51 | (injection eo51 with ea_ en_ ec_; (first | subst ea_ | (injection ea_ with ea_; subst ea_)); subst ec_; clear en_)); have GB51 := a_ gb51; have GG51 := a_ HG51; clear gb51 gl51 HG51; obtain ⟨hx51_0, hf51_0⟩ := Kd.R_celln 0 HO_226004.out ((ji41) : Int) p51 q51; replace p51 := eq_true p51; replace q51 := eq_true q51; obtain ⟨hy65_, hz65_⟩ := Kd.R_celln 0 HO_226004.out ((ji41) : Int) (of_decide_eq_true z47_) (of_decide_eq_true z47_); have HP65 := Kd.R_putg HO_226004.out ((ji41) : Int) 1) | ((with_reducible refine gate_store (t := 2) (p := 86) rfl ?_); refine store_event (t := 2) (p := 86) (v := ?vo_w66) (w1 := (w62.setCell ⟨go51, ((ji41) : Int).toNat, none⟩ (.int .i64 1))) ?hg ?ho ?hn ?hr ?_; (case ho => rfl); (case hg => rfl); (case hn => rfl); (case hr => first | (go_simp; done) | (go_simp; rfl)); intro w66 hw; have hg : w62.grownBy w66 (some go51) := (by rw [hw]; exact HP65.2); have hp_ : Kd.R (Kd.int .i64) 2 w66 w.heap.size (fun k_ => some k_ ≠ (.slice (some ⟨go44, 0, none⟩) x226002_1.length co44 : Value).ownBlock ∧ some k_ ≠ (.slice (some ⟨go48, 0, none⟩) x226003_1.length co48 : Value).ownBlock) (.slice (some ⟨go51, 0, none⟩) x226004_1.length co51) y234 := (by rw [hw, Ny234.out]; exact HP65.1); clear HP65; replace HO_9 := a_ (Kd.R_over' (v := (.slice (some ⟨go51, 0, none⟩) x226004_1.length co51)) (ra_ HO_9.out) (Kd.R_typed HO_226004.out) (by decide) hg); replace HO_226002 := a_ (Kd.R_after (v := (.slice (some ⟨go51, 0, none⟩) x226004_1.length co51)) (v1 := (.slice (some ⟨go51, 0, none⟩) x226004_1.length co51)) (ok := (fun k_ => some k_ ≠ (.slice (some ⟨go48, 0, none⟩) x226003_1.length co48 : Value).ownBlock)) (rc_ (h := by exact Kd.R_mono HO_226002.out (fun _ hk => ⟨hk.2, hk.1⟩))) hg (.inl rfl)); replace HO_226003 := a_ (Kd.R_after (v := (.slice (some ⟨go51, 0, none⟩) x226004_1.length co51)) (v1 := (.slice (some ⟨go51, 0, none⟩) x226004_1.length co51)) (ok := (fun k_ => some k_ ≠ (.slice (some ⟨go44, 0, none⟩) x226002_1.length co44 : Value).ownBlock)) (rc_ (h := by exact Kd.R_mono HO_226003.out (fun _ hk => ⟨hk.2, hk.1⟩))) hg (.inl rfl)); replace BK215 := a_ (blk_grown (g := gb215) (rb_ BK215.out) hg (Kd.R_ne HO_226004.out BK215.out (by decide))); replace BK225 := a_ (blk_grown (g := gb225) (rb_ BK225.out) hg (Kd.R_ne HO_226004.out BK225.out (by decide))); replace BK230 := a_ (blk_grown (g := gb230) (rb_ BK230.out) hg (Kd.R_ne HO_226004.out BK230.out (by decide))); replace HO_226004 := a_ (hp_); replace HB := a_ ((by rw [hw]; exact below_set (HB.out) GB51.out : Below w.heap.size w w66)); clear hg hw hp_))
               go_roundg kj32
               case measure => have := HK1.out; have := HJ32.out; omega
               case rel => exact ⟨(wrap64 (x10_1 + 1)), (y232), (y233), (y234), (.slice (some ⟨go44, 0, none⟩) x226002_1.length co44), (.slice (some ⟨go48, 0, none⟩) x226003_1.length co48), (.slice (some ⟨go51, 0, none⟩) x226004_1.length co51), z48_, H', ⟨by have := HK1.out; have := HJ32.out; omega⟩, ⟨by (with_reducible repeat (first | apply Kd.R_alloc | apply Kd.R_drewN | apply Kd.R_drew)); exact Kd.R_mono HO_9.out (fun _ hk => trivial)⟩, ⟨z36_⟩, ⟨z37_⟩, ⟨z38_⟩, ⟨z32_⟩, ⟨z33_⟩, ⟨z5_⟩⟩
              ·rw [if_neg c50] at H
               exact absurd H (by simp)
             ·rw [if_neg c49] at H
              have c49b0 : ((rd_T35 t226 x10_1).f3) = false := by simpa using c49
              clear c49
              have H' := a_ H
              clear H
              have hnb67 := NB225_215.out
              have hnc67 := NB215_225.out
              have hnb68 := NB225_230.out
              have hnc68 := NB230_225.out
              obtain ⟨hcz69_0, hcz69_1, hcz69_2, hcz69_3, hcz69_4, hfz69_0, hfz69_1, hfz69_2, hfz69_3, hfz69_4⟩ := cz5_ (w := wc) BK225.out
              have hnb70 := NB230_215.out
              have hnc70 := NB215_230.out
              obtain ⟨hcz71_0, hcz71_1, hcz71_2, hcz71_3, hfz71_0, hfz71_1, hfz71_2, hfz71_3⟩ := cz4_ (w := wc) BK230.out
              have p44 : 0 ≤ ((ji41) : Int) := of_decide_eq_true z47_
              have q44 : ((ji41) : Int) < ((x226002_1.length : Int) : Int) := of_decide_eq_true z47_
              obtain ⟨go44, co44, eo44, gb44, gl44, cl44, HG44⟩ := Kd.R_form HO_226002.out (by omega)
              (first | cases eo44 | (injection eo44 with ea_ en_ ec_; (first | subst ea_ | (injection ea_ with ea_; subst ea_)); subst ec_; clear en_))
              have GB44 := a_ gb44
              have GG44 := a_ HG44
              clear gb44 gl44 HG44
              obtain ⟨hx44_0, hf44_0⟩ := Kd.R_celln 0 HO_226002.out ((ji41) : Int) p44 q44
              replace p44 := eq_true p44
              replace q44 := eq_true q44
              have HP72 := Kd.R_putg HO_226002.out ((ji41) : Int) x12_32
              go_wp2_with (first | ((with_reducible refine gate_store (t := 2) (p := 60) rfl ?_); refine store_event (t := 2) (p := 60) (v := ?vo_w73) (w1 := (wc.setCell ⟨go44, ((ji41) : Int).toNat, none⟩ (.int .i64 x12_32))) ?hg ?ho ?hn ?hr ?_; (case ho => rfl); (case hg => rfl); (case hn => rfl); (case hr => first | (go_simp; done) | (go_simp; rfl)); intro w73 hw; have hg : wc.grownBy w73 (some go44) := (by rw [hw]; exact HP72.2); have hp_ : Kd.R (Kd.int .i64) 2 w73 w.heap.size (fun k_ => some k_ ≠ (u226003 : Value).ownBlock ∧ some k_ ≠ (u226004 : Value).ownBlock) (.slice (some ⟨go44, 0, none⟩) x226002_1.length co44) y232 := (by rw [hw, Ny232.out]; exact HP72.1); clear HP72; replace HO_9 := a_ (Kd.R_over' (v := (.slice (some ⟨go44, 0, none⟩) x226002_1.length co44)) (ra_ HO_9.out) (Kd.R_typed HO_226002.out) (by decide) hg); replace HO_226003 := a_ (Kd.R_after (v := (.slice (some ⟨go44, 0, none⟩) x226002_1.length co44)) (v1 := (.slice (some ⟨go44, 0, none⟩) x226002_1.length co44)) (ok := (fun k_ => some k_ ≠ (u226004 : Value).ownBlock)) (rc_ (h := by exact Kd.R_mono HO_226003.out (fun _ hk => ⟨hk.2, hk.1⟩))) hg (.inl rfl)); replace HO_226004 := a_ (Kd.R_after (v := (.slice (some ⟨go44, 0, none⟩) x226002_1.length co44)) (v1 := (.slice (some ⟨go44, 0, none⟩) x226002_1.length co44)) (ok := (fun k_ => some k_ ≠ (u226003 : Value).ownBlock)) (rc_ (h := by exact Kd.R_mono HO_226004.out (fun _ hk => ⟨hk.2, hk.1⟩))) hg (.inl rfl)); replace BK215 := a_ (blk_grown (g := gb215) (rb_ BK215.out) hg (Kd.R_ne HO_226002.out BK215.out (by decide))); replace BK225 := a_ (blk_grown (g := gb225) (rb_ BK225.out) hg (Kd.R_ne HO_226002.out BK225.out (by decide))); replace BK230 := a_ (blk_grown (g := gb230) (rb_ BK230.out) hg (Kd.R_ne HO_226002.out BK230.out (by decide))); replace HO_226002 := a_ (hp_); replace HB := a_ ((by rw [hw]; exact below_set (HB.out) GB44.out : Below w.heap.size w w73)); clear hg hw hp_; obtain ⟨hcz74_0, hcz74_1, hcz74_2, hcz74_3, hcz74_4, hfz74_0, hfz74_1, hfz74_2, hfz74_3, hfz74_4⟩ := cz5_ (w := w73) BK225.out; have hcz75_0 : w73.cell? ⟨gb230, 0, none⟩ = some (.int .i64 ((rd_T35 t226 x10_1).f0)) := (blk_cell BK230.out 0).trans rfl; have hcz75_1 : w73.cell? ⟨gb230, 1, none⟩ = some (.int .i64 ((rd_T35 t226 x10_1).f1)) := (blk_cell BK230.out 1).trans rfl; have hcz75_2 : w73.cell? ⟨gb230, 2, none⟩ = some (.bool ((rd_T35 t226 x10_1).f2)) := (blk_cell BK230.out 2).trans rfl; have hcz75_3 : w73.cell? ⟨gb230, 3, none⟩ = some (.bool ((rd_T35 t226 x10_1).f3)) := (blk_cell BK230.out 3).trans rfl; have hfz75_0 := blk_frozen BK230.out 0; have hfz75_1 := blk_frozen BK230.out 1; have hfz75_2 := blk_frozen BK230.out 2; have hfz75_3 := blk_frozen BK230.out 3; have p48 : 0 ≤ ((ji45) : Int) := of_decide_eq_true z47_; have q48 : ((ji45) : Int) < ((x226003_1.length : Int) : Int) := of_decide_eq_true z47_; obtain ⟨go48, co48, eo48, gb48, gl48, cl48, HG48⟩ := Kd.R_form HO_226003.out (by omega); (first | cases eo48 | (injection eo48 with ea_ en_ ec_; (first | subst ea_ | (injection ea_ with ea_; subst ea_)); subst ec_; clear en_)); have GB48 := a_ gb48; have GG48 := a_ HG48; clear gb48 gl48 HG48; obtain ⟨hx48_0, hf48_0⟩ := Kd.R_celln 0 HO_226003.out ((ji45) : Int) p48 q48; replace p48 := eq_true p48; replace q48 := eq_true q48; obtain ⟨hy76_, hz76_⟩ := Kd.R_celln 0 HO_226003.out ((ji45) : Int) (of_decide_eq_true z47_) (of_decide_eq_true z47_); have HP76 := Kd.R_putg HO_226003.out ((ji45) : Int) x13_32) | ((with_reducible refine gate_store (t := 2) (p := 74) rfl ?_); refine store_event (t := 2) (p := 74) (v := ?vo_w77) (w1 := (w73.setCell ⟨go48, ((ji45) : Int).toNat, none⟩ (.int .i64 x13_32))) ?hg ?ho ?hn ?hr ?_; (case ho => rfl); (case hg => rfl); (case hn => rfl); (case hr => first | (go_simp; done) | (go_simp; rfl)); intro w77 hw; have hg : w73.grownBy w77 (some go48) := (by rw [hw]; exact HP76.2); have hp_ : Kd.R (Kd.int .i64) 2 w77 w.heap.size (fun k_ => some k_ ≠ (u226004 : Value).ownBlock ∧ some k_ ≠ (.slice (some ⟨go44, 0, none⟩) x226002_1.length co44 : Value).ownBlock) (.slice (some ⟨go48, 0, none⟩) x226003_1.length co48) y233 := (by rw [hw, Ny233.out]; exact HP76.1); clear HP76; replace HO_9 := a_ (Kd.R_over' (v := (.slice (some ⟨go48, 0, none⟩) x226003_1.length co48)) (ra_ HO_9.out) (Kd.R_typed HO_226003.out) (by decide) hg); replace HO_226002 := a_ (Kd.R_after (v := (.slice (some ⟨go48, 0, none⟩) x226003_1.length co48)) (v1 := (.slice (some ⟨go48, 0, none⟩) x226003_1.length co48)) (ok := (fun k_ => some k_ ≠ (u226004 : Value).ownBlock)) (rc_ (h := by exact Kd.R_mono HO_226002.out (fun _ hk => ⟨hk.2, hk.1⟩))) hg (.inl rfl)); replace HO_226004 := a_ (Kd.R_after (v := (.slice (some ⟨go48, 0, none⟩) x226003_1.length co48)) (v1 := (.slice (some ⟨go48, 0, none⟩) x226003_1.length co48)) (ok := (fun k_ => some k_ ≠ (.slice (some ⟨go44, 0, none⟩) x226002_1.length co44 : Value).ownBlock)) (rc_ (h := by exact Kd.R_mono HO_226004.out (fun _ hk => ⟨hk.2, hk.1⟩))) hg (.inl rfl)); replace BK215 := a_ (blk_grown (g := gb215) (rb_ BK215.out) hg (Kd.R_ne HO_226003.out BK215.out (by decide))); replace BK225 := a_ (blk_grown (g := gb225) (rb_ BK225.out) hg (Kd.R_ne HO_226003.out BK225.out (by decide))); replace BK230 := a_ (blk_grown (g := gb230) (rb_ BK230.out) hg (Kd.R_ne HO_226003.out BK230.out (by decide))); replace HO_226003 := a_ (hp_); replace HB := a_ ((by rw [hw]; exact below_set (HB.out) GB48.out : Below w.heap.size w w77)); clear hg hw hp_; have hcz78_0 : w77.cell? ⟨gb230, 0, none⟩ = some (.int .i64 ((rd_T35 t226 x10_1).f0)) := (blk_cell BK230.out 0).trans rfl; have hcz78_1 : w77.cell? ⟨gb230, 1, none⟩ = some (.int .i64 ((rd_T35 t226 x10_1).f1)) := (blk_cell BK230.out 1).trans rfl; have hcz78_2 : w77.cell? ⟨gb230, 2, none⟩ = some (.bool ((rd_T35 t226 x10_1).f2)) := (blk_cell BK230.out 2).trans rfl; have hcz78_3 : w77.cell? ⟨gb230, 3, none⟩ = some (.bool ((rd_T35 t226 x10_1).f3)) := (blk_cell BK230.out 3).trans rfl; have hfz78_0 := blk_frozen BK230.out 0; have hfz78_1 := blk_frozen BK230.out 1; have hfz78_2 := blk_frozen BK230.out 2; have hfz78_3 := blk_frozen BK230.out 3))
              go_roundg kj32
              case measure => have := HK1.out; have := HJ32.out; omega
              case rel => exact ⟨(wrap64 (x10_1 + 1)), (y232), (y233), (x226004_1), (.slice (some ⟨go44, 0, none⟩) x226002_1.length co44), (.slice (some ⟨go48, 0, none⟩) x226003_1.length co48), (u226004), z48_, H', ⟨by have := HK1.out; have := HJ32.out; omega⟩, ⟨by (with_reducible repeat (first | apply Kd.R_alloc | apply Kd.R_drewN | apply Kd.R_drew)); exact Kd.R_mono HO_9.out (fun _ hk => trivial)⟩, ⟨by (with_reducible repeat (first | apply Kd.R_alloc | apply Kd.R_drewN | apply Kd.R_drew)); exact Kd.R_mono HO_226002.out (fun _ hk => ⟨hk.2, hk.1⟩)⟩, ⟨by (with_reducible repeat (first | apply Kd.R_alloc | apply Kd.R_drewN | apply Kd.R_drew)); exact Kd.R_mono HO_226003.out (fun _ hk => ⟨hk.2, hk.1⟩)⟩, ⟨z38_⟩, ⟨z32_⟩, ⟨z33_⟩, ⟨z5_⟩⟩
            ·rw [if_neg c47] at H
             exact absurd H (by simp)
           ·rw [if_neg c46] at H
            exact absurd H (by simp)
          ·rw [if_neg c43] at H
           exact absurd H (by simp)
         ·rw [if_neg c42] at H
          exact absurd H (by simp)
      ·rw [if_neg c31] at H
       exact absurd H (by simp)
     ·rw [if_neg c30] at H
      have c30b0 : decide (x10_1 < (t226.length : Int)) = false := decide_eq_false c30
      clear c30
      simp only [Option.some.injEq, Prod.mk.injEq] at H
      obtain ⟨rfl, rfl, rfl, rfl, rfl⟩ := H
      obtain ⟨Ao79, co79, eo79⟩ := Kd.R_slice HO_9.out
      subst eo79
      have hnb80 := NB225_215.out
      have hnc80 := NB215_225.out
      obtain ⟨hcz81_0, hcz81_1, hcz81_2, hcz81_3, hcz81_4, hfz81_0, hfz81_1, hfz81_2, hfz81_3, hfz81_4⟩ := cz5_ (w := wr) BK225.out
      obtain ⟨hcz82_0, hcz82_1, hcz82_2, hcz82_3, hcz82_4, hfz82_0, hfz82_1, hfz82_2, hfz82_3, hfz82_4⟩ := cz5_ (w := wr) BK215.out
      obtain ⟨Ao83, co83, eo83⟩ := Kd.R_slice HO_226002.out
      subst eo83
      obtain ⟨Ao84, co84, eo84⟩ := Kd.R_slice HO_226003.out
      subst eo84
      obtain ⟨Ao85, co85, eo85⟩ := Kd.R_slice HO_226004.out
      subst eo85
      go_wp2
      refine bodyPost_ret (results_cell_row rfl _ _ gb215 24 #[.int .i64 a0, .int .i64 a1, .slice Ao83 x226002_1.length co83, .slice Ao84 x226003_1.length co84, .slice Ao85 x226004_1.length co85] (0, 0) _ rfl (rb2_ (h := by exact bp5x5_ BK215.out)) Tryd.underlying24 rfl (by kernel_rfl)) rfl ?_
      exact ⟨_, _, _, by first | rfl | (simp only [Go.IntWalk.i64_left]; first | done | rfl) | (simp [errW_none, errW_some] <;> rfl) | (simp only [← hji4]; first | rfl | (simp [errW_none, errW_some] <;> rfl)) | (simp [*, errW_none, errW_some] <;> rfl), by (with_reducible repeat (first | apply Kd.R_alloc | apply Kd.R_drewN | apply Kd.R_drew)); exact Kd.R_mono (rt5_ HO_226002.out BK215.out) (fun _ hk => ⟨hk.1.1, hk.1.2⟩), by (with_reducible repeat (first | apply Kd.R_alloc | apply Kd.R_drewN | apply Kd.R_drew)); exact Kd.R_mono (rt5_ HO_226003.out BK215.out) (fun _ hk => ⟨hk.1.1, hk.1.2⟩), by (with_reducible repeat (first | apply Kd.R_alloc | apply Kd.R_drewN | apply Kd.R_drew)); exact Kd.R_mono (rt5_ HO_226004.out BK215.out) (fun _ hk => ⟨hk.1.1, hk.1.2⟩), z8_⟩
  ·rw [if_neg c6] at H
   exact absurd H (by simp)
 ·rw [if_neg c5] at H
  exact absurd H (by simp)

/-! ### spec_ImposeSheet: function 4 -/
def spec_ImposeSheet.f (k : Nat) (a0 : Int) (a1 : Int) (a2 : ByteArray) : Option (Int × Int × List Int × List Int × List Int × Int) := (spec_l04Code.f k a0 a1 a2).bind fun t236 => (if t236 = 0 then ((spec_l05Form.f k a0 a1 a2).bind fun bt237 => (some (bt237.1, bt237.2.1, bt237.2.2.1, bt237.2.2.2.1, bt237.2.2.2.2, 0))) else (some (0, 0, ([] : List Int), ([] : List Int), ([] : List Int), t236)))
theorem spec_ImposeSheet.mono : ∀ a0 a1 a2 k, LeO (spec_ImposeSheet.f k a0 a1 a2) (spec_ImposeSheet.f (k + 1) a0 a1 a2) := by
 intro a0 a1 a2 k
 unfold spec_ImposeSheet.f
 repeat' first
   | (with_reducible exact spec_l04Code.mono _ _ _ _)
   | (with_reducible exact spec_l05Form.mono _ _ _ _)
   | (with_reducible exact LeO.refl _)
   | (with_reducible exact LeO.none _)
   | (with_reducible refine LeO.ite ?_ ?_)
   | (with_reducible refine LeO.bind ?_ (fun _ => ?_))
   | exact spec_l04Code.mono _ _ _ _
   | exact spec_l05Form.mono _ _ _ _
   | exact LeO.none _
   | refine LeO.ite ?_ ?_
   | refine LeO.bind ?_ (fun _ => ?_)
set_option maxHeartbeats 8000000 in
set_option maxRecDepth 100000 in
theorem spec_ImposeSheet.calls (k : Nat) (a0 : Int) (a1 : Int) (a2 : ByteArray) (r1 : Int) (r2 : Int) (r3 : List Int) (r4 : List Int) (r5 : List Int) (r6 : Int) (w : World) (h : spec_ImposeSheet.f k a0 a1 a2 = some (r1, r2, r3, r4, r5, r6)) :
  Calls Tryd.prog 4 #[.int .i64 a0, .int .i64 a1, .string a2] w fun e w' => ∃ v2_ v3_ v4_ : Value, e = .returned (.tuple #[.agg #[.int .i64 r1, .int .i64 r2, v2_, v3_, v4_], .int .i64 r6]) ∧ Kd.R (Kd.int .i64) 2 w' w.heap.size (fun k_ => some k_ ≠ (v3_ : Value).ownBlock ∧ some k_ ≠ (v4_ : Value).ownBlock) v2_ r3 ∧ Kd.R (Kd.int .i64) 2 w' w.heap.size (fun k_ => some k_ ≠ (v2_ : Value).ownBlock ∧ some k_ ≠ (v4_ : Value).ownBlock) v3_ r4 ∧ Kd.R (Kd.int .i64) 2 w' w.heap.size (fun k_ => some k_ ≠ (v2_ : Value).ownBlock ∧ some k_ ≠ (v3_ : Value).ownBlock) v4_ r5 ∧ Below w.heap.size w w' := by
 have hu24 := Tryd.underlying24
 have HB := a_ (Below.refl w.heap.size w)
 have H : ((spec_l04Code.f k a0 a1 a2).bind fun t236 => (if t236 = 0 then ((spec_l05Form.f k a0 a1 a2).bind fun bt237 => (some (bt237.1, bt237.2.1, bt237.2.2.1, bt237.2.2.2.1, bt237.2.2.2.2, 0))) else (some (0, 0, ([] : List Int), ([] : List Int), ([] : List Int), t236)))) = some (r1, r2, r3, r4, r5, r6) := h
 clear h
 replace H := Option.bind_eq_some_iff.mp H
 obtain ⟨t236, A40, H⟩ := H
 replace H : (if t236 = 0 then ((spec_l05Form.f k a0 a1 a2).bind fun bt237 => (some (bt237.1, bt237.2.1, bt237.2.2.1, bt237.2.2.2.1, bt237.2.2.2.2, 0))) else (some (0, 0, ([] : List Int), ([] : List Int), ([] : List Int), t236))) = some (r1, r2, r3, r4, r5, r6) := H
 have A4 := a_ A40
 clear A40
 by_cases c5 : t236 = 0
 ·rw [if_pos c5] at H
  have c5b0 : (t236 == 0) = true := beq_iff_eq.mpr c5
  have c5b1 : (t236 != 0) = false := bne_eq_false_iff_eq.mpr c5
  clear c5
  replace H := Option.bind_eq_some_iff.mp H
  obtain ⟨⟨t237, t238, t239, t242, t245⟩, A60, H⟩ := H
  replace H : (some (t237, t238, t239, t242, t245, 0)) = some (r1, r2, r3, r4, r5, r6) := H
  have A6 := a_ A60
  clear A60
  simp only [Option.some.injEq, Prod.mk.injEq] at H
  obtain ⟨rfl, rfl, rfl, rfl, rfl, rfl⟩ := H
  go_enter Tryd.func4, Tryd.ntmps4
  go_wp2_with (first | ((with_reducible refine gate_dst (N := 6) rfl ?_); refine box_event ?hg (N := 6) ?hd (cs := #[.int .i64 0, .int .i64 0, .slice none 0 0, .slice none 0 0, .slice none 0 0]) (t := 24) ?hr ?_; (case hd => rfl); (case hg => rfl); (case hr => first | (go_simp; done) | (go_simp; rfl)); intro gb235 hg w7 hbox hb; have BK235 := a_ (hbox); have GW235 := a_ ((z22_ : w.heap.size ≤ gb235)); have GE235 := a_ ((z22_ : w.heap.size ≤ gb235)); replace HB := bst_ z23_ hb; clear hb hbox hg) | ((with_reducible refine gate_callee (f := 9) rfl ?_); refine goesL_ (some 12) rfl rfl Tryd.func9 (by kernel_rfl) rfl #[.int .i64 a0, .int .i64 a1, .string a2] rfl z27_ ?_; (with_reducible refine (spec_l04Code.calls k a0 a1 a2 t236 _ A4.out).mono ?_); rintro e w' ⟨rfl, ⟨nd, rfl⟩⟩; refine ⟨_, rfl, ?_⟩; (try (rw [drewN_self w7]; generalize hq_ : World.drewN w7 _ = w7; have n0_ : Aside0 (w7.heap[gb235]? = some (.cells #[.int .i64 0, .int .i64 0, .slice none 0 0, .slice none 0 0, .slice none 0 0] 24 (0, 0))) := ⟨by rw [← hq_]; exact (rb_ BK235.out)⟩; have n1_ : Aside0 (Below w.heap.size w w7) := ⟨by rw [← hq_]; exact z16_⟩; clear BK235 HB hq_; have BK235 := n0_; have HB := n1_; clear n0_ n1_))) | ((with_reducible refine gate_callee (f := 10) rfl ?_); refine goesL_ (some 20) rfl rfl Tryd.func10 (by kernel_rfl) rfl #[.int .i64 a0, .int .i64 a1, .string a2] rfl z27_ ?_; (with_reducible refine (spec_l05Form.calls k a0 a1 a2 t237 t238 t239 t242 t245 _ A6.out).mono ?_); rintro e w8 ⟨v240, v243, v246, rfl, ho0, ho1, ho2, hb⟩; refine ⟨_, rfl, ?_⟩; have HO241 := a_ (Kd.R_lower ho0 (below_size z16_)); have HO244 := a_ (Kd.R_lower ho1 (below_size z16_)); have HO247 := a_ (Kd.R_lower ho2 (below_size z16_)); replace BK235 := bb_ gb235 BK235 hb; replace HB := bst_ z16_ hb; (try clear hb); (try clear hb2); (try clear hk); (try clear hi); (try clear ho0); (try clear ho1); (try clear ho2); obtain ⟨hcz9_0, hcz9_1, hcz9_2, hcz9_3, hcz9_4, hfz9_0, hfz9_1, hfz9_2, hfz9_3, hfz9_4⟩ := cz5_ (w := w8) BK235.out; obtain ⟨Ao10, co10, eo10⟩ := Kd.R_slice HO241.out; subst eo10; obtain ⟨Ao11, co11, eo11⟩ := Kd.R_slice HO244.out; subst eo11; obtain ⟨Ao12, co12, eo12⟩ := Kd.R_slice HO247.out; subst eo12))
  refine bodyPost_ret (results_ct rfl _ _ gb235 24 #[.int .i64 t237, .int .i64 t238, .slice Ao10 t239.length co10, .slice Ao11 t242.length co11, .slice Ao12 t245.length co12] (0, 0) _ rfl (rb2_ (h := by exact bp5x5_ BK235.out)) Tryd.underlying24 rfl (by kernel_rfl)) rfl ?_
  exact ⟨_, _, _, z24_, by (with_reducible repeat (first | apply Kd.R_alloc | apply Kd.R_drewN | apply Kd.R_drew)); exact Kd.R_mono (rt5_ HO241.out BK235.out) (fun _ hk => ⟨hk.1.1, hk.1.2⟩), by (with_reducible repeat (first | apply Kd.R_alloc | apply Kd.R_drewN | apply Kd.R_drew)); exact Kd.R_mono (rt5_ HO244.out BK235.out) (fun _ hk => ⟨hk.1.1, hk.1.2⟩), by (with_reducible repeat (first | apply Kd.R_alloc | apply Kd.R_drewN | apply Kd.R_drew)); exact Kd.R_mono (rt5_ HO247.out BK235.out) (fun _ hk => ⟨hk.1.1, hk.1.2⟩), z16_⟩
 ·rw [if_neg c5] at H
  have c5b0 : (t236 == 0) = false := beq_eq_false_iff_ne.mpr c5
  have c5b1 : (t236 != 0) = true := bne_iff_ne.mpr c5
  simp only [Option.some.injEq, Prod.mk.injEq] at H
  obtain ⟨rfl, rfl, rfl, rfl, rfl, rfl⟩ := H
  go_enter Tryd.func4, Tryd.ntmps4
  go_wp2_with (first | ((with_reducible refine gate_dst (N := 6) rfl ?_); refine box_event ?hg (N := 6) ?hd (cs := #[.int .i64 0, .int .i64 0, .slice none 0 0, .slice none 0 0, .slice none 0 0]) (t := 24) ?hr ?_; (case hd => rfl); (case hg => rfl); (case hr => first | (go_simp; done) | (go_simp; rfl)); intro gb235 hg w13 hbox hb; have BK235 := a_ (hbox); have GW235 := a_ ((z22_ : w.heap.size ≤ gb235)); have GE235 := a_ ((z22_ : w.heap.size ≤ gb235)); replace HB := bst_ z23_ hb; clear hb hbox hg) | ((with_reducible refine gate_callee (f := 9) rfl ?_); refine goesL_ (some 12) rfl rfl Tryd.func9 (by kernel_rfl) rfl #[.int .i64 a0, .int .i64 a1, .string a2] rfl z27_ ?_; (with_reducible refine (spec_l04Code.calls k a0 a1 a2 t236 _ A4.out).mono ?_); rintro e w' ⟨rfl, ⟨nd, rfl⟩⟩; refine ⟨_, rfl, ?_⟩; (try (rw [drewN_self w13]; generalize hq_ : World.drewN w13 _ = w13; have n0_ : Aside0 (w13.heap[gb235]? = some (.cells #[.int .i64 0, .int .i64 0, .slice none 0 0, .slice none 0 0, .slice none 0 0] 24 (0, 0))) := ⟨by rw [← hq_]; exact (rb_ BK235.out)⟩; have n1_ : Aside0 (Below w.heap.size w w13) := ⟨by rw [← hq_]; exact z16_⟩; clear BK235 HB hq_; have BK235 := n0_; have HB := n1_; clear n0_ n1_)); obtain ⟨hcz14_0, hcz14_1, hcz14_2, hcz14_3, hcz14_4, hfz14_0, hfz14_1, hfz14_2, hfz14_3, hfz14_4⟩ := cz5_ (w := w13) BK235.out))
  refine bodyPost_ret (results_ct rfl _ _ gb235 24 #[.int .i64 0, .int .i64 0, .slice none 0 0, .slice none 0 0, .slice none 0 0] (0, 0) _ rfl (rb2_ (h := by exact bp5x5_ BK235.out)) Tryd.underlying24 rfl (by kernel_rfl)) rfl ?_
  exact ⟨_, _, _, z24_, z26_, z26_, z26_, z16_⟩

/-! ### impl_isSide: function 31 -/
def impl_isSide.f (a0 : Int) : Option (Bool) := if a0 = 1 then (some true) else (if a0 = 2 then (some true) else (if a0 = 4 then (some true) else (some (a0 == 8))))
set_option maxHeartbeats 8000000 in
set_option maxRecDepth 100000 in
theorem impl_isSide.calls (a0 : Int) (r : Bool) (w : World) (h : impl_isSide.f a0 = some r) :
  Calls Tryd.prog 31 #[.int .i64 a0] w fun e w' => e = .returned (.bool r) ∧ Drawn0 w w' := by
 have H : (if a0 = 1 then (some true) else (if a0 = 2 then (some true) else (if a0 = 4 then (some true) else (some (a0 == 8))))) = some r := h
 clear h
 by_cases c2 : a0 = 1
 ·rw [if_pos c2] at H
  have c2b0 : (a0 == 1) = true := beq_iff_eq.mpr c2
  have c2b1 : (a0 != 1) = false := bne_eq_false_iff_eq.mpr c2
  clear c2
  obtain rfl := Option.some.inj H
  go_enter Tryd.func31, Tryd.ntmps31
  go_wp2
  go_ret
  exact ⟨z41_, z43_⟩
 ·rw [if_neg c2] at H
  have c2b0 : (a0 == 1) = false := beq_eq_false_iff_ne.mpr c2
  have c2b1 : (a0 != 1) = true := bne_iff_ne.mpr c2
  by_cases c3 : a0 = 2
  ·rw [if_pos c3] at H
   have c3b0 : (a0 == 2) = true := beq_iff_eq.mpr c3
   have c3b1 : (a0 != 2) = false := bne_eq_false_iff_eq.mpr c3
   clear c3
   obtain rfl := Option.some.inj H
   go_enter Tryd.func31, Tryd.ntmps31
   go_wp2
   go_ret
   exact ⟨z41_, z43_⟩
  ·rw [if_neg c3] at H
   have c3b0 : (a0 == 2) = false := beq_eq_false_iff_ne.mpr c3
   have c3b1 : (a0 != 2) = true := bne_iff_ne.mpr c3
   by_cases c4 : a0 = 4
   ·rw [if_pos c4] at H
    have c4b0 : (a0 == 4) = true := beq_iff_eq.mpr c4
    have c4b1 : (a0 != 4) = false := bne_eq_false_iff_eq.mpr c4
    clear c4
    obtain rfl := Option.some.inj H
    go_enter Tryd.func31, Tryd.ntmps31
    go_wp2
    go_ret
    exact ⟨z41_, z43_⟩
   ·rw [if_neg c4] at H
    have c4b0 : (a0 == 4) = false := beq_eq_false_iff_ne.mpr c4
    have c4b1 : (a0 != 4) = true := bne_iff_ne.mpr c4
    obtain rfl := Option.some.inj H
    go_enter Tryd.func31, Tryd.ntmps31
    go_wp2
    go_ret
    exact ⟨z41_, z43_⟩

/-! ### impl_isSheet: function 24 -/
def impl_isSheet.f (a0 : Int) (a1 : Int) : Option (Bool) := (impl_isSide.f a0).bind fun t248 => (if t248 = true then ((impl_isSide.f a1).bind fun t249 => (some t249)) else (some false))
set_option maxHeartbeats 8000000 in
set_option maxRecDepth 100000 in
theorem impl_isSheet.calls (a0 : Int) (a1 : Int) (r : Bool) (w : World) (h : impl_isSheet.f a0 a1 = some r) :
  Calls Tryd.prog 24 #[.int .i64 a0, .int .i64 a1] w fun e w' => e = .returned (.bool r) ∧ Drawn0 w w' := by
 have H : ((impl_isSide.f a0).bind fun t248 => (if t248 = true then ((impl_isSide.f a1).bind fun t249 => (some t249)) else (some false))) = some r := h
 clear h
 replace H := Option.bind_eq_some_iff.mp H
 obtain ⟨t248, A30, H⟩ := H
 replace H : (if t248 = true then ((impl_isSide.f a1).bind fun t249 => (some t249)) else (some false)) = some r := H
 have A3 := a_ A30
 clear A30
 by_cases c4 : t248 = true
 ·subst c4
  have H1 : ((impl_isSide.f a1).bind fun t249 => (some t249)) = some r := by rw [if_pos rfl] at H; exact H
  clear H
  have H := H1
  clear H1
  replace H := Option.bind_eq_some_iff.mp H
  obtain ⟨t249, A50, H⟩ := H
  replace H : (some t249) = some r := H
  have A5 := a_ A50
  clear A50
  obtain rfl := Option.some.inj H
  go_enter Tryd.func24, Tryd.ntmps24
  go_wp2_with (first | ((with_reducible refine gate_callee (f := 31) rfl ?_); refine goesL_ (some 6) rfl rfl Tryd.func31 (by kernel_rfl) rfl #[.int .i64 a0] rfl z27_ ?_; (with_reducible refine (impl_isSide.calls a0 true _ A3.out).mono ?_); rintro e w' ⟨rfl, ⟨nd, rfl⟩⟩; refine ⟨_, rfl, ?_⟩) | (go_at_call 31; (with_reducible refine (impl_isSide.calls a1 t249 _ A5.out).mono ?_); rintro e w' ⟨rfl, ⟨nd, rfl⟩⟩))
  go_ret
  exact ⟨z41_, z43_⟩
 ·replace c4 := Bool.eq_false_iff.mpr c4
  subst c4
  have H1 : (some false) = some r := by rw [if_neg (show ¬ (false = true) by decide)] at H; exact H
  clear H
  have H := H1
  clear H1
  obtain rfl := Option.some.inj H
  go_enter Tryd.func24, Tryd.ntmps24
  go_wp2_with (first | ((with_reducible refine gate_callee (f := 31) rfl ?_); refine goesL_ (some 6) rfl rfl Tryd.func31 (by kernel_rfl) rfl #[.int .i64 a0] rfl z27_ ?_; (with_reducible refine (impl_isSide.calls a0 false _ A3.out).mono ?_); rintro e w' ⟨rfl, ⟨nd, rfl⟩⟩; refine ⟨_, rfl, ?_⟩))
  go_ret
  exact ⟨z41_, z43_⟩

-- NOT PRINTED: function 39 (strings_trimLeftByte)

-- NOT PRINTED: function 40 (strings_trimRightByte)

-- NOT PRINTED: function 41 (strings_makeASCIISet)

-- NOT PRINTED: function 50 (strings_asciiSet_contains)

-- NOT PRINTED: function 42 (strings_trimLeftASCII)

-- NOT PRINTED: function 43 (strings_trimRightASCII)

-- NOT PRINTED: function 55 (utf8_decodeRuneInStringSlow)

-- NOT PRINTED: function 51 (utf8_DecodeRuneInString)

-- NOT PRINTED: function 59 (bytealg_IndexString)

-- NOT PRINTED: function 60 (bytealg_Cutover)

-- NOT PRINTED: function 64 (bytealg_IndexByteString)

-- NOT PRINTED: function 58 (stringslite_IndexByte)

-- NOT PRINTED: function 62 (strings_IndexByte)

-- NOT PRINTED: function 63 (utf8_ValidRune)

-- NOT PRINTED: function 56 (strings_IndexRune)

-- NOT PRINTED: function 52 (strings_ContainsRune)

-- NOT PRINTED: function 44 (strings_trimLeftUnicode)

-- NOT PRINTED: function 57 (utf8_RuneStart)

-- NOT PRINTED: function 53 (utf8_DecodeLastRuneInString)

-- NOT PRINTED: function 45 (strings_trimRightUnicode)

-- NOT PRINTED: function 32 (strings_Trim)

-- NOT PRINTED: function 46 (utf8_RuneCountInString)

-- NOT PRINTED: function 47 (bytealg_CountString)

-- NOT PRINTED: function 65 (bytealg_hashStr_string)

-- NOT PRINTED: function 61 (bytealg_IndexRabinKarp_string)

-- NOT PRINTED: function 54 (stringslite_Index)

-- NOT PRINTED: function 48 (strings_Index)

-- NOT PRINTED: function 33 (strings_Count)

end Go.Proofs.YtkpidjmhdagkfaaDoor.QFnExactImposeSheet
-- halved
