-- Written by own_print.py of this session's repo over the kit's print (its output, turned at some places).
import Derived.Test.YtgnopkapkodhhaaDoorQFnExactPageOfLabelx0
namespace Go.Proofs.YtgnopkapkodhhaaDoor.QFnExactPageOfLabel
open Go.RowKit Go.Proofs.YtgnopkapkodhhaaDoorW.PrintWords Go.Proofs.YtgnopkapkodhhaaDoorW.PrintLast Go.Proofs.YtgnopkapkodhhaaDoorW.PrintMore
attribute [local go_sem] max2_int min2_int max_two min_two max_three min_three max_four min_four   -- for this text's walks alone
set_option linter.unusedVariables false
set_option linter.unusedSimpArgs false

/-! ### impl_starts: function 34 -/
def impl_starts.l0 : Nat → List Int → List Int → Int → List Int → Int → Int → Int → List Int → Bool → Option (List Int × List Int × Int)
  | 0, _, _, _, _, _, _, _, _, _ => none
  | k + 1, x5, x6, x7, x16, x17, x18, x171000, x171001, x171002 => if x18 < x17 then (if 0 ≤ x18 then (if x18 < (x16.length : Int) then (if x171002 = true then (if (Int.tmod x7 2) = 0 then (if x6.length < 17592186044416 then (if x5.length < 17592186044416 then (impl_starts.l0 k (x5 ++ [wrap64 (x7 + 1)]) (x6 ++ [x7]) (wrap64 ((wrap64 (x7 + 1)) + (rd x16 x18))) x16 x17 (wrap64 (x18 + 1)) x171000 x171001 x171002) else (none)) else (none)) else (if x5.length < 17592186044416 then (impl_starts.l0 k (x5 ++ [x7]) x6 (wrap64 (x7 + (rd x16 x18))) x16 x17 (wrap64 (x18 + 1)) x171000 x171001 x171002) else (none))) else (if x5.length < 17592186044416 then (impl_starts.l0 k (x5 ++ [x7]) x6 (wrap64 (x7 + (rd x16 x18))) x16 x17 (wrap64 (x18 + 1)) x171000 x171001 x171002) else (none))) else (none)) else (none)) else (some (x5, x6, wrap64 (x7 - 1)))
def impl_starts.f (k : Nat) (a0_0 : Int) (l0_1 : List Int) (a0_2 : Bool) : Option (List Int × List Int × Int) := impl_starts.l0 k (([] : List Int)) (([] : List Int)) (wrap64 (a0_0 + 1)) l0_1 (l0_1.length : Int) 0 a0_0 l0_1 a0_2
theorem impl_starts.mono_l : ∀ k, (∀ y0 y1 y2 y3 y4 y5 y6 y7 y8, LeO (impl_starts.l0 k y0 y1 y2 y3 y4 y5 y6 y7 y8) (impl_starts.l0 (k + 1) y0 y1 y2 y3 y4 y5 y6 y7 y8))
  | 0 => fun _ _ _ _ _ _ _ _ _ r h => by simp [impl_starts.l0] at h
  | k + 1 => by
    have ih0 := impl_starts.mono_l k
    · intro y0 y1 y2 y3 y4 y5 y6 y7 y8
      unfold impl_starts.l0
      repeat' first
      | (with_reducible exact ih0 _ _ _ _ _ _ _ _ _)
      | (with_reducible exact LeO.refl _)
      | (with_reducible exact LeO.none _)
      | (with_reducible refine LeO.ite ?_ ?_)
      | (with_reducible refine LeO.bind ?_ (fun _ => ?_))
      | exact ih0 _ _ _ _ _ _ _ _ _
      | exact LeO.none _
      | refine LeO.ite ?_ ?_
      | refine LeO.bind ?_ (fun _ => ?_)
theorem impl_starts.mono : ∀ a0 a1 a2 k, LeO (impl_starts.f k a0 a1 a2) (impl_starts.f (k + 1) a0 a1 a2) := by
  intro a0 a1 a2 k
  have ih0 := impl_starts.mono_l k
  unfold impl_starts.f
  repeat' first
      | (with_reducible exact ih0 _ _ _ _ _ _ _ _ _)
      | (with_reducible exact LeO.refl _)
      | (with_reducible exact LeO.none _)
      | (with_reducible refine LeO.ite ?_ ?_)
      | (with_reducible refine LeO.bind ?_ (fun _ => ?_))
      | exact ih0 _ _ _ _ _ _ _ _ _
      | exact LeO.none _
      | refine LeO.ite ?_ ?_
      | refine LeO.bind ?_ (fun _ => ?_)
def impl_starts.T1 : Bool × List (List Nat × List Nat) := (true, [([], []), ([], []), ([], []), ([2], [2]), ([3], [3]), ([0, 0], [0]), ([1, 5, 0, 1, 5], [1]), ([4, 6, 0, 1, 2, 3, 4, 5, 6], [4])])
def impl_starts.B1 : List Nat := [0, 0, 0, 4, 12, 1, 35, 127]
theorem impl_starts.tab1 : rtab .any (opsOf Tryd.f34 1) = impl_starts.T1 := by kernel_rfl
theorem impl_starts.bits1 : waitsOk impl_starts.T1.2 impl_starts.B1 = true := by kernel_rfl
set_option maxHeartbeats 8000000 in
set_option maxRecDepth 100000 in
theorem impl_starts.calls (k : Nat) (a0_0 : Int) (A0_1 : Option Addr) (c0_1 : Nat) (l0_1 : List Int) (a0_2 : Bool) (r1 : List Int) (r2 : List Int) (r3 : Int) (w : World) (hr0_1 : Kd.C (Kd.int .i64) w A0_1 l0_1.length l0_1) (hc0_1 : l0_1.length ≤ c0_1) (h : impl_starts.f k a0_0 l0_1 a0_2 = some (r1, r2, r3)) :
    Calls Tryd.prog 34 #[.agg #[.int .i64 a0_0, .slice A0_1 l0_1.length c0_1, .bool a0_2]] w fun e w' => ∃ v0_ v1_ : Value, e = .returned (.tuple #[v0_, v1_, .int .i64 r3]) ∧ Kd.R (Kd.int .i64) 2 w' w.heap.size (fun k_ => some k_ ≠ (v1_ : Value).ownBlock) v0_ r1 ∧ Kd.R (Kd.int .i64) 2 w' w.heap.size (fun k_ => some k_ ≠ (v0_ : Value).ownBlock) v1_ r2 ∧ Below w.heap.size w w' := by
  have hu28 := Tryd.underlying28
  have HR0_1 := Aside0.mk hr0_1
  have HC0_1 := Aside0.mk hc0_1
  clear hr0_1 hc0_1
  have HB := Aside0.mk (Below.refl w.heap.size w)
  have H : (impl_starts.l0 k (([] : List Int)) (([] : List Int)) (wrap64 (a0_0 + 1)) l0_1 (l0_1.length : Int) 0 a0_0 l0_1 a0_2) = some (r1, r2, r3) := h
  clear h
  obtain ⟨y171, hy171⟩ : ∃ y_ : List Int, y_ = (([] : List Int)) := ⟨_, rfl⟩
  replace H : (impl_starts.l0 k y171 (([] : List Int)) (wrap64 (a0_0 + 1)) l0_1 (l0_1.length : Int) 0 a0_0 l0_1 a0_2) = some (r1, r2, r3) := by first | (rw [hy171]; with_reducible exact H) | (have H2_ := (Option.bind_some _ _).symm.trans H; rw [hy171]; with_reducible exact H2_) | (have H2_ := (Option.bind_some _ _).symm.trans H; with_reducible exact H2_) | with_reducible exact H | (rw [hy171]; exact H) | exact H
  have Ny171 := Aside0.mk hy171
  clear hy171
  obtain ⟨y174, hy174⟩ : ∃ y_ : List Int, y_ = (([] : List Int)) := ⟨_, rfl⟩
  replace H : (impl_starts.l0 k y171 y174 (wrap64 (a0_0 + 1)) l0_1 (l0_1.length : Int) 0 a0_0 l0_1 a0_2) = some (r1, r2, r3) := by first | (rw [hy174]; with_reducible exact H) | (have H2_ := (Option.bind_some _ _).symm.trans H; rw [hy174]; with_reducible exact H2_) | (have H2_ := (Option.bind_some _ _).symm.trans H; with_reducible exact H2_) | with_reducible exact H | (rw [hy174]; exact H) | exact H
  have Ny174 := Aside0.mk hy174
  clear hy174
  have H' := Aside0.mk H
  clear H
  go_enter Tryd.func34, Tryd.ntmps34
  try go_wp2_with (first | ((with_reducible refine gate_dst (N := 1) rfl ?_); refine box_event ?hg (N := 1) ?hd (cs := #[.int .i64 a0_0, .slice A0_1 l0_1.length c0_1, .bool a0_2]) (t := 28) ?hr ?_; (case hd => rfl); (case hg => rfl); (case hr => first | (go_simp; done) | (go_simp; rfl)); intro gb170 hg w2 hbox hb; have n0_ := Aside0.mk (below_step (by repeat (first | (with_reducible first | exact HB.out | apply below_alloc | apply pw_below_drewN | apply below_drew1) | exact HB.out)) hb); have n1_ := Aside0.mk (hbox); have n2_ := Aside0.mk ((by rw [hg]; exact (below_size (by repeat (first | (with_reducible first | exact HB.out | apply below_alloc | apply pw_below_drewN | apply below_drew1) | exact HB.out))) : w.heap.size ≤ gb170)); have n3_ := Aside0.mk ((by rw [hg]; exact (below_size (by repeat (first | (with_reducible first | exact HB.out | apply below_alloc | apply pw_below_drewN | apply below_drew1) | exact HB.out))) : w.heap.size ≤ gb170)); clear HB; have HB := n0_; have BK170 := n1_; have GW170 := n2_; have GE170 := n3_; clear n0_ n1_ n2_ n3_; clear hb hbox hg))
  have n0_ := Aside0.mk (blk_drew BK170.out)
  have n1_ := Aside0.mk (below_drew1 HB.out)
  clear BK170
  clear HB
  have BK170 := n0_
  have HB := n1_
  clear n0_ n1_
  refine start_ (n := 8) (S := fun w' => True) (ds := []) #[false, false, false, false, false, false, false, false] (by kernel_rfl) rfl rfl trivial (fun hHeld => ?_); refine with_tabW impl_starts.tab1 impl_starts.bits1 (fun HT_ HW_ => ?_)
  generalize w2.drew = w3 at BK170 HB hHeld ⊢
  refine pure_ (i := 2) (N := some 12) (v := ?_) (a' := ?_) #[false, false, true, false, false, false, false, false] rfl rfl (any_of HT_.out (by kernel_rfl)) (fun _ _ _ h => h) (Or.inl ⟨by rfl, ?_⟩) ?_ ?_
  rotate_left
  · intro w'
    go_simp
    with_reducible rfl
  rotate_left
  · simp only [Act.put, List.setIfInBounds_toArray, List.set_cons_zero, List.set_cons_succ, i64_w, i32_w]
    rfl
  refine inv_at [0, 1, 3, 4, 5, 6, 7] (fun a0_ b a w' => ∃ (v172 : Value) (v175 : Value) (m5_ : Value) (m6_ : Value), a = putSel a0_ b [(0, 10, v172), (1, 11, v175), (3, 13, .int .i64 a0_0), (4, 14, .int .i64 (wrap64 (a0_0 + 1))), (5, 5, m5_), (6, 6, m6_), (7, 7, .int .i64 (wrap64 (a0_0 + 1)))] ∧ (w'.heap[gb170]? = some (.cells #[.int .i64 a0_0, .slice A0_1 l0_1.length c0_1, .bool a0_2] 28 (0, 0))) ∧ (Below w.heap.size w w') ∧ (b 0 = true → Kd.R (Kd.int .i64) 2 w' w.heap.size (fun _ => True) v172 y171) ∧ (b 1 = true → Kd.R (Kd.int .i64) 2 w' w.heap.size (fun _ => True) v175 y174) ∧ (b 5 = true → (m5_ : Value) = v172) ∧ (b 6 = true → (m6_ : Value) = v175) ∧ (b 0 = true → b 1 = true → ∀ k_ : Nat, (v172 : Value).ownBlock = some k_ → (v175 : Value).ownBlock ≠ some k_)) HT_.out HW_.out (by kernel_rfl) (by kernel_rfl) ?_ ?_ ?_
  · exact ⟨.bool false, .bool false, .bool false, .bool false, by simp only [putSel, Bool.false_eq_true, if_false], BK170.out, HB.out, fun h_ => absurd h_ (by decide), fun h_ => absurd h_ (by decide), fun h_ => absurd h_ (by decide), fun h_ => absurd h_ (by decide), fun h_ => absurd h_ (by decide)⟩
  · skip
    clear BK170 HB
    refine steps_cons ?_ ?_
    · rintro b a w' ⟨v172, v175, m5_, m6_, ha, Q_BK170, Q_HB, Q_HO173, Q_HO176, Q_X5_, Q_X6_, Q_NE⟩ hb_ hon hoff
      refine ⟨_, rfl, fun K hK => ?_⟩
      replace ha := Aside0.mk ha
      have BK170 := Aside0.mk Q_BK170
      have HB := Aside0.mk Q_HB
      refine Kd.R_lit_step (Kd.int .i64) _ 2 ?hg (N := 10) ?hd (xs := ([] : List Int)) (inner := []) (ok := fun _ => True) (okp := fun _ => True) ?hr ?hp (fun _ hk => hk) trivial (Below.refl _ _) (Nat.le_refl _) (by simp) ?_; (case hd => rfl); (case hg => rfl); (case hr => first | (go_simp; done) | (go_simp; rfl)); (case hp => exact (Reps.none _ _))
      intro v172 w4 ho5 hb hg_ hnew_
      clear hg_ hnew_
      (first | rw [← Ny171.out] at ho5 | (simp only [Int.reduceToNat] at ho5; rw [← Ny171.out] at ho5))
      have n0_ := Aside0.mk (Kd.R_lower ho5 (below_size (by repeat (first | (with_reducible first | exact HB.out | apply below_alloc | apply pw_below_drewN | apply below_drew1 | refine below_set ?_ GE170.out) | exact HB.out))))
      have n1_ := Aside0.mk (blk_below (g := gb170) (o := .cells #[.int .i64 a0_0, .slice A0_1 l0_1.length c0_1, .bool a0_2] 28 (0, 0)) (by (with_reducible repeat (first | refine blk_drewN ?_ _ | refine blk_drew ?_ | refine blk_alloc ?_ _)); exact BK170.out) hb)
      have n2_ := Aside0.mk (below_step (by repeat (first | (with_reducible first | exact HB.out | apply below_alloc | apply pw_below_drewN | apply below_drew1 | refine below_set ?_ GE170.out) | exact HB.out)) hb)
      have z_HO176 := fun (h0_ : b 1 = true) => (show Kd.R (Kd.int .i64) 2 w4 w.heap.size (fun _ => True) v175 y174 from by first | exact (Kd.R_elder' (by (with_reducible repeat (first | apply Kd.R_alloc | apply Kd.R_drewN | apply Kd.R_drew)); exact (Q_HO176 h0_)) (Kd.R_base ho5) hb) | exact Kd.R_mono (Kd.R_elder' (by (with_reducible repeat (first | apply Kd.R_alloc | apply Kd.R_drewN | apply Kd.R_drew)); exact (Q_HO176 h0_)) (Kd.R_base ho5) hb) (fun _ h_ => by first | trivial | exact h_ | exact h_.1))
      clear BK170
      clear HB
      have HO173 := n0_
      have BK170 := n1_
      have HB := n2_
      clear n0_ n1_ n2_
      have z_NE := fun (_ : b 0 = true ∨ True) (h1_ : b 1 = true) (k_ : Nat) (hk_ : (v172 : Value).ownBlock = some k_) (hk2_ : (v175 : Value).ownBlock = some k_) => (Nat.not_lt.mpr (Kd.R_base ho5 k_ hk_)) (Kd.R_lt (Q_HO176 h1_) k_ hk2_)
      clear hb ho5
      refine hK.out _ _ ⟨v172, v175, m5_, m6_, (by rw [ha.out]; exact putSel_upk 0 hb_ rfl rfl rfl), (by (with_reducible repeat (first | refine blk_drewN ?_ _ | refine blk_drew ?_ | refine blk_alloc ?_ _)); exact BK170.out), (by repeat (first | (with_reducible first | exact HB.out | apply below_alloc | apply pw_below_drewN | apply below_drew1 | refine below_set ?_ GE170.out) | exact HB.out)), fun _ => (by (with_reducible repeat (first | apply Kd.R_alloc | apply Kd.R_drewN | apply Kd.R_drew)); exact HO173.out), z_HO176, fun h0_ => absurd ((hoff 5 (by kernel_rfl)).symm.trans h0_) (by decide), fun h0_ => absurd ((hoff 6 (by kernel_rfl)).symm.trans h0_) (by decide), fun _ h1_ k_ hk_ hk2_ => z_NE (.inr trivial) h1_ k_ hk_ hk2_⟩
    refine steps_cons ?_ ?_
    · rintro b a w' ⟨v172, v175, m5_, m6_, ha, Q_BK170, Q_HB, Q_HO173, Q_HO176, Q_X5_, Q_X6_, Q_NE⟩ hb_ hon hoff
      refine ⟨_, rfl, fun K hK => ?_⟩
      replace ha := Aside0.mk ha
      have BK170 := Aside0.mk Q_BK170
      have HB := Aside0.mk Q_HB
      refine Kd.R_lit_step (Kd.int .i64) _ 2 ?hg (N := 11) ?hd (xs := ([] : List Int)) (inner := []) (ok := fun _ => True) (okp := fun _ => True) ?hr ?hp (fun _ hk => hk) trivial (Below.refl _ _) (Nat.le_refl _) (by simp) ?_; (case hd => rfl); (case hg => rfl); (case hr => first | (go_simp; done) | (go_simp; rfl)); (case hp => exact (Reps.none _ _))
      intro v175 w4 ho5 hb hg_ hnew_
      clear hg_ hnew_
      (first | rw [← Ny174.out] at ho5 | (simp only [Int.reduceToNat] at ho5; rw [← Ny174.out] at ho5))
      have n0_ := Aside0.mk (Kd.R_lower ho5 (below_size (by repeat (first | (with_reducible first | exact HB.out | apply below_alloc | apply pw_below_drewN | apply below_drew1 | refine below_set ?_ GE170.out) | exact HB.out))))
      have n1_ := Aside0.mk (blk_below (g := gb170) (o := .cells #[.int .i64 a0_0, .slice A0_1 l0_1.length c0_1, .bool a0_2] 28 (0, 0)) (by (with_reducible repeat (first | refine blk_drewN ?_ _ | refine blk_drew ?_ | refine blk_alloc ?_ _)); exact BK170.out) hb)
      have n2_ := Aside0.mk (below_step (by repeat (first | (with_reducible first | exact HB.out | apply below_alloc | apply pw_below_drewN | apply below_drew1 | refine below_set ?_ GE170.out) | exact HB.out)) hb)
      have z_HO173 := fun (h0_ : b 0 = true) => (show Kd.R (Kd.int .i64) 2 w4 w.heap.size (fun _ => True) v172 y171 from by first | exact (Kd.R_elder' (by (with_reducible repeat (first | apply Kd.R_alloc | apply Kd.R_drewN | apply Kd.R_drew)); exact (Q_HO173 h0_)) (Kd.R_base ho5) hb) | exact Kd.R_mono (Kd.R_elder' (by (with_reducible repeat (first | apply Kd.R_alloc | apply Kd.R_drewN | apply Kd.R_drew)); exact (Q_HO173 h0_)) (Kd.R_base ho5) hb) (fun _ h_ => by first | trivial | exact h_ | exact h_.1))
      clear BK170
      clear HB
      have HO176 := n0_
      have BK170 := n1_
      have HB := n2_
      clear n0_ n1_ n2_
      have z_NE := fun (h0_ : b 0 = true) (_ : b 1 = true ∨ True) (k_ : Nat) (hk_ : (v172 : Value).ownBlock = some k_) (hk2_ : (v175 : Value).ownBlock = some k_) => (Nat.not_lt.mpr (Kd.R_base ho5 k_ hk2_)) (Kd.R_lt (Q_HO173 h0_) k_ hk_)
      clear hb ho5
      refine hK.out _ _ ⟨v172, v175, m5_, m6_, (by rw [ha.out]; exact putSel_upk 1 hb_ rfl rfl rfl), (by (with_reducible repeat (first | refine blk_drewN ?_ _ | refine blk_drew ?_ | refine blk_alloc ?_ _)); exact BK170.out), (by repeat (first | (with_reducible first | exact HB.out | apply below_alloc | apply pw_below_drewN | apply below_drew1 | refine below_set ?_ GE170.out) | exact HB.out)), z_HO173, fun _ => (by (with_reducible repeat (first | apply Kd.R_alloc | apply Kd.R_drewN | apply Kd.R_drew)); exact HO176.out), Q_X5_, fun h0_ => absurd ((hoff 6 (by kernel_rfl)).symm.trans h0_) (by decide), fun h0_ _ k_ hk_ hk2_ => z_NE h0_ (.inr trivial) k_ hk_ hk2_⟩
    refine steps_cons ?_ ?_
    · rintro b a w' ⟨v172, v175, m5_, m6_, ha, Q_BK170, Q_HB, Q_HO173, Q_HO176, Q_X5_, Q_X6_, Q_NE⟩ hb_ hon hoff
      refine ⟨_, rfl, fun K hK => ?_⟩
      have e12 : a.tmps[12]? = some (.pointer (some ⟨gb170, 0, none⟩)) := by rw [ha]; exact (putSel_off rfl).trans rfl
      replace ha := Aside0.mk ha
      have BK170 := Aside0.mk Q_BK170
      have HB := Aside0.mk Q_HB
      have hc0_ : w'.cell? ⟨gb170, 0, none⟩ = some (.int .i64 a0_0) := (blk_cell BK170.out 0).trans rfl
      have hc1_ : w'.cell? ⟨gb170, 1, none⟩ = some (.slice A0_1 l0_1.length c0_1) := (blk_cell BK170.out 1).trans rfl
      have hc2_ : w'.cell? ⟨gb170, 2, none⟩ = some (.bool a0_2) := (blk_cell BK170.out 2).trans rfl
      refine value_ (w1 := w') (v := .int .i64 a0_0) (by rfl) rfl ?_ ?_
      · go_simp
        (try simp only [i64_w])
        try rfl
        (try (first | done | omega | (simp only [decide_eq_true_eq] at *; omega)))
      refine hK.out _ _ ⟨v172, v175, m5_, m6_, (by rw [ha.out]; exact putSel_upk 2 hb_ rfl rfl rfl), Q_BK170, Q_HB, Q_HO173, Q_HO176, Q_X5_, Q_X6_, Q_NE⟩
    refine steps_cons ?_ ?_
    · rintro b a w' ⟨v172, v175, m5_, m6_, ha, Q_BK170, Q_HB, Q_HO173, Q_HO176, Q_X5_, Q_X6_, Q_NE⟩ hb_ hon hoff
      refine ⟨_, rfl, fun K hK => ?_⟩
      have e13 : a.tmps[13]? = some (.int .i64 a0_0) := by rw [ha]; exact putSel_on (e := (3, 13, .int .i64 a0_0)) 2 rfl rfl (hon 3 (by kernel_rfl)) rfl
      replace ha := Aside0.mk ha
      have BK170 := Aside0.mk Q_BK170
      have HB := Aside0.mk Q_HB
      refine value_ (w1 := w') (v := .int .i64 (wrap64 (a0_0 + 1))) (by rfl) rfl ?_ ?_
      · go_simp
        (try simp only [i64_w])
        try rfl
        (try (first | done | omega | (simp only [decide_eq_true_eq] at *; omega)))
      refine hK.out _ _ ⟨v172, v175, m5_, m6_, (by rw [ha.out]; exact putSel_upk 3 hb_ rfl rfl rfl), Q_BK170, Q_HB, Q_HO173, Q_HO176, Q_X5_, Q_X6_, Q_NE⟩
    refine steps_cons ?_ ?_
    · rintro b a w' ⟨v172, v175, m5_, m6_, ha, Q_BK170, Q_HB, Q_HO173, Q_HO176, Q_X5_, Q_X6_, Q_NE⟩ hb_ hon hoff
      refine ⟨_, rfl, fun K hK => ?_⟩
      have e10 : a.tmps[10]? = some (v172) := by rw [ha]; exact putSel_on (e := (0, 10, v172)) 0 rfl rfl (hon 0 (by kernel_rfl)) rfl
      replace ha := Aside0.mk ha
      have BK170 := Aside0.mk Q_BK170
      have HB := Aside0.mk Q_HB
      have HO173 := Aside0.mk (Q_HO173 (hon 0 (by kernel_rfl)))
      refine value_ (w1 := w') (v := v172) (by rfl) rfl ?_ ?_
      · go_simp
        (try simp only [i64_w])
        try rfl
        (try (first | done | omega | (simp only [decide_eq_true_eq] at *; omega)))
      refine hK.out _ _ ⟨v172, v175, (v172), m6_, (by rw [ha.out]; exact putSel_upk 4 hb_ rfl rfl rfl), Q_BK170, Q_HB, Q_HO173, Q_HO176, fun _ => rfl, fun h0_ => absurd ((hoff 6 (by kernel_rfl)).symm.trans h0_) (by decide), Q_NE⟩
    refine steps_cons ?_ ?_
    · rintro b a w' ⟨v172, v175, m5_, m6_, ha, Q_BK170, Q_HB, Q_HO173, Q_HO176, Q_X5_, Q_X6_, Q_NE⟩ hb_ hon hoff
      refine ⟨_, rfl, fun K hK => ?_⟩
      have e11 : a.tmps[11]? = some (v175) := by rw [ha]; exact putSel_on (e := (1, 11, v175)) 1 rfl rfl (hon 1 (by kernel_rfl)) rfl
      replace ha := Aside0.mk ha
      have BK170 := Aside0.mk Q_BK170
      have HB := Aside0.mk Q_HB
      have HO173 := Aside0.mk (Q_HO173 (hon 0 (by kernel_rfl)))
      have HO176 := Aside0.mk (Q_HO176 (hon 1 (by kernel_rfl)))
      refine value_ (w1 := w') (v := v175) (by rfl) rfl ?_ ?_
      · go_simp
        (try simp only [i64_w])
        try rfl
        (try (first | done | omega | (simp only [decide_eq_true_eq] at *; omega)))
      refine hK.out _ _ ⟨v172, v175, m5_, (v175), (by rw [ha.out]; exact putSel_upk 5 hb_ rfl rfl rfl), Q_BK170, Q_HB, Q_HO173, Q_HO176, Q_X5_, fun _ => rfl, Q_NE⟩
    refine steps_cons ?_ ?_
    · rintro b a w' ⟨v172, v175, m5_, m6_, ha, Q_BK170, Q_HB, Q_HO173, Q_HO176, Q_X5_, Q_X6_, Q_NE⟩ hb_ hon hoff
      refine ⟨_, rfl, fun K hK => ?_⟩
      have e14 : a.tmps[14]? = some (.int .i64 (wrap64 (a0_0 + 1))) := by rw [ha]; exact putSel_on (e := (4, 14, .int .i64 (wrap64 (a0_0 + 1)))) 3 rfl rfl (hon 4 (by kernel_rfl)) rfl
      replace ha := Aside0.mk ha
      have BK170 := Aside0.mk Q_BK170
      have HB := Aside0.mk Q_HB
      have HO173 := Aside0.mk (Q_HO173 (hon 0 (by kernel_rfl)))
      have HO176 := Aside0.mk (Q_HO176 (hon 1 (by kernel_rfl)))
      refine value_ (w1 := w') (v := .int .i64 (wrap64 (a0_0 + 1))) (by rfl) rfl ?_ ?_
      · go_simp
        (try simp only [i64_w])
        try rfl
        (try (first | done | omega | (simp only [decide_eq_true_eq] at *; omega)))
      refine hK.out _ _ ⟨v172, v175, m5_, m6_, (by rw [ha.out]; exact putSel_upk 6 hb_ rfl rfl rfl), Q_BK170, Q_HB, Q_HO173, Q_HO176, Q_X5_, Q_X6_, Q_NE⟩
    exact steps_nil
  rintro b a w8 hall ⟨v172, v175, m5_, m6_, ha, Q_BK170, Q_HB, Q_HO173, Q_HO176, Q_X5_, Q_X6_, Q_NE⟩
  clear BK170 HB
  have hb0_ := hall 0 (by kernel_rfl)
  have hb1_ := hall 1 (by kernel_rfl)
  have hb3_ := hall 3 (by kernel_rfl)
  have hb4_ := hall 4 (by kernel_rfl)
  have hb5_ := hall 5 (by kernel_rfl)
  have hb6_ := hall 6 (by kernel_rfl)
  have hb7_ := hall 7 (by kernel_rfl)
  subst ha
  obtain rfl := Q_X5_ hb5_
  obtain rfl := Q_X6_ hb6_
  simp only [putSel, hb0_, hb1_, hb3_, hb4_, hb5_, hb6_, hb7_, if_true, Act.put, List.setIfInBounds_toArray, List.set_cons_zero, List.set_cons_succ]
  have BK170 := Aside0.mk Q_BK170
  clear Q_BK170
  have HB := Aside0.mk Q_HB
  clear Q_HB
  have HO173 := Aside0.mk (show Kd.R (Kd.int .i64) 2 w8 w.heap.size (fun k_ => some k_ ≠ (m6_ : Value).ownBlock) m5_ y171 from Kd.R_of_own (Kd.own_of_R (Q_HO173 hb0_)) (fun k_ hk_ e_ => Q_NE hb0_ hb1_ k_ hk_ e_.symm))
  clear Q_HO173
  have HO176 := Aside0.mk (show Kd.R (Kd.int .i64) 2 w8 w.heap.size (fun k_ => some k_ ≠ (m5_ : Value).ownBlock) m6_ y174 from Kd.R_of_own (Kd.own_of_R (Q_HO176 hb1_)) (fun k_ hk_ e_ => Q_NE hb0_ hb1_ k_ e_.symm hk_))
  clear Q_HO176
  clear hall hb0_ hb1_ hb3_ hb4_ hb5_ hb6_ hb7_
  have hcz9_0 : w8.cell? ⟨gb170, 0, none⟩ = some (.int .i64 a0_0) := (blk_cell BK170.out 0).trans rfl
  have hcz9_1 : w8.cell? ⟨gb170, 1, none⟩ = some (.slice A0_1 l0_1.length c0_1) := (blk_cell BK170.out 1).trans rfl
  have hcz9_2 : w8.cell? ⟨gb170, 2, none⟩ = some (.bool a0_2) := (blk_cell BK170.out 2).trans rfl
  have hfz9_0 := blk_frozen BK170.out 0
  have hfz9_1 := blk_frozen BK170.out 1
  have hfz9_2 := blk_frozen BK170.out 2
  try go_wp2
  go_loopg [5, 6, 7, 18] k (fun kq v5 v6 v7 v18 w' => ∃ (x5_1 : List Int) (x6_1 : List Int) (x7_1 : Int) (x18_1 : Int), v7 = .int .i64 x7_1 ∧ v18 = .int .i64 x18_1 ∧ Aside0 (impl_starts.l0 kq x5_1 x6_1 x7_1 l0_1 (l0_1.length : Int) x18_1 a0_0 l0_1 a0_2 = some (r1, r2, r3)) ∧ Aside0 (kq ≤ k) ∧ Aside0 (Kd.R (Kd.int .i64) 2 w' w.heap.size (fun k_ => some k_ ≠ (v6 : Value).ownBlock) v5 x5_1) ∧ Aside0 (Kd.R (Kd.int .i64) 2 w' w.heap.size (fun k_ => some k_ ≠ (v5 : Value).ownBlock) v6 x6_1) ∧ Aside0 (w'.heap[gb170]? = some (.cells #[.int .i64 a0_0, (.slice A0_1 l0_1.length c0_1), .bool a0_2] 28 (0, 0))) ∧ Aside0 (Below w.heap.size w w'))
  case atStart => exact ⟨(y171), (y174), (wrap64 (a0_0 + 1)), (0), (by first | rfl | (simp; done) | (simp [*]; done)), (by first | rfl | (simp; done) | (simp [*]; done)), H', ⟨Nat.le_refl _⟩, ⟨by (with_reducible repeat (first | apply Kd.R_alloc | apply Kd.R_drewN | apply Kd.R_drew)); exact HO173.out⟩, ⟨by (with_reducible repeat (first | apply Kd.R_alloc | apply Kd.R_drewN | apply Kd.R_drew)); exact HO176.out⟩, ⟨by (with_reducible repeat (first | refine blk_drewN ?_ _ | refine blk_drew ?_ | refine blk_alloc ?_ _)); exact BK170.out⟩, ⟨by repeat (first | (with_reducible first | exact HB.out | apply below_alloc | apply pw_below_drewN | apply below_drew1 | refine below_set ?_ GE170.out) | exact HB.out)⟩⟩
  case round =>
    clear H'
    try clear c1
    try clear c2
    try clear p2
    try clear c3
    try clear p6
    try clear hcz9_0
    try clear hcz9_1
    try clear hcz9_2
    try clear hfz9_0
    try clear hfz9_1
    try clear hfz9_2
    obtain ⟨x5_1, x6_1, x7_1, x18_1, rfl, rfl, HA, HK1, HO_5, HO_6, BK170, HB⟩ := hrel
    cases gk with
    | zero => exact absurd HA.out (by simp [impl_starts.l0])
    | succ k1 =>
      have H := HA.out
      clear HA
      simp only [impl_starts.l0] at H
      by_cases c10 : x18_1 < (l0_1.length : Int)
      · rw [if_pos c10] at H
        have c10b0 : decide (x18_1 < (l0_1.length : Int)) = true := decide_eq_true c10
        clear c10
        by_cases c11 : 0 ≤ x18_1
        · rw [if_pos c11] at H
          have c11b0 : decide (0 ≤ x18_1) = true := decide_eq_true c11
          clear c11
          by_cases c12 : x18_1 < (l0_1.length : Int)
          · rw [if_pos c12] at H
            have c12b0 : decide (x18_1 < (l0_1.length : Int)) = true := decide_eq_true c12
            clear c12
            by_cases c13 : a0_2 = true
            · subst c13
              have H1 : (if (Int.tmod x7_1 2) = 0 then (if x6_1.length < 17592186044416 then (if x5_1.length < 17592186044416 then (impl_starts.l0 k1 (x5_1 ++ [wrap64 (x7_1 + 1)]) (x6_1 ++ [x7_1]) (wrap64 ((wrap64 (x7_1 + 1)) + (rd l0_1 x18_1))) l0_1 (l0_1.length : Int) (wrap64 (x18_1 + 1)) a0_0 l0_1 true) else (none)) else (none)) else (if x5_1.length < 17592186044416 then (impl_starts.l0 k1 (x5_1 ++ [x7_1]) x6_1 (wrap64 (x7_1 + (rd l0_1 x18_1))) l0_1 (l0_1.length : Int) (wrap64 (x18_1 + 1)) a0_0 l0_1 true) else (none))) = some (r1, r2, r3) := by rw [if_pos rfl] at H; exact H
              clear H
              have H := H1
              clear H1
              by_cases c14 : (Int.tmod x7_1 2) = 0
              · rw [if_pos c14] at H
                have c14b0 : ((Int.tmod x7_1 2) == 0) = true := beq_iff_eq.mpr c14
                have c14b1 : ((Int.tmod x7_1 2) != 0) = false := bne_eq_false_iff_eq.mpr c14
                clear c14
                by_cases c15 : x6_1.length < 17592186044416
                · rw [if_pos c15] at H
                  have LMc15 := Aside0.mk c15
                  clear c15
                  obtain ⟨y178, hy178⟩ : ∃ y_ : List Int, y_ = (x6_1 ++ [x7_1]) := ⟨_, rfl⟩
                  replace H : (if x5_1.length < 17592186044416 then (impl_starts.l0 k1 (x5_1 ++ [wrap64 (x7_1 + 1)]) y178 (wrap64 ((wrap64 (x7_1 + 1)) + (rd l0_1 x18_1))) l0_1 (l0_1.length : Int) (wrap64 (x18_1 + 1)) a0_0 l0_1 true) else (none)) = some (r1, r2, r3) := by first | (rw [hy178]; with_reducible exact H) | (have H2_ := (Option.bind_some _ _).symm.trans H; rw [hy178]; with_reducible exact H2_) | (have H2_ := (Option.bind_some _ _).symm.trans H; with_reducible exact H2_) | with_reducible exact H | (rw [hy178]; exact H) | exact H
                  have Ny178 := Aside0.mk hy178
                  clear hy178
                  by_cases c16 : x5_1.length < 17592186044416
                  · rw [if_pos c16] at H
                    have LMc16 := Aside0.mk c16
                    clear c16
                    obtain ⟨y181, hy181⟩ : ∃ y_ : List Int, y_ = (x5_1 ++ [wrap64 (x7_1 + 1)]) := ⟨_, rfl⟩
                    replace H : (impl_starts.l0 k1 y181 y178 (wrap64 ((wrap64 (x7_1 + 1)) + (rd l0_1 x18_1))) l0_1 (l0_1.length : Int) (wrap64 (x18_1 + 1)) a0_0 l0_1 true) = some (r1, r2, r3) := by first | (rw [hy181]; with_reducible exact H) | (have H2_ := (Option.bind_some _ _).symm.trans H; rw [hy181]; with_reducible exact H2_) | (have H2_ := (Option.bind_some _ _).symm.trans H; with_reducible exact H2_) | with_reducible exact H | (rw [hy181]; exact H) | exact H
                    have Ny181 := Aside0.mk hy181
                    clear hy181
                    have H' := Aside0.mk H
                    clear H
                    have p177 : 0 ≤ (x18_1 : Int) := of_decide_eq_true (by first | (with_reducible assumption) | assumption)
                    have q177 : x18_1 < (l0_1.length : Int) := of_decide_eq_true (by first | (with_reducible assumption) | assumption)
                    obtain ⟨ad177, e177, hx177_0⟩ := Kd.at_int HR0_1.out x18_1 p177 q177
                    cases e177
                    replace hx177_0 := (HB.out.cell (World.block_lt_of_cell? w _ hx177_0)).trans hx177_0
                    replace p177 := eq_true p177
                    replace q177 := eq_true q177
                    have hcz17_0 : wr.cell? ⟨gb170, 0, none⟩ = some (.int .i64 a0_0) := (blk_cell BK170.out 0).trans rfl
                    have hcz17_1 : wr.cell? ⟨gb170, 1, none⟩ = some (.slice (some ad177) l0_1.length c0_1) := (blk_cell BK170.out 1).trans rfl
                    have hcz17_2 : wr.cell? ⟨gb170, 2, none⟩ = some (.bool true) := (blk_cell BK170.out 2).trans rfl
                    have hfz17_0 := blk_frozen BK170.out 0
                    have hfz17_1 := blk_frozen BK170.out 1
                    have hfz17_2 := blk_frozen BK170.out 2
                    go_wp2_with (first | ((with_reducible refine gate_builtin (b := .append) (xs := #[.tmp 29, .tmp 31]) rfl ?_); at_builtin; refine Kd.R_append (Kd.int .i64) (w0 := w) w.heap.size rfl (.tmp 29) (.tmp 31) 22 2 (.int .i64 0) 8 rfl Tryd.underlying22 info2 rfl (by decide) (by omega) u6 x6_1 x7_1 [.int .i64 x7_1] (fun k_ => some k_ ≠ (u5 : Value).ownBlock) (fun _ => False) rfl rfl ?aP (fun _ hk => hk.elim) ?aF ?aO ?aB ?aS ?aL ?_; (case aP => exact rfl); (case aB => exact (by repeat (first | (with_reducible first | exact HB.out | apply below_alloc | apply pw_below_drewN | apply below_drew1 | refine below_set ?_ GE170.out) | exact HB.out))); (case aF => exact (fun k_ hk => Kd.fresh' (Kd.R_lt (by (with_reducible repeat (first | apply Kd.R_alloc | apply Kd.R_drewN | apply Kd.R_drew)); exact HO_5.out)) k_ hk)); (case aO => exact (by (with_reducible repeat (first | apply Kd.R_alloc | apply Kd.R_drewN | apply Kd.R_drew)); exact HO_6.out)); (case aS => exact (below_size (by repeat (first | (with_reducible first | exact HB.out | apply below_alloc | apply pw_below_drewN | apply below_drew1 | refine below_set ?_ GE170.out) | exact HB.out)))); (case aL => have := LMc15.out; omega); intro v179 w18 ho hb hg hat; rw [← Ny178.out] at ho; have n0_ := Aside0.mk (Kd.R_after (ok := (fun _ => True)) (by (with_reducible repeat (first | apply Kd.R_alloc | apply Kd.R_drewN | apply Kd.R_drew)); exact Kd.R_mono HO_5.out (fun _ hk => ⟨trivial, hk⟩)) hg hat); have n1_ := Aside0.mk (blk_grown (g := gb170) (o := .cells #[.int .i64 a0_0, .slice (some ad177) l0_1.length c0_1, .bool true] 28 (0, 0)) (by (with_reducible repeat (first | refine blk_drewN ?_ _ | refine blk_drew ?_ | refine blk_alloc ?_ _)); exact BK170.out) hg (Kd.R_ne HO_6.out BK170.out (by decide))); have n2_ := Aside0.mk (hb); have n3_ := Aside0.mk (ho); clear HO_5; clear BK170; clear HB; clear HO_6; have HO_5 := n0_; have BK170 := n1_; have HB := n2_; have HO180 := n3_; clear n0_ n1_ n2_ n3_; clear ho hb hg hat) | ((with_reducible refine gate_builtin (b := .append) (xs := #[.tmp 35, .tmp 37]) rfl ?_); at_builtin; refine Kd.R_append (Kd.int .i64) (w0 := w) w.heap.size rfl (.tmp 35) (.tmp 37) 22 2 (.int .i64 0) 8 rfl Tryd.underlying22 info2 rfl (by decide) (by omega) u5 x5_1 (wrap64 (x7_1 + 1)) [.int .i64 (wrap64 (x7_1 + 1))] (fun k_ => some k_ ≠ (v179 : Value).ownBlock) (fun _ => False) rfl rfl ?aP (fun _ hk => hk.elim) ?aF ?aO ?aB ?aS ?aL ?_; (case aP => exact rfl); (case aB => exact (by repeat (first | (with_reducible first | exact HB.out | apply below_alloc | apply pw_below_drewN | apply below_drew1 | refine below_set ?_ GE170.out) | exact HB.out))); (case aF => exact (fun k_ hk => Kd.fresh' (Kd.R_lt (by (with_reducible repeat (first | apply Kd.R_alloc | apply Kd.R_drewN | apply Kd.R_drew)); exact HO180.out)) k_ hk)); (case aO => exact (by (with_reducible repeat (first | apply Kd.R_alloc | apply Kd.R_drewN | apply Kd.R_drew)); exact Kd.R_mono HO_5.out (fun _ hk => hk.2))); (case aS => exact (below_size (by repeat (first | (with_reducible first | exact HB.out | apply below_alloc | apply pw_below_drewN | apply below_drew1 | refine below_set ?_ GE170.out) | exact HB.out)))); (case aL => have := LMc16.out; omega); intro v182 w19 ho hb hg hat; rw [← Ny181.out] at ho; have n0_ := Aside0.mk (blk_grown (g := gb170) (o := .cells #[.int .i64 a0_0, .slice (some ad177) l0_1.length c0_1, .bool true] 28 (0, 0)) (by (with_reducible repeat (first | refine blk_drewN ?_ _ | refine blk_drew ?_ | refine blk_alloc ?_ _)); exact BK170.out) hg (Kd.R_ne HO_5.out BK170.out (by decide))); have n1_ := Aside0.mk (Kd.R_after (ok := (fun _ => True)) (by (with_reducible repeat (first | apply Kd.R_alloc | apply Kd.R_drewN | apply Kd.R_drew)); exact Kd.R_mono HO180.out (fun _ hk => ⟨trivial, hk⟩)) hg hat); have n2_ := Aside0.mk (hb); have n3_ := Aside0.mk (ho); clear BK170; clear HO180; clear HB; clear HO_5; have BK170 := n0_; have HO180 := n1_; have HB := n2_; have HO183 := n3_; clear n0_ n1_ n2_ n3_; clear ho hb hg hat))
                    go_roundg k1
                    case measure => have := HK1.out; omega
                    case rel => exact ⟨(y181), (y178), (wrap64 ((wrap64 (x7_1 + 1)) + (rd l0_1 x18_1))), (wrap64 (x18_1 + 1)), (by first | rfl | (simp; done) | (simp [*]; done)), (by first | rfl | (simp; done) | (simp [*]; done)), H', ⟨by have := HK1.out; omega⟩, ⟨by (with_reducible repeat (first | apply Kd.R_alloc | apply Kd.R_drewN | apply Kd.R_drew)); exact HO183.out⟩, ⟨by (with_reducible repeat (first | apply Kd.R_alloc | apply Kd.R_drewN | apply Kd.R_drew)); exact Kd.R_mono HO180.out (fun _ hk => hk.2)⟩, ⟨by (with_reducible repeat (first | refine blk_drewN ?_ _ | refine blk_drew ?_ | refine blk_alloc ?_ _)); exact BK170.out⟩, ⟨by repeat (first | (with_reducible first | exact HB.out | apply below_alloc | apply pw_below_drewN | apply below_drew1 | refine below_set ?_ GE170.out) | exact HB.out)⟩⟩
                  · rw [if_neg c16] at H
                    exact absurd H (by simp)
                · rw [if_neg c15] at H
                  exact absurd H (by simp)
              · rw [if_neg c14] at H
                have c14b0 : ((Int.tmod x7_1 2) == 0) = false := beq_eq_false_iff_ne.mpr c14
                have c14b1 : ((Int.tmod x7_1 2) != 0) = true := bne_iff_ne.mpr c14
                by_cases c20 : x5_1.length < 17592186044416
                · rw [if_pos c20] at H
                  have LMc20 := Aside0.mk c20
                  clear c20
                  obtain ⟨y184, hy184⟩ : ∃ y_ : List Int, y_ = (x5_1 ++ [x7_1]) := ⟨_, rfl⟩
                  replace H : (impl_starts.l0 k1 y184 x6_1 (wrap64 (x7_1 + (rd l0_1 x18_1))) l0_1 (l0_1.length : Int) (wrap64 (x18_1 + 1)) a0_0 l0_1 true) = some (r1, r2, r3) := by first | (rw [hy184]; with_reducible exact H) | (have H2_ := (Option.bind_some _ _).symm.trans H; rw [hy184]; with_reducible exact H2_) | (have H2_ := (Option.bind_some _ _).symm.trans H; with_reducible exact H2_) | with_reducible exact H | (rw [hy184]; exact H) | exact H
                  have Ny184 := Aside0.mk hy184
                  clear hy184
                  have H' := Aside0.mk H
                  clear H
                  have p177 : 0 ≤ (x18_1 : Int) := of_decide_eq_true (by first | (with_reducible assumption) | assumption)
                  have q177 : x18_1 < (l0_1.length : Int) := of_decide_eq_true (by first | (with_reducible assumption) | assumption)
                  obtain ⟨ad177, e177, hx177_0⟩ := Kd.at_int HR0_1.out x18_1 p177 q177
                  cases e177
                  replace hx177_0 := (HB.out.cell (World.block_lt_of_cell? w _ hx177_0)).trans hx177_0
                  replace p177 := eq_true p177
                  replace q177 := eq_true q177
                  have hcz21_0 : wr.cell? ⟨gb170, 0, none⟩ = some (.int .i64 a0_0) := (blk_cell BK170.out 0).trans rfl
                  have hcz21_1 : wr.cell? ⟨gb170, 1, none⟩ = some (.slice (some ad177) l0_1.length c0_1) := (blk_cell BK170.out 1).trans rfl
                  have hcz21_2 : wr.cell? ⟨gb170, 2, none⟩ = some (.bool true) := (blk_cell BK170.out 2).trans rfl
                  have hfz21_0 := blk_frozen BK170.out 0
                  have hfz21_1 := blk_frozen BK170.out 1
                  have hfz21_2 := blk_frozen BK170.out 2
                  go_wp2_with (first | ((with_reducible refine gate_builtin (b := .append) (xs := #[.tmp 35, .tmp 37]) rfl ?_); at_builtin; refine Kd.R_append (Kd.int .i64) (w0 := w) w.heap.size rfl (.tmp 35) (.tmp 37) 22 2 (.int .i64 0) 8 rfl Tryd.underlying22 info2 rfl (by decide) (by omega) u5 x5_1 x7_1 [.int .i64 x7_1] (fun k_ => some k_ ≠ (u6 : Value).ownBlock) (fun _ => False) rfl rfl ?aP (fun _ hk => hk.elim) ?aF ?aO ?aB ?aS ?aL ?_; (case aP => exact rfl); (case aB => exact (by repeat (first | (with_reducible first | exact HB.out | apply below_alloc | apply pw_below_drewN | apply below_drew1 | refine below_set ?_ GE170.out) | exact HB.out))); (case aF => exact (fun k_ hk => Kd.fresh' (Kd.R_lt (by (with_reducible repeat (first | apply Kd.R_alloc | apply Kd.R_drewN | apply Kd.R_drew)); exact HO_6.out)) k_ hk)); (case aO => exact (by (with_reducible repeat (first | apply Kd.R_alloc | apply Kd.R_drewN | apply Kd.R_drew)); exact HO_5.out)); (case aS => exact (below_size (by repeat (first | (with_reducible first | exact HB.out | apply below_alloc | apply pw_below_drewN | apply below_drew1 | refine below_set ?_ GE170.out) | exact HB.out)))); (case aL => have := LMc20.out; omega); intro v185 w22 ho hb hg hat; rw [← Ny184.out] at ho; have n0_ := Aside0.mk (Kd.R_after (ok := (fun _ => True)) (by (with_reducible repeat (first | apply Kd.R_alloc | apply Kd.R_drewN | apply Kd.R_drew)); exact Kd.R_mono HO_6.out (fun _ hk => ⟨trivial, hk⟩)) hg hat); have n1_ := Aside0.mk (blk_grown (g := gb170) (o := .cells #[.int .i64 a0_0, .slice (some ad177) l0_1.length c0_1, .bool true] 28 (0, 0)) (by (with_reducible repeat (first | refine blk_drewN ?_ _ | refine blk_drew ?_ | refine blk_alloc ?_ _)); exact BK170.out) hg (Kd.R_ne HO_5.out BK170.out (by decide))); have n2_ := Aside0.mk (hb); have n3_ := Aside0.mk (ho); clear HO_6; clear BK170; clear HB; clear HO_5; have HO_6 := n0_; have BK170 := n1_; have HB := n2_; have HO186 := n3_; clear n0_ n1_ n2_ n3_; clear ho hb hg hat))
                  go_roundg k1
                  case measure => have := HK1.out; omega
                  case rel => exact ⟨(y184), (x6_1), (wrap64 (x7_1 + (rd l0_1 x18_1))), (wrap64 (x18_1 + 1)), (by first | rfl | (simp; done) | (simp [*]; done)), (by first | rfl | (simp; done) | (simp [*]; done)), H', ⟨by have := HK1.out; omega⟩, ⟨by (with_reducible repeat (first | apply Kd.R_alloc | apply Kd.R_drewN | apply Kd.R_drew)); exact HO186.out⟩, ⟨by (with_reducible repeat (first | apply Kd.R_alloc | apply Kd.R_drewN | apply Kd.R_drew)); exact Kd.R_mono HO_6.out (fun _ hk => hk.2)⟩, ⟨by (with_reducible repeat (first | refine blk_drewN ?_ _ | refine blk_drew ?_ | refine blk_alloc ?_ _)); exact BK170.out⟩, ⟨by repeat (first | (with_reducible first | exact HB.out | apply below_alloc | apply pw_below_drewN | apply below_drew1 | refine below_set ?_ GE170.out) | exact HB.out)⟩⟩
                · rw [if_neg c20] at H
                  exact absurd H (by simp)
            · replace c13 := Bool.eq_false_iff.mpr c13
              subst c13
              have H1 : (if x5_1.length < 17592186044416 then (impl_starts.l0 k1 (x5_1 ++ [x7_1]) x6_1 (wrap64 (x7_1 + (rd l0_1 x18_1))) l0_1 (l0_1.length : Int) (wrap64 (x18_1 + 1)) a0_0 l0_1 false) else (none)) = some (r1, r2, r3) := by rw [if_neg (show ¬ (false = true) by decide)] at H; exact H
              clear H
              have H := H1
              clear H1
              by_cases c23 : x5_1.length < 17592186044416
              · rw [if_pos c23] at H
                have LMc23 := Aside0.mk c23
                clear c23
                obtain ⟨y187, hy187⟩ : ∃ y_ : List Int, y_ = (x5_1 ++ [x7_1]) := ⟨_, rfl⟩
                replace H : (impl_starts.l0 k1 y187 x6_1 (wrap64 (x7_1 + (rd l0_1 x18_1))) l0_1 (l0_1.length : Int) (wrap64 (x18_1 + 1)) a0_0 l0_1 false) = some (r1, r2, r3) := by first | (rw [hy187]; with_reducible exact H) | (have H2_ := (Option.bind_some _ _).symm.trans H; rw [hy187]; with_reducible exact H2_) | (have H2_ := (Option.bind_some _ _).symm.trans H; with_reducible exact H2_) | with_reducible exact H | (rw [hy187]; exact H) | exact H
                have Ny187 := Aside0.mk hy187
                clear hy187
                have H' := Aside0.mk H
                clear H
                have p177 : 0 ≤ (x18_1 : Int) := of_decide_eq_true (by first | (with_reducible assumption) | assumption)
                have q177 : x18_1 < (l0_1.length : Int) := of_decide_eq_true (by first | (with_reducible assumption) | assumption)
                obtain ⟨ad177, e177, hx177_0⟩ := Kd.at_int HR0_1.out x18_1 p177 q177
                cases e177
                replace hx177_0 := (HB.out.cell (World.block_lt_of_cell? w _ hx177_0)).trans hx177_0
                replace p177 := eq_true p177
                replace q177 := eq_true q177
                have hcz24_0 : wr.cell? ⟨gb170, 0, none⟩ = some (.int .i64 a0_0) := (blk_cell BK170.out 0).trans rfl
                have hcz24_1 : wr.cell? ⟨gb170, 1, none⟩ = some (.slice (some ad177) l0_1.length c0_1) := (blk_cell BK170.out 1).trans rfl
                have hcz24_2 : wr.cell? ⟨gb170, 2, none⟩ = some (.bool false) := (blk_cell BK170.out 2).trans rfl
                have hfz24_0 := blk_frozen BK170.out 0
                have hfz24_1 := blk_frozen BK170.out 1
                have hfz24_2 := blk_frozen BK170.out 2
                go_wp2_with (first | ((with_reducible refine gate_builtin (b := .append) (xs := #[.tmp 35, .tmp 37]) rfl ?_); at_builtin; refine Kd.R_append (Kd.int .i64) (w0 := w) w.heap.size rfl (.tmp 35) (.tmp 37) 22 2 (.int .i64 0) 8 rfl Tryd.underlying22 info2 rfl (by decide) (by omega) u5 x5_1 x7_1 [.int .i64 x7_1] (fun k_ => some k_ ≠ (u6 : Value).ownBlock) (fun _ => False) rfl rfl ?aP (fun _ hk => hk.elim) ?aF ?aO ?aB ?aS ?aL ?_; (case aP => exact rfl); (case aB => exact (by repeat (first | (with_reducible first | exact HB.out | apply below_alloc | apply pw_below_drewN | apply below_drew1 | refine below_set ?_ GE170.out) | exact HB.out))); (case aF => exact (fun k_ hk => Kd.fresh' (Kd.R_lt (by (with_reducible repeat (first | apply Kd.R_alloc | apply Kd.R_drewN | apply Kd.R_drew)); exact HO_6.out)) k_ hk)); (case aO => exact (by (with_reducible repeat (first | apply Kd.R_alloc | apply Kd.R_drewN | apply Kd.R_drew)); exact HO_5.out)); (case aS => exact (below_size (by repeat (first | (with_reducible first | exact HB.out | apply below_alloc | apply pw_below_drewN | apply below_drew1 | refine below_set ?_ GE170.out) | exact HB.out)))); (case aL => have := LMc23.out; omega); intro v188 w25 ho hb hg hat; rw [← Ny187.out] at ho; have n0_ := Aside0.mk (Kd.R_after (ok := (fun _ => True)) (by (with_reducible repeat (first | apply Kd.R_alloc | apply Kd.R_drewN | apply Kd.R_drew)); exact Kd.R_mono HO_6.out (fun _ hk => ⟨trivial, hk⟩)) hg hat); have n1_ := Aside0.mk (blk_grown (g := gb170) (o := .cells #[.int .i64 a0_0, .slice (some ad177) l0_1.length c0_1, .bool false] 28 (0, 0)) (by (with_reducible repeat (first | refine blk_drewN ?_ _ | refine blk_drew ?_ | refine blk_alloc ?_ _)); exact BK170.out) hg (Kd.R_ne HO_5.out BK170.out (by decide))); have n2_ := Aside0.mk (hb); have n3_ := Aside0.mk (ho); clear HO_6; clear BK170; clear HB; clear HO_5; have HO_6 := n0_; have BK170 := n1_; have HB := n2_; have HO189 := n3_; clear n0_ n1_ n2_ n3_; clear ho hb hg hat))
                go_roundg k1
                case measure => have := HK1.out; omega
                case rel => exact ⟨(y187), (x6_1), (wrap64 (x7_1 + (rd l0_1 x18_1))), (wrap64 (x18_1 + 1)), (by first | rfl | (simp; done) | (simp [*]; done)), (by first | rfl | (simp; done) | (simp [*]; done)), H', ⟨by have := HK1.out; omega⟩, ⟨by (with_reducible repeat (first | apply Kd.R_alloc | apply Kd.R_drewN | apply Kd.R_drew)); exact HO189.out⟩, ⟨by (with_reducible repeat (first | apply Kd.R_alloc | apply Kd.R_drewN | apply Kd.R_drew)); exact Kd.R_mono HO_6.out (fun _ hk => hk.2)⟩, ⟨by (with_reducible repeat (first | refine blk_drewN ?_ _ | refine blk_drew ?_ | refine blk_alloc ?_ _)); exact BK170.out⟩, ⟨by repeat (first | (with_reducible first | exact HB.out | apply below_alloc | apply pw_below_drewN | apply below_drew1 | refine below_set ?_ GE170.out) | exact HB.out)⟩⟩
              · rw [if_neg c23] at H
                exact absurd H (by simp)
          · rw [if_neg c12] at H
            exact absurd H (by simp)
        · rw [if_neg c11] at H
          exact absurd H (by simp)
      · rw [if_neg c10] at H
        have c10b0 : decide (x18_1 < (l0_1.length : Int)) = false := decide_eq_false c10
        clear c10
        simp only [Option.some.injEq, Prod.mk.injEq] at H
        obtain ⟨rfl, rfl, rfl⟩ := H
        go_wp2
        go_ret3
        exact ⟨_, _, by first | rfl | (simp only [Go.IntWalk.i64_left]; first | done | rfl) | (simp [errW_none, errW_some] <;> rfl) | (simp [*, errW_none, errW_some] <;> rfl), by (with_reducible repeat (first | apply Kd.R_alloc | apply Kd.R_drewN | apply Kd.R_drew)); exact HO_5.out, by (with_reducible repeat (first | apply Kd.R_alloc | apply Kd.R_drewN | apply Kd.R_drew)); exact HO_6.out, by repeat (first | (with_reducible first | exact HB.out | apply below_alloc | apply pw_below_drewN | apply below_drew1 | refine below_set ?_ GE170.out) | exact HB.out)⟩

/-! ### impl_inRange: function 33 -/
def impl_inRange.f (a0 : Int) (a1 : Int) (a2 : Int) : Option (Bool) := if a1 ≤ a0 then (some (decide (a0 ≤ a2))) else (some false)
set_option maxHeartbeats 8000000 in
set_option maxRecDepth 100000 in
theorem impl_inRange.calls (a0 : Int) (a1 : Int) (a2 : Int) (r : Bool) (w : World) (h : impl_inRange.f a0 a1 a2 = some r) :
    Calls Tryd.prog 33 #[.int .i64 a0, .int .i64 a1, .int .i64 a2] w fun e w' => e = .returned (.bool r) ∧ Drawn0 w w' := by
  have H : (if a1 ≤ a0 then (some (decide (a0 ≤ a2))) else (some false)) = some r := h
  clear h
  by_cases c4 : a1 ≤ a0
  · rw [if_pos c4] at H
    have c4b0 : decide (a1 ≤ a0) = true := decide_eq_true c4
    clear c4
    obtain rfl := Option.some.inj H
    go_enter Tryd.func33, Tryd.ntmps33
    go_wp2
    go_ret
    exact ⟨by first | rfl | (simp only [Go.IntWalk.i64_left]; first | done | rfl) | (simp; done) | (simp [*]; done), by repeat (first | exact Drawn0.refl _ | apply Drawn0.step)⟩
  · rw [if_neg c4] at H
    have c4b0 : decide (a1 ≤ a0) = false := decide_eq_false c4
    clear c4
    obtain rfl := Option.some.inj H
    go_enter Tryd.func33, Tryd.ntmps33
    go_wp2
    go_ret
    exact ⟨by first | rfl | (simp only [Go.IntWalk.i64_left]; first | done | rfl) | (simp; done) | (simp [*]; done), by repeat (first | exact Drawn0.refl _ | apply Drawn0.step)⟩

-- NOT PRINTED: function 51 (abi_NoEscape)

-- NOT PRINTED: function 47 (strings_Builder_copyCheck)

-- NOT PRINTED: function 42 (strings_Builder_WriteString)

-- NOT PRINTED: function 43 (strings_Builder_String)

/-! ### impl_RomanText -/
def romTab : List (Int × List UInt8) := [(1000, [109]), (900, [99, 109]), (500, [100]), (400, [99, 100]), (100, [99]), (90, [120, 99]), (50, [108]), (40, [120, 108]), (10, [120]), (9, [105, 120]), (5, [118]), (4, [105, 118]), (1, [105])]
def romStep (v : Int) (m : List UInt8) : Nat → Int → List UInt8 → Int × List UInt8
  | 0, n, acc => (n, acc)
  | k + 1, n, acc => if v ≤ n then romStep v m k (n - v) (acc ++ m) else (n, acc)
def romAll : List (Int × List UInt8) → Int → List UInt8 → List UInt8
  | [], n, acc => acc
  | p :: t, n, acc => romAll t (romStep p.1 p.2 4000 n acc).1 (romStep p.1 p.2 4000 n acc).2
def impl_RomanText.f (a0 : Int) : Option ByteArray := if 1 ≤ a0 ∧ a0 ≤ 3999 then some ⟨(romAll romTab a0 []).toArray⟩ else some ⟨#[]⟩
theorem rom_range (n : Int) : impl_inRange.f n 1 3999 = some (decide (1 ≤ n ∧ n ≤ 3999)) := by
  unfold impl_inRange.f
  by_cases h : 1 ≤ n
  · rw [if_pos h]; simp [h]
  · rw [if_neg h]; simp [h]
set_option maxHeartbeats 1000000 in
set_option maxRecDepth 100000 in
theorem bld_used (b : Nat) (w : World) (h0 : w.cell? ⟨b, 0, none⟩ = some (.pointer (some ⟨b, 0, none⟩))) :
    Calls Tryd.prog 47 #[.pointer (some ⟨b, 0, none⟩)] w fun e w' => e = .returned (.tuple #[]) ∧ w' = w := by
  obtain ⟨j, hj, _⟩ := Option.map_eq_some_iff.1 (show (Tryd.prog.info? 68).map (·.size) = some 2 by kernel_rfl)
  go_enter Tryd.func47, Tryd.ntmps47
  go_wp2
  rw [Lib.run_neq_ptr_same w _ Tryd.underlying66 hj]
  go_wp2
  go_end0
  exact ⟨rfl, rfl⟩
set_option maxHeartbeats 1000000 in
set_option maxRecDepth 100000 in
theorem bld_fresh (b : Nat) (w : World) (h0 : w.cell? ⟨b, 0, none⟩ = some (.pointer none)) (hsh : w.shape? b = some (68, 2)) (hfz : w.frozen? ⟨b, 0, none⟩ = false) :
    Calls Tryd.prog 47 #[.pointer (some ⟨b, 0, none⟩)] w fun e w' => e = .returned (.tuple #[]) ∧ w' = w.setCell ⟨b, 0, none⟩ (.pointer (some ⟨b, 0, none⟩)) := by
  obtain ⟨j, hj, hjs⟩ := Option.map_eq_some_iff.1 (show (Tryd.prog.info? 68).map (·.size) = some 2 by kernel_rfl)
  go_enter Tryd.func47, Tryd.ntmps47
  go_wp2
  rw [Lib.run_to_unsafe w ⟨b, 0, none⟩ Tryd.underlying66 Tryd.underlying80 hj (by rw [hjs]; decide) hsh (Nat.zero_lt_succ 1)]
  simp only [Result.andThen]
  rw [Oper.upon_value]
  go_wp2
  rw [run_callFunc_extern Tryd.func51 (by kernel_rfl) (by kernel_rfl) (by kernel_rfl) (e := Extern.AbiNoEscape.same) (by kernel_rfl)]
  rw [Lib.run_noEscape]
  simp only [Result.andThen]
  rw [Oper.upon_value]
  go_wp2
  rw [Lib.run_from_unsafe w ⟨b, 0, none⟩ Tryd.underlying80 Tryd.underlying66 hj hsh (by kernel_rfl)]
  simp only [Result.andThen]
  rw [Oper.upon_value]
  go_wp2
  go_end0
  exact ⟨rfl, rfl⟩
theorem bld_check (B b : Nat) (bs : List Value) (w : World) (h : Lib.IsBuilder 68 5 B b bs w) :
    Calls Tryd.prog 47 #[.pointer (some ⟨b, 0, none⟩)] w fun e w' => e = .returned (.tuple #[]) ∧ (Lib.BuilderAt 68 5 B b (.pointer (some ⟨b, 0, none⟩)) bs w' ∧ Below B w w') := by
  rcases h with h | h
  · refine (bld_fresh b w h.cell0 h.shape h.frozen0).mono ?_
    rintro e w' ⟨rfl, rfl⟩
    exact ⟨rfl, h.used _, (Below.refl B w).setCell (p := ⟨b, 0, none⟩) h.1 _⟩
  · refine (bld_used b w h.cell0).mono ?_
    rintro e w' ⟨rfl, rfl⟩
    exact ⟨rfl, h, Below.refl B _⟩
set_option maxHeartbeats 2000000 in
set_option maxRecDepth 100000 in
theorem bld_write (B b : Nat) (bs : List Value) (s : ByteArray) (w : World) (h : Lib.IsBuilder 68 5 B b bs w) (hlen : bs.length + s.size ≤ 140737488355328) (hBw : B ≤ w.heap.size) :
    Calls Tryd.prog 42 #[.pointer (some ⟨b, 0, none⟩), .string s] w fun e w' => e = .returned (.tuple #[.int .i64 s.size, .nilIface]) ∧ (Lib.BuilderAt 68 5 B b (.pointer (some ⟨b, 0, none⟩)) (bs ++ Lib.strCells s) w' ∧ Below B w w') := by
  obtain ⟨i0, hi, hz0, hz1, hz2⟩ := info_parts (show (Tryd.prog.info? 5).map (fun i => (i.zero, i.size, i.bytes)) = some (some (.int .u8 0), 1, 1) by kernel_rfl)
  go_enter Tryd.func42, Tryd.ntmps42
  go_wp2_with (go_at_call 47; refine (bld_check B b bs _ h).mono ?_)
  rintro e w1 ⟨rfl, h1, hb1⟩
  obtain ⟨hB, v, hbk, hown, hne⟩ := h1
  have c0 : w1.cell? ⟨b, 0, none⟩ = some (.pointer (some ⟨b, 0, none⟩)) := by rw [Lib.cell_of_heap hbk]; rfl
  have c1 : w1.cell? ⟨b, 1, none⟩ = some v := by rw [Lib.cell_of_heap hbk]; rfl
  go_wp2_with (at_builtin; refine Lib.wpList_append_own_string _ rfl _ _ 35 9 rfl B 5 i0 Tryd.underlying35 Tryd.underlying9 hi hz0 hz1 hz2 _ _ _ rfl hown s rfl ?c3 ?c4 ?c5 ?_)
  case c3 => unfold maxLen; omega
  case c4 => omega
  case c5 => have := hb1.size; omega
  intro v' w2 hown' hgrow _
  have hlt : b < w1.heap.size := by
    rcases Nat.lt_or_ge b w1.heap.size with h' | h'
    · exact h'
    · simp [Array.getElem?_eq_none h'] at hbk
  have hb2 : w2.heap[b]? = some (.cells #[.pointer (some ⟨b, 0, none⟩), v] 68 (0, 0)) := by
    rw [hgrow.block b hlt (fun e => hne e.symm)]
    exact hbk
  have d0 : w2.cell? ⟨b, 0, none⟩ = some (.pointer (some ⟨b, 0, none⟩)) := by rw [Lib.cell_of_heap hb2]; rfl
  have d1 : w2.cell? ⟨b, 1, none⟩ = some v := by rw [Lib.cell_of_heap hb2]; rfl
  have f1 : w2.frozen? ⟨b, 1, none⟩ = false := Lib.frozen_of_heap hb2 1
  obtain ⟨ao, n', cap, rfl⟩ : ∃ ao n' cap, v' = .slice ao n' cap := by
    rcases hown'.2 with ⟨hv, _⟩ | ⟨g, cap, cur, hv, _⟩
    · exact ⟨_, _, _, hv⟩
    · exact ⟨_, _, _, hv⟩
  go_wp2
  go_ret2
  refine ⟨rfl, ?_, ?_⟩
  · exact Lib.BuilderAt.put (T := 68) (e := 5) hB hb2 (bs' := bs ++ Lib.strCells s) (by simpa [Lib.strCells_length] using hown') (by decide)
  · exact (hb1.grown hgrow (by have := hb1.size; omega) (fun k hk => (hown.lt k hk).1)).setCell (p := ⟨b, 1, none⟩) hB _
def rom_ren : Go.Shelf.Ren := ⟨fun | 169 => 43 | n => n, fun | 70 => 66 | 9 => 9 | 0 => 0 | 72 => 68 | 37 => 35 | 127 => 77 | 3 => 3 | 5 => 5 | n => n, fun | n => n⟩
theorem rom_lays : Go.Proofs.Lays.n169 Tryd.prog rom_ren := {
  mixed := by kernel_rfl
  f169 := Tryd.func43.trans (congrArg some (by kernel_rfl))
  t0 := Tryd.underlying0
  a0 := Tryd.isAgg0
  z0 := Tryd.sizeOf0
  v0 := Tryd.zeroValue0
  t3 := Tryd.underlying3
  a3 := Tryd.isAgg3
  z3 := Tryd.sizeOf3
  v3 := Tryd.zeroValue3
  t9 := Tryd.underlying9
  a9 := Tryd.isAgg9
  z9 := Tryd.sizeOf9
  v9 := Tryd.zeroValue9
  t37 := Tryd.underlying35
  a37 := Tryd.isAgg35
  z37 := Tryd.sizeOf35
  v37 := Tryd.zeroValue35
  t70 := Tryd.underlying66
  a70 := Tryd.isAgg66
  z70 := Tryd.sizeOf66
  v70 := Tryd.zeroValue66
  t72 := Tryd.underlying68
  a72 := Tryd.isAgg68
  z72 := Tryd.sizeOf68
  v72 := Tryd.zeroValue68
  t127 := Tryd.underlying77
  a127 := Tryd.isAgg77
  z127 := Tryd.sizeOf77
  v127 := Tryd.zeroValue77 }
theorem rom_extra : Go.Proofs.Builder.Extra Tryd.prog rom_ren := {
  sizeBuilder := by kernel_rfl
  liesBuilder := by kernel_rfl
  t5 := Tryd.underlying5
  a5 := Tryd.isAgg5
  z5 := Tryd.sizeOf5
  v5 := Tryd.zeroValue5
  infoByte := by kernel_rfl
  cellsByte := by kernel_rfl
  sizeByte := by kernel_rfl
  neB5 := by decide }
theorem rom_String (B b : Nat) (l : List UInt8) (w : World) (h : Lib.IsBuilder 68 5 B b (Lib.byteCells l) w) (hBw : B ≤ w.heap.size) :
    Calls Tryd.prog 43 #[.pointer (some ⟨b, 0, none⟩)] w fun e w' => e = .returned (.string ⟨l.toArray⟩) ∧ Below B w w' := Go.Proofs.Any.Builder_String_any rom_lays rom_extra B b l w h hBw
theorem rom_facts : ∀ i : Fin 13, 1 ≤ (romTab.getD i.val (0, [])).1 ∧ (romTab.getD i.val (0, [])).1 ≤ 1000 ∧ (romTab.getD i.val (0, [])).2.length ≤ 2 := by decide
theorem rom_drop (i : Nat) (h : i < 13) : romTab.drop i = romTab.getD i (0, []) :: romTab.drop (i + 1) := by
  have hl : i < romTab.length := h
  rw [List.drop_eq_getElem_cons hl]
  simp [List.getD_eq_getElem?_getD, hl]
def romVals : Array Value := #[.int .i64 1000, .int .i64 900, .int .i64 500, .int .i64 400, .int .i64 100, .int .i64 90, .int .i64 50, .int .i64 40, .int .i64 10, .int .i64 9, .int .i64 5, .int .i64 4, .int .i64 1]
def romMarks : Array Value := #[.string ⟨#[109]⟩, .string ⟨#[99, 109]⟩, .string ⟨#[100]⟩, .string ⟨#[99, 100]⟩, .string ⟨#[99]⟩, .string ⟨#[120, 99]⟩, .string ⟨#[108]⟩, .string ⟨#[120, 108]⟩, .string ⟨#[120]⟩, .string ⟨#[105, 120]⟩, .string ⟨#[118]⟩, .string ⟨#[105, 118]⟩, .string ⟨#[105]⟩]
theorem rom_at : ∀ i : Fin 13, romVals[i.val]? = some (.int .i64 (romTab.getD i.val (0, [])).1) ∧ romMarks[i.val]? = some (.string ⟨(romTab.getD i.val (0, [])).2.toArray⟩) := by
  intro i
  obtain ⟨i, hi⟩ := i
  match i, hi with
  | 0, _ | 1, _ | 2, _ | 3, _ | 4, _ | 5, _ | 6, _ | 7, _ | 8, _ | 9, _ | 10, _ | 11, _ | 12, _ => exact ⟨rfl, rfl⟩
  | n + 13, h => omega
theorem rom_cells (w : World) (H : Nat) (arr : Array Value) (t : TypeId) (h : w.heap[H]? = some (.cells arr t (0, 0))) (i : Nat) (v : Value) (hv : arr[i]? = some v) : w.cell? ⟨H, i, none⟩ = some v := by
  simp [World.cell?, h, hv]
theorem rom_blocks (w : World) (o1 o2 o3 : Obj) : (((w.alloc o1).alloc o2).alloc o3).heap[w.heap.size]? = some o1 ∧ (((w.alloc o1).alloc o2).alloc o3).heap[w.heap.size + 1]? = some o2 ∧ (((w.alloc o1).alloc o2).alloc o3).heap[w.heap.size + 2]? = some o3 ∧ (((w.alloc o1).alloc o2).alloc o3).heap.size = w.heap.size + 3 := by
  have s1 : (w.alloc o1).heap.size = w.heap.size + 1 := World.size_alloc _ _
  have s2 : ((w.alloc o1).alloc o2).heap.size = w.heap.size + 2 := by rw [World.size_alloc, s1]
  have s3 : (((w.alloc o1).alloc o2).alloc o3).heap.size = w.heap.size + 3 := by rw [World.size_alloc, s2]
  refine ⟨?_, ?_, ?_, s3⟩
  · rw [Lib.alloc_old _ _ _ (by omega), Lib.alloc_old _ _ _ (by omega)]; exact heap_alloc_new _ _
  · rw [Lib.alloc_old _ _ _ (by omega), ← s1]; exact heap_alloc_new _ _
  · rw [← s2]; exact heap_alloc_new _ _
set_option maxHeartbeats 4000000 in
set_option maxRecDepth 100000 in
theorem impl_RomanText.calls (a0 : Int) (r : ByteArray) (w : World) (h : impl_RomanText.f a0 = some r) :
    Calls Tryd.prog 35 #[.int .i64 a0] w fun e w' => e = .returned (.string r) ∧ Below w.heap.size w w' := by
  by_cases hr : 1 ≤ a0 ∧ a0 ≤ 3999
  · have hf : impl_RomanText.f a0 = some ⟨(romAll romTab a0 []).toArray⟩ := if_pos hr
    have hv := Option.some.inj (hf.symm.trans h)
    have HV := Aside0.mk hv
    have h1 := hr.1
    have h2 := hr.2
    have HRng := Aside0.mk (show impl_inRange.f a0 1 3999 = some true by rw [rom_range, decide_eq_true hr])
    clear h hf hv hr
    go_enter Tryd.func35, Tryd.ntmps35
    go_wp2_with (go_at_call 33; (with_reducible refine (impl_inRange.calls a0 1 3999 true _ HRng.out).mono ?_); rintro e w' ⟨rfl, ⟨nd, rfl⟩⟩)
    generalize hW : (((w.drewN nd).alloc (Obj.cells #[Value.int IntKind.i64 1000, Value.int IntKind.i64 900, Value.int IntKind.i64 500, Value.int IntKind.i64 400, Value.int IntKind.i64 100, Value.int IntKind.i64 90, Value.int IntKind.i64 50, Value.int IntKind.i64 40, Value.int IntKind.i64 10, Value.int IntKind.i64 9, Value.int IntKind.i64 5, Value.int IntKind.i64 4, Value.int IntKind.i64 1] 2)).alloc (Obj.cells #[Value.string { data := #[109] }, Value.string { data := #[99, 109] }, Value.string { data := #[100] }, Value.string { data := #[99, 100] }, Value.string { data := #[99] }, Value.string { data := #[120, 99] }, Value.string { data := #[108] }, Value.string { data := #[120, 108] }, Value.string { data := #[120] }, Value.string { data := #[105, 120] }, Value.string { data := #[118] }, Value.string { data := #[105, 118] }, Value.string { data := #[105] }] 9)).alloc (Obj.cells #[Value.pointer none, Value.slice none 0 0] 68) = W0
    obtain ⟨hbV, hbM, hbB, hsz⟩ := rom_blocks (w.drewN nd) (Obj.cells romVals 2) (Obj.cells romMarks 9) (Obj.cells #[Value.pointer none, Value.slice none 0 0] 68)
    have hB0 : Below w.heap.size w W0 := by rw [← hW]; exact below_alloc (below_alloc (below_alloc (pw_below_drewN (Below.refl _ _) _) _) _) _
    have hW2 : (((w.drewN nd).alloc (Obj.cells romVals 2)).alloc (Obj.cells romMarks 9)).alloc (Obj.cells #[Value.pointer none, Value.slice none 0 0] 68) = W0 := hW
    rw [hW2] at hbV hbM hbB hsz
    replace hbV : W0.heap[w.heap.size]? = some (.cells romVals 2 (0, 0)) := hbV
    replace hbM : W0.heap[w.heap.size + 1]? = some (.cells romMarks 9 (0, 0)) := hbM
    replace hbB : W0.heap[w.heap.size + 2]? = some (.cells #[.pointer none, .slice none 0 0] 68 (0, 0)) := hbB
    replace hsz : W0.heap.size = w.heap.size + 3 := hsz
    clear hW2
    clear hW
    have hBB := Aside0.mk (show Lib.IsBuilder 68 5 (w.heap.size + 1 + 1) (w.heap.size + 1 + 1) (Lib.byteCells []) W0 from .inl ⟨Nat.le_refl _, .slice none 0 0, hbB, own_nil _ _ _ _, by simp [Value.ownBlock]⟩)
    have HSZ := Aside0.mk hsz
    have HB0 := Aside0.mk hB0
    have HBV := Aside0.mk hbV
    have HBM := Aside0.mk hbM
    clear hsz hB0 hbV hbM hbB
    go_loopw [0, 15] (fun v0 v15 wr => ∃ (i : Nat) (n : Int) (acc : List UInt8), v15 = .int .i64 (i : Int) ∧ v0 = .int .i64 n ∧ Aside0 (i ≤ 13 ∧ 0 ≤ n ∧ n ≤ 3999 ∧ (acc.length : Int) + 2 * n ≤ 8000) ∧ Aside0 (romAll (romTab.drop i) n acc = romAll romTab a0 []) ∧ Aside0 (Lib.IsBuilder 68 5 (w.heap.size + 1 + 1) (w.heap.size + 1 + 1) (Lib.byteCells acc) wr) ∧ Aside0 (Below (w.heap.size + 1 + 1) W0 wr)) (fun _ v15 _ => 13 - (intOf v15).toNat)
    case atStart => exact ⟨0, a0, [], rfl, rfl, ⟨by omega, by omega, by omega, by simp; omega⟩, ⟨rfl⟩, hBB, ⟨Below.refl _ _⟩⟩
    case round =>
      obtain ⟨i, n, acc, rfl, rfl, HN, HR, HI, HL⟩ := hrel
      clear hBB
      by_cases hlt : i < 13
      · obtain ⟨f1, f2, f3⟩ := rom_facts ⟨i, hlt⟩
        obtain ⟨g1, g2⟩ := rom_at ⟨i, hlt⟩
        have HR2 := HR.out
        rw [rom_drop i hlt, romAll] at HR2
        simp only at f1 f2 f3 g1 g2
        have cV := rom_cells wr w.heap.size romVals 2 ((HL.out.block _ (by omega)).trans HBV.out) i _ g1
        have cM := Aside0.mk g2
        clear g1 g2
        generalize (romTab.getD i (0, [])) = p at HR2 f1 f2 f3 cV cM
        obtain ⟨v, m⟩ := p
        simp only at HR2 f1 f2 f3 cV cM
        have HR3 := Aside0.mk HR2
        have F3 := Aside0.mk f3
        clear HR HR2 f3
        obtain ⟨_, hn0, hn1, hn2⟩ := HN.out
        have HN2 := Aside0.mk hn2
        clear hn2
        have hd13 : decide ((i : Int) < 13) = true := decide_eq_true (by omega)
        go_wp2
        obtain ⟨wo, hwo⟩ : ∃ wo : World, wo = wr := ⟨_, rfl⟩
        rw [← hwo]
        have HI2 := Aside0.mk (show Lib.IsBuilder 68 5 (w.heap.size + 1 + 1) (w.heap.size + 1 + 1) (Lib.byteCells acc) wo by rw [hwo]; exact HI.out)
        have HL2 := Aside0.mk (show Below (w.heap.size + 1 + 1) W0 wo by rw [hwo]; exact HL.out)
        clear cV HI HL
        go_loopw [0] (fun v0 w2 => ∃ (n : Int) (acc : List UInt8) (k : Nat), v0 = .int .i64 n ∧ Aside0 (0 ≤ n ∧ n ≤ 3999 ∧ n < k ∧ (acc.length : Int) + 2 * n ≤ 8000) ∧ Aside0 (romAll (romTab.drop (i + 1)) (romStep v m k n acc).1 (romStep v m k n acc).2 = romAll romTab a0 []) ∧ Aside0 (Lib.IsBuilder 68 5 (w.heap.size + 1 + 1) (w.heap.size + 1 + 1) (Lib.byteCells acc) w2) ∧ Aside0 (Below (w.heap.size + 1 + 1) W0 w2)) (fun v0 _ => (intOf v0).toNat)
        case atStart => exact ⟨n, acc, 4000, rfl, ⟨by have := HN.out; omega, by have := HN.out; omega, by have := HN.out; omega, HN2.out⟩, HR3, HI2, HL2⟩
        case round =>
          clear HN HN2 HR3 HI2 HL2 hn0 hn1 hwo
          obtain ⟨n, acc, k, rfl, HN, HR, HI, HL⟩ := hrel
          obtain ⟨hn0, hn1, hk, hn2⟩ := HN.out
          cases k with
          | zero => exact absurd hk (by omega)
          | succ k =>
            have HR2 := HR.out
            rw [romStep] at HR2
            by_cases hv : v ≤ n
            · rw [if_pos hv] at HR2
              have HR3 := Aside0.mk HR2
              clear HR HR2
              have hm3 := F3.out
              have cM2 := rom_cells wr (w.heap.size + 1) romMarks 9 ((HL.out.block _ (by omega)).trans HBM.out) i _ cM.out
              have HSM := Aside0.mk (show (Lib.byteCells acc).length + (⟨m.toArray⟩ : ByteArray).size ≤ 140737488355328 by rw [Lib.byteCells_length]; show acc.length + m.toArray.size ≤ _; rw [List.size_toArray]; omega)
              have HSZ2 := Aside0.mk (show w.heap.size + 1 + 1 ≤ wr.heap.size by have := HL.out.size; have := HSZ.out; omega)
              clear hk hn2
              go_wp2_with (go_at_call 42; (with_reducible refine (bld_write (w.heap.size + 1 + 1) (w.heap.size + 1 + 1) (Lib.byteCells acc) ⟨m.toArray⟩ _ HI.out HSM.out HSZ2.out).mono ?_); rintro e w' ⟨rfl, hb1, hb2⟩; have HI3 := Aside0.mk hb1; have HL3 := Aside0.mk hb2; clear hb1 hb2)
              go_roundw
              case rel => exact ⟨n - v, acc ++ m, k, by go_num, ⟨by omega, by omega, by have := HN.out; omega, by have := HN.out; rw [List.length_append]; omega⟩, HR3, ⟨.inr (by rw [Lib.byteCells_append]; exact HI3.out)⟩, ⟨HL.out.trans HL3.out⟩⟩
              case measure => simp [intOf]; omega
            · rw [if_neg hv] at HR2
              have HR3 := Aside0.mk HR2
              clear HR HR2
              go_wp2
              go_roundw
              case rel => exact ⟨i + 1, n, acc, by go_num, rfl, ⟨by omega, by omega, by omega, by omega⟩, HR3, HI, HL⟩
              case measure => simp [intOf]; omega
      · obtain ⟨hi, hn0, hn1, hn2⟩ := HN.out
        have HR2 := HR.out
        rw [show romTab.drop i = [] from List.drop_of_length_le (by show 13 ≤ i; omega), romAll] at HR2
        have HR3 := Aside0.mk HR2
        have HSZ2 := Aside0.mk (show w.heap.size + 1 + 1 ≤ wr.heap.size by have := HL.out.size; have := HSZ.out; omega)
        clear HR HR2 hi hn0 hn1 hn2
        go_wp2_with (go_at_call 43; (with_reducible refine (rom_String (w.heap.size + 1 + 1) (w.heap.size + 1 + 1) acc _ HI.out HSZ2.out).mono ?_); rintro e w' ⟨rfl, hb⟩; have HL3 := Aside0.mk hb; clear hb)
        go_ret
        rw [← HV.out, ← HR3.out]
        exact ⟨rfl, HB0.out.trans ((HL.out.trans HL3.out).mono (by omega))⟩
  · have hf : impl_RomanText.f a0 = some ⟨#[]⟩ := if_neg hr
    have hv := Option.some.inj (hf.symm.trans h)
    have HV := Aside0.mk hv
    have HRng := Aside0.mk (show impl_inRange.f a0 1 3999 = some false by rw [rom_range, decide_eq_false hr])
    clear h hf hv hr
    go_enter Tryd.func35, Tryd.ntmps35
    go_wp2_with (go_at_call 33; (with_reducible refine (impl_inRange.calls a0 1 3999 false _ HRng.out).mono ?_); rintro e w' ⟨rfl, ⟨nd, rfl⟩⟩)
    go_ret
    rw [← HV.out]
    exact ⟨rfl, pw_below_drewN (Below.refl _ _) _⟩

-- NOT PRINTED: function 52 (strconv_small)

-- NOT PRINTED: function 57 (strconv_log10Pow2)

-- NOT PRINTED: function 58 (bits_Len64)

-- NOT PRINTED: function 59 (strconv_bool2_int)

-- NOT PRINTED: function 53 (strconv_numDigits)

-- NOT PRINTED: function 54 (strconv_formatBase10)

-- NOT PRINTED: function 60 (strconv_isPowerOfTwo)

-- NOT PRINTED: function 62 (bits_TrailingZeros32)

-- NOT PRINTED: function 63 (bits_TrailingZeros64)

-- NOT PRINTED: function 61 (bits_TrailingZeros)

-- NOT PRINTED: function 55 (strconv_formatBits)

-- NOT PRINTED: function 48 (strconv_FormatInt_48)

-- NOT PRINTED: function 44 (strconv_FormatInt_44)

/-! ### impl_decimal -/
def lay_fmt_ren : Go.Shelf.Ren := ⟨fun | 173 => 44 | 246 => 48 | 283 => 52 | 284 => 53 | 285 => 54 | 286 => 55 | 129 => 58 | 317 => 57 | 318 => 59 | 319 => 60 | 320 => 61 | 337 => 62 | 338 => 63 | n => n, fun | 2 => 2 | 3 => 3 | 9 => 9 | 4 => 4 | 171 => 83 | 0 => 0 | 53 => 84 | 37 => 35 | 5 => 5 | 173 => 87 | 212 => 92 | 51 => 93 | 20 => 20 | 213 => 94 | 46 => 96 | 232 => 99 | 233 => 100 | n => n, fun | 17 => 0 | 18 => 1 | 19 => 2 | n => n⟩
theorem lay_fmt : Go.Proofs.LaysM.n173 Tryd.prog lay_fmt_ren := {
  mixed := by kernel_rfl
  f129 := Tryd.func58.trans (congrArg some (by kernel_rfl))
  f173 := Tryd.func44.trans (congrArg some (by kernel_rfl))
  f246 := Tryd.func48.trans (congrArg some (by kernel_rfl))
  f283 := Tryd.func52.trans (congrArg some (by kernel_rfl))
  f284 := Tryd.func53.trans (congrArg some (by kernel_rfl))
  f285 := Tryd.func54.trans (congrArg some (by kernel_rfl))
  f286 := Tryd.func55.trans (congrArg some (by kernel_rfl))
  f317 := Tryd.func57.trans (congrArg some (by kernel_rfl))
  f318 := Tryd.func59.trans (congrArg some (by kernel_rfl))
  f319 := Tryd.func60.trans (congrArg some (by kernel_rfl))
  f320 := Tryd.func61.trans (congrArg some (by kernel_rfl))
  f337 := Tryd.func62.trans (congrArg some (by kernel_rfl))
  f338 := Tryd.func63.trans (congrArg some (by kernel_rfl))
  t0 := Tryd.underlying0
  a0 := Tryd.isAgg0
  z0 := Tryd.sizeOf0
  v0 := Tryd.zeroValue0
  t2 := Tryd.underlying2
  a2 := Tryd.isAgg2
  z2 := Tryd.sizeOf2
  v2 := Tryd.zeroValue2
  t3 := Tryd.underlying3
  a3 := Tryd.isAgg3
  z3 := Tryd.sizeOf3
  v3 := Tryd.zeroValue3
  t4 := Tryd.underlying4
  a4 := Tryd.isAgg4
  z4 := Tryd.sizeOf4
  v4 := Tryd.zeroValue4
  t5 := Tryd.underlying5
  a5 := Tryd.isAgg5
  z5 := Tryd.sizeOf5
  v5 := Tryd.zeroValue5
  t9 := Tryd.underlying9
  a9 := Tryd.isAgg9
  z9 := Tryd.sizeOf9
  v9 := Tryd.zeroValue9
  t20 := Tryd.underlying20
  a20 := Tryd.isAgg20
  z20 := Tryd.sizeOf20
  v20 := Tryd.zeroValue20
  t37 := Tryd.underlying35
  a37 := Tryd.isAgg35
  z37 := Tryd.sizeOf35
  v37 := Tryd.zeroValue35
  t46 := Tryd.underlying96
  a46 := Tryd.isAgg96
  z46 := Tryd.sizeOf96
  v46 := Tryd.zeroValue96
  t51 := Tryd.underlying93
  a51 := Tryd.isAgg93
  z51 := Tryd.sizeOf93
  v51 := Tryd.zeroValue93
  t53 := Tryd.underlying84
  a53 := Tryd.isAgg84
  z53 := Tryd.sizeOf84
  v53 := Tryd.zeroValue84
  t171 := Tryd.underlying83
  a171 := Tryd.isAgg83
  z171 := Tryd.sizeOf83
  v171 := Tryd.zeroValue83
  t173 := Tryd.underlying87
  a173 := Tryd.isAgg87
  z173 := Tryd.sizeOf87
  v173 := Tryd.zeroValue87
  t212 := Tryd.underlying92
  a212 := Tryd.isAgg92
  z212 := Tryd.sizeOf92
  v212 := Tryd.zeroValue92
  t213 := Tryd.underlying94
  a213 := Tryd.isAgg94
  z213 := Tryd.sizeOf94
  t232 := Tryd.underlying99
  a232 := Tryd.isAgg99
  z232 := Tryd.sizeOf99
  v232 := Tryd.zeroValue99
  t233 := Tryd.underlying100
  a233 := Tryd.isAgg100
  z233 := Tryd.sizeOf100
  v233 := Tryd.zeroValue100
  g17 := by kernel_rfl
  g18 := by kernel_rfl
  g19 := by kernel_rfl
  i0 := by kernel_rfl
  i2 := by kernel_rfl
  i3 := by kernel_rfl
  i4 := by kernel_rfl
  i5 := by kernel_rfl
  i9 := by kernel_rfl
  i20 := by kernel_rfl
  i37 := by kernel_rfl
  i46 := by kernel_rfl
  i51 := by kernel_rfl
  i53 := by kernel_rfl
  i171 := by kernel_rfl
  i173 := by kernel_rfl
  i212 := by kernel_rfl
  i232 := by kernel_rfl
  i233 := by kernel_rfl
  m17 := by kernel_rfl
  m18 := by kernel_rfl
  m19 := by kernel_rfl }
def Tabs (w : World) : Prop := Go.Lib.TabIs Tryd.prog w "internal/strconv.uint64pow10" .u64 Go.Lib.pow10Tab ∧ True
theorem tabs_g0 : ∃ g, Tryd.prog.globalNamed "internal/strconv.uint64pow10" = some g := Option.isSome_iff_exists.1 (by kernel_rfl)
theorem tabs_stays {w w' : World} (h : Aside0 (Tabs w)) (hb : Below w.heap.size w w') : Aside0 (Tabs w') := by
  obtain ⟨h0, _⟩ := h.out
  obtain ⟨g0, hg0⟩ := tabs_g0
  exact ⟨⟨Go.Joins.tab_stays hg0 h0 hb (Nat.le_refl _), trivial⟩⟩
theorem tabs_drewN {w : World} (h : Aside0 (Tabs w)) (n : Nat) : Aside0 (Tabs (w.drewN n)) := tabs_stays h (pw_below_drewN (Below.refl _ _) n)
theorem tabs_drew {w : World} (h : Aside0 (Tabs w)) : Aside0 (Tabs w.drew) := tabs_stays h (Below.refl _ _).drew
theorem tabs_alloc {w : World} (h : Aside0 (Tabs w)) (o : Obj) : Aside0 (Tabs (w.alloc o)) := tabs_stays h ((Below.refl _ _).alloc (Nat.le_refl _) o)
def impl_decimal.f (a0 : Int) : Option ByteArray := if -9223372036854775808 ≤ a0 ∧ a0 ≤ 9223372036854775807 then some ⟨(Go.Lib.itoa a0).toArray⟩ else none
set_option maxHeartbeats 1000000 in
theorem impl_decimal.calls (a0 : Int) (r : ByteArray) (w : World) (HT_ : Aside0 (Tabs w)) (h : impl_decimal.f a0 = some r) :
    Calls Tryd.prog 36 #[.int .i64 a0] w fun e w' => e = .returned (.string r) ∧ Below w.heap.size w w' := by
  unfold impl_decimal.f at h
  by_cases c : -9223372036854775808 ≤ a0 ∧ a0 ≤ 9223372036854775807
  · rw [if_pos c] at h
    have hr := Option.some.inj h
    clear h
    have hcon := fun W (hT : Aside0 (Tabs W)) => Go.Proofs.Any.strconv_FormatInt_10 lay_fmt a0 c.1 c.2 W hT.out.1
    change ∀ W, Aside0 (Tabs W) → Calls Tryd.prog 44 #[.int .i64 a0, .int .i64 10] W (fun e w' => e = .returned (.string ⟨(Go.Lib.itoa a0).toArray⟩) ∧ ∃ k os, w' = Go.Sort.grow (W.drewN k) os) at hcon
    generalize Go.Lib.itoa a0 = t at hcon hr
    have HR := Aside0.mk hr
    clear hr
    go_enter Tryd.func36, Tryd.ntmps36
    go_wp2_with (go_at_call 44; (with_reducible refine (hcon _ (by first | exact HT_ | exact tabs_drew HT_)).mono ?_); rintro e w' ⟨rfl, k, os, rfl⟩)
    go_ret
    rw [← HR.out]
    first | exact ⟨rfl, Go.Lib.below_grow _ _ (Nat.le_refl _) _ _⟩ | (refine ⟨rfl, ?_⟩; trace_state; sorry)
  · rw [if_neg c] at h; cases h

end Go.Proofs.YtgnopkapkodhhaaDoor.QFnExactPageOfLabel
