-- Written by own_print.py of this session's repo over the kit's print (its output, turned at some places).
import Derived.Test.YtkpidjmhdagkfaaQFnPagePlacesx0
import Derived.Test.YtkpidjmhdagkfaaQFnPagePlacesx9
import Derived.Test.YtkpidjmhdagkfaaQFnPagePlacesx13
namespace Go.Proofs.Ytkpidjmhdagkfaa.QFnPagePlaces
open Go.RowKit Go.Proofs.YtkpidjmhdagkfaaW.PrintWords Go.Proofs.YtkpidjmhdagkfaaW.PrintLast Go.Proofs.YtkpidjmhdagkfaaW.PrintMore
attribute [local go_sem] max2_int min2_int max_two min_two max_three min_three max_four min_four   -- for this text's walks alone
set_option linter.unusedVariables false
set_option linter.unusedSimpArgs false

/-! ### spec_ImposeSheet: function 75 -/
def spec_ImposeSheet.f (k : Nat) (a0 : Int) (a1 : Int) (a2 : ByteArray) : Option (Int × Int × List Int × List Int × List Int × Int) := (spec_l04Code.f k a0 a1 a2).bind fun t397 => (if t397 = 0 then ((spec_l05Form.f k a0 a1 a2).bind fun bt398 => (some (bt398.1, bt398.2.1, bt398.2.2.1, bt398.2.2.2.1, bt398.2.2.2.2, 0))) else (some (0, 0, ([] : List Int), ([] : List Int), ([] : List Int), t397)))
theorem spec_ImposeSheet.mono : ∀ a0 a1 a2 k, LeO (spec_ImposeSheet.f k a0 a1 a2) (spec_ImposeSheet.f (k + 1) a0 a1 a2) := by
 intro a0 a1 a2 k
 unfold spec_ImposeSheet.f
 repeat' first
   | (with_reducible exact spec_l04Code.mono _ _ _ _)
   | (with_reducible exact spec_l05Form.mono _ _ _ _)
   | (with_reducible exact LeO.refl _)
   | (with_reducible exact LeO.none _)
   | (with_reducible refine LeO.ite ?_ ?_)
   | (with_reducible refine LeO.bind ?_ (fun _ => ?_))
   | exact spec_l04Code.mono _ _ _ _
   | exact spec_l05Form.mono _ _ _ _
   | exact LeO.none _
   | refine LeO.ite ?_ ?_
   | refine LeO.bind ?_ (fun _ => ?_)
set_option maxHeartbeats 8000000 in
set_option maxRecDepth 100000 in
theorem spec_ImposeSheet.calls (k : Nat) (a0 : Int) (a1 : Int) (a2 : ByteArray) (r1 : Int) (r2 : Int) (r3 : List Int) (r4 : List Int) (r5 : List Int) (r6 : Int) (w : World) (h : spec_ImposeSheet.f k a0 a1 a2 = some (r1, r2, r3, r4, r5, r6)) :
  Calls Try.prog 75 #[.int .i64 a0, .int .i64 a1, .string a2] w fun e w' => ∃ v2_ v3_ v4_ : Value, e = .returned (.tuple #[.agg #[.int .i64 r1, .int .i64 r2, v2_, v3_, v4_], .int .i64 r6]) ∧ Kd.R (Kd.int .i64) 2 w' w.heap.size (fun k_ => some k_ ≠ (v3_ : Value).ownBlock ∧ some k_ ≠ (v4_ : Value).ownBlock) v2_ r3 ∧ Kd.R (Kd.int .i64) 2 w' w.heap.size (fun k_ => some k_ ≠ (v2_ : Value).ownBlock ∧ some k_ ≠ (v4_ : Value).ownBlock) v3_ r4 ∧ Kd.R (Kd.int .i64) 2 w' w.heap.size (fun k_ => some k_ ≠ (v2_ : Value).ownBlock ∧ some k_ ≠ (v3_ : Value).ownBlock) v4_ r5 ∧ Below w.heap.size w w' := by
 have hu27 := Try.underlying27
 have HB := a_ (Below.refl w.heap.size w)
 have H : ((spec_l04Code.f k a0 a1 a2).bind fun t397 => (if t397 = 0 then ((spec_l05Form.f k a0 a1 a2).bind fun bt398 => (some (bt398.1, bt398.2.1, bt398.2.2.1, bt398.2.2.2.1, bt398.2.2.2.2, 0))) else (some (0, 0, ([] : List Int), ([] : List Int), ([] : List Int), t397)))) = some (r1, r2, r3, r4, r5, r6) := h
 clear h
 replace H := Option.bind_eq_some_iff.mp H
 obtain ⟨t397, A40, H⟩ := H
 replace H : (if t397 = 0 then ((spec_l05Form.f k a0 a1 a2).bind fun bt398 => (some (bt398.1, bt398.2.1, bt398.2.2.1, bt398.2.2.2.1, bt398.2.2.2.2, 0))) else (some (0, 0, ([] : List Int), ([] : List Int), ([] : List Int), t397))) = some (r1, r2, r3, r4, r5, r6) := H
 have A4 := Aside0.mk A40
 clear A40
 by_cases c5 : t397 = 0
 ·rw [if_pos c5] at H
  have c5b0 : (t397 == 0) = true := beq_iff_eq.mpr c5
  have c5b1 : (t397 != 0) = false := bne_eq_false_iff_eq.mpr c5
  clear c5
  replace H := Option.bind_eq_some_iff.mp H
  obtain ⟨⟨t398, t399, t400, t403, t406⟩, A60, H⟩ := H
  replace H : (some (t398, t399, t400, t403, t406, 0)) = some (r1, r2, r3, r4, r5, r6) := H
  have A6 := Aside0.mk A60
  clear A60
  simp only [Option.some.injEq, Prod.mk.injEq] at H
  obtain ⟨rfl, rfl, rfl, rfl, rfl, rfl⟩ := H
  go_enter Try.func75, Try.ntmps75
  go_wp2_with (first | ((with_reducible refine gate_dst (N := 6) rfl ?_); refine box_event ?hg (N := 6) ?hd (cs := #[.int .i64 0, .int .i64 0, .slice none 0 0, .slice none 0 0, .slice none 0 0]) (t := 27) ?hr ?_; (case hd => rfl); (case hg => rfl); (case hr => first | (go_simp; done) | (go_simp; rfl)); intro gb396 hg w7 hbox hb; have BK396 := a_ (hbox); have GW396 := a_ ((z53_ : w.heap.size ≤ gb396)); have GE396 := a_ ((z53_ : w.heap.size ≤ gb396)); replace HB := a_ (below_step z54_ hb); clear hb hbox hg) | ((with_reducible refine gate_callee (f := 86) rfl ?_); refine goesL_ (some 12) rfl rfl Try.func86 (by kernel_rfl) rfl #[.int .i64 a0, .int .i64 a1, .string a2] rfl z57_ ?_; (with_reducible refine (spec_l04Code.calls k a0 a1 a2 t397 _ A4.out).mono ?_); rintro e w' ⟨rfl, ⟨nd, rfl⟩⟩; refine ⟨_, rfl, ?_⟩; (try (rw [drewN_self w7]; generalize hq_ : World.drewN w7 _ = w7; have n0_ : Aside0 (w7.heap[gb396]? = some (.cells #[.int .i64 0, .int .i64 0, .slice none 0 0, .slice none 0 0, .slice none 0 0] 27 (0, 0))) := ⟨by rw [← hq_]; exact (rb_ BK396.out)⟩; have n1_ : Aside0 (Below w.heap.size w w7) := ⟨by rw [← hq_]; exact z47_⟩; clear BK396 HB hq_; have BK396 := n0_; have HB := n1_; clear n0_ n1_))) | ((with_reducible refine gate_callee (f := 87) rfl ?_); refine goesL_ (some 20) rfl rfl Try.func87 (by kernel_rfl) rfl #[.int .i64 a0, .int .i64 a1, .string a2] rfl z57_ ?_; (with_reducible refine (spec_l05Form.calls k a0 a1 a2 t398 t399 t400 t403 t406 _ A6.out).mono ?_); rintro e w8 ⟨v401, v404, v407, rfl, ho0, ho1, ho2, hb⟩; refine ⟨_, rfl, ?_⟩; have HO402 := a_ (Kd.R_lower ho0 (below_size z47_)); have HO405 := a_ (Kd.R_lower ho1 (below_size z47_)); have HO408 := a_ (Kd.R_lower ho2 (below_size z47_)); replace BK396 := a_ (blk_below (g := gb396) (rb_ BK396.out) hb); replace HB := a_ (below_step z47_ hb); (try clear hb); (try clear hb2); (try clear hk); (try clear hi); (try clear ho0); (try clear ho1); (try clear ho2); obtain ⟨hcz9_0, hcz9_1, hcz9_2, hcz9_3, hcz9_4, hfz9_0, hfz9_1, hfz9_2, hfz9_3, hfz9_4⟩ := cz5_ (w := w8) BK396.out; obtain ⟨Ao10, co10, eo10⟩ := Kd.R_slice HO402.out; subst eo10; obtain ⟨Ao11, co11, eo11⟩ := Kd.R_slice HO405.out; subst eo11; obtain ⟨Ao12, co12, eo12⟩ := Kd.R_slice HO408.out; subst eo12))
  refine bodyPost_ret (results_ct rfl _ _ gb396 27 #[.int .i64 t398, .int .i64 t399, .slice Ao10 t400.length co10, .slice Ao11 t403.length co11, .slice Ao12 t406.length co12] (0, 0) _ rfl (rb2_ (h := by exact bp5_ BK396.out)) Try.underlying27 rfl (by kernel_rfl)) rfl ?_
  exact ⟨_, _, _, z55_, by (with_reducible repeat (first | apply Kd.R_alloc | apply Kd.R_drewN | apply Kd.R_drew)); exact Kd.R_mono (rt5_ HO402.out BK396.out) (fun _ hk => ⟨hk.1.1, hk.1.2⟩), by (with_reducible repeat (first | apply Kd.R_alloc | apply Kd.R_drewN | apply Kd.R_drew)); exact Kd.R_mono (rt5_ HO405.out BK396.out) (fun _ hk => ⟨hk.1.1, hk.1.2⟩), by (with_reducible repeat (first | apply Kd.R_alloc | apply Kd.R_drewN | apply Kd.R_drew)); exact Kd.R_mono (rt5_ HO408.out BK396.out) (fun _ hk => ⟨hk.1.1, hk.1.2⟩), z47_⟩
 ·rw [if_neg c5] at H
  have c5b0 : (t397 == 0) = false := beq_eq_false_iff_ne.mpr c5
  have c5b1 : (t397 != 0) = true := bne_iff_ne.mpr c5
  simp only [Option.some.injEq, Prod.mk.injEq] at H
  obtain ⟨rfl, rfl, rfl, rfl, rfl, rfl⟩ := H
  go_enter Try.func75, Try.ntmps75
  go_wp2_with (first | ((with_reducible refine gate_dst (N := 6) rfl ?_); refine box_event ?hg (N := 6) ?hd (cs := #[.int .i64 0, .int .i64 0, .slice none 0 0, .slice none 0 0, .slice none 0 0]) (t := 27) ?hr ?_; (case hd => rfl); (case hg => rfl); (case hr => first | (go_simp; done) | (go_simp; rfl)); intro gb396 hg w13 hbox hb; have BK396 := a_ (hbox); have GW396 := a_ ((z53_ : w.heap.size ≤ gb396)); have GE396 := a_ ((z53_ : w.heap.size ≤ gb396)); replace HB := a_ (below_step z54_ hb); clear hb hbox hg) | ((with_reducible refine gate_callee (f := 86) rfl ?_); refine goesL_ (some 12) rfl rfl Try.func86 (by kernel_rfl) rfl #[.int .i64 a0, .int .i64 a1, .string a2] rfl z57_ ?_; (with_reducible refine (spec_l04Code.calls k a0 a1 a2 t397 _ A4.out).mono ?_); rintro e w' ⟨rfl, ⟨nd, rfl⟩⟩; refine ⟨_, rfl, ?_⟩; (try (rw [drewN_self w13]; generalize hq_ : World.drewN w13 _ = w13; have n0_ : Aside0 (w13.heap[gb396]? = some (.cells #[.int .i64 0, .int .i64 0, .slice none 0 0, .slice none 0 0, .slice none 0 0] 27 (0, 0))) := ⟨by rw [← hq_]; exact (rb_ BK396.out)⟩; have n1_ : Aside0 (Below w.heap.size w w13) := ⟨by rw [← hq_]; exact z47_⟩; clear BK396 HB hq_; have BK396 := n0_; have HB := n1_; clear n0_ n1_)); obtain ⟨hcz14_0, hcz14_1, hcz14_2, hcz14_3, hcz14_4, hfz14_0, hfz14_1, hfz14_2, hfz14_3, hfz14_4⟩ := cz5_ (w := w13) BK396.out))
  refine bodyPost_ret (results_ct rfl _ _ gb396 27 #[.int .i64 0, .int .i64 0, .slice none 0 0, .slice none 0 0, .slice none 0 0] (0, 0) _ rfl (rb2_ (h := by exact bp5_ BK396.out)) Try.underlying27 rfl (by kernel_rfl)) rfl ?_
  exact ⟨_, _, _, z55_, z56_, z56_, z56_, z47_⟩

end Go.Proofs.Ytkpidjmhdagkfaa.QFnPagePlaces
-- halved
