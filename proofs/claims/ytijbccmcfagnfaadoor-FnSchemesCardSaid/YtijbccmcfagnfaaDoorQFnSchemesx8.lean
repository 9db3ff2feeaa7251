-- Written by own_print.py of this session's repo over the kit's print (its output, turned at some places).
import Derived.Test.YtijbccmcfagnfaaDoorQFnSchemesx0
import Derived.Test.YtijbccmcfagnfaaDoorQFnSchemesx6
import Derived.Test.YtijbccmcfagnfaaDoorQFnSchemesx7
namespace Go.Proofs.YtijbccmcfagnfaaDoor.QFnSchemes
open Go.RowKit Go.Proofs.YtijbccmcfagnfaaDoorW.PrintWords Go.Proofs.YtijbccmcfagnfaaDoorW.PrintLast Go.Proofs.YtijbccmcfagnfaaDoorW.PrintMore
attribute [local go_sem] max2_int min2_int max_two min_two max_three min_three max_four min_four   -- for this text's walks alone
set_option linter.unusedVariables false
set_option linter.unusedSimpArgs false

/-! ### spec_l04Code: function 45 -/
def spec_l04Code.f (k : Nat) (a0 : Int) (a1 : Int) (a2 : ByteArray) : Option (Int) := (spec_l04Sheet.f a0 a1).bind fun t255 => (if t255 = true then ((spec_IsScheme.f k a0 a1 a2).bind fun t256 => (if t256 = true then (some 0) else (some 2))) else (some 1))
theorem spec_l04Code.mono : ∀ a0 a1 a2 k, LeO (spec_l04Code.f k a0 a1 a2) (spec_l04Code.f (k + 1) a0 a1 a2) := by
  intro a0 a1 a2 k
  unfold spec_l04Code.f
  repeat' first
      | (with_reducible exact spec_IsScheme.mono _ _ _ _)
      | (with_reducible exact LeO.refl _)
      | (with_reducible exact LeO.none _)
      | (with_reducible refine LeO.ite ?_ ?_)
      | (with_reducible refine LeO.bind ?_ (fun _ => ?_))
      | exact spec_IsScheme.mono _ _ _ _
      | exact LeO.none _
      | refine LeO.ite ?_ ?_
      | refine LeO.bind ?_ (fun _ => ?_)
set_option maxHeartbeats 8000000 in
set_option maxRecDepth 100000 in
theorem spec_l04Code.calls (k : Nat) (a0 : Int) (a1 : Int) (a2 : ByteArray) (r : Int) (w : World) (h : spec_l04Code.f k a0 a1 a2 = some r) :
    Calls Tryd.prog 45 #[.int .i64 a0, .int .i64 a1, .string a2] w fun e w' => e = .returned (.int .i64 r) ∧ Drawn0 w w' := by
  have H : ((spec_l04Sheet.f a0 a1).bind fun t255 => (if t255 = true then ((spec_IsScheme.f k a0 a1 a2).bind fun t256 => (if t256 = true then (some 0) else (some 2))) else (some 1))) = some r := h
  clear h
  replace H := Option.bind_eq_some_iff.mp H
  obtain ⟨t255, A40, H⟩ := H
  replace H : (if t255 = true then ((spec_IsScheme.f k a0 a1 a2).bind fun t256 => (if t256 = true then (some 0) else (some 2))) else (some 1)) = some r := H
  have A4 := Aside0.mk A40
  clear A40
  by_cases c5 : t255 = true
  · subst c5
    have H1 : ((spec_IsScheme.f k a0 a1 a2).bind fun t256 => (if t256 = true then (some 0) else (some 2))) = some r := by rw [if_pos rfl] at H; exact H
    clear H
    have H := H1
    clear H1
    replace H := Option.bind_eq_some_iff.mp H
    obtain ⟨t256, A60, H⟩ := H
    replace H : (if t256 = true then (some 0) else (some 2)) = some r := H
    have A6 := Aside0.mk A60
    clear A60
    by_cases c7 : t256 = true
    · subst c7
      have H1 : (some 0) = some r := by rw [if_pos rfl] at H; exact H
      clear H
      have H := H1
      clear H1
      obtain rfl := Option.some.inj H
      go_enter Tryd.func45, Tryd.ntmps45
      go_wp2_with (first | ((with_reducible refine gate_callee (f := 63) rfl ?_); refine goesL_ (some 10) rfl rfl Tryd.func63 (by kernel_rfl) rfl #[.int .i64 a0, .int .i64 a1] rfl (by (try simp only [List.map_toArray, List.map_cons, List.map_nil]); first | done | rfl | (simp only [List.length_drop, List.length_take]; rfl)) ?_; (with_reducible refine (spec_l04Sheet.calls a0 a1 true _ A4.out).mono ?_); rintro e w' ⟨rfl, ⟨nd, rfl⟩⟩; refine ⟨_, rfl, ?_⟩) | ((with_reducible refine gate_callee (f := 10) rfl ?_); refine goesL_ (some 16) rfl rfl Tryd.func10 (by kernel_rfl) rfl #[.int .i64 a0, .int .i64 a1, .string a2] rfl (by (try simp only [List.map_toArray, List.map_cons, List.map_nil]); first | done | rfl | (simp only [List.length_drop, List.length_take]; rfl)) ?_; (with_reducible refine (spec_IsScheme.calls k a0 a1 a2 true _ A6.out).mono ?_); rintro e w' ⟨rfl, ⟨nd, rfl⟩⟩; refine ⟨_, rfl, ?_⟩))
      go_ret
      exact ⟨by first | rfl | (simp only [Go.IntWalk.i64_left]; first | done | rfl) | (simp; done) | (simp [*]; done), by repeat (first | exact Drawn0.refl _ | apply Drawn0.step)⟩
    · replace c7 := Bool.eq_false_iff.mpr c7
      subst c7
      have H1 : (some 2) = some r := by rw [if_neg (show ¬ (false = true) by decide)] at H; exact H
      clear H
      have H := H1
      clear H1
      obtain rfl := Option.some.inj H
      go_enter Tryd.func45, Tryd.ntmps45
      go_wp2_with (first | ((with_reducible refine gate_callee (f := 63) rfl ?_); refine goesL_ (some 10) rfl rfl Tryd.func63 (by kernel_rfl) rfl #[.int .i64 a0, .int .i64 a1] rfl (by (try simp only [List.map_toArray, List.map_cons, List.map_nil]); first | done | rfl | (simp only [List.length_drop, List.length_take]; rfl)) ?_; (with_reducible refine (spec_l04Sheet.calls a0 a1 true _ A4.out).mono ?_); rintro e w' ⟨rfl, ⟨nd, rfl⟩⟩; refine ⟨_, rfl, ?_⟩) | ((with_reducible refine gate_callee (f := 10) rfl ?_); refine goesL_ (some 16) rfl rfl Tryd.func10 (by kernel_rfl) rfl #[.int .i64 a0, .int .i64 a1, .string a2] rfl (by (try simp only [List.map_toArray, List.map_cons, List.map_nil]); first | done | rfl | (simp only [List.length_drop, List.length_take]; rfl)) ?_; (with_reducible refine (spec_IsScheme.calls k a0 a1 a2 false _ A6.out).mono ?_); rintro e w' ⟨rfl, ⟨nd, rfl⟩⟩; refine ⟨_, rfl, ?_⟩))
      go_ret
      exact ⟨by first | rfl | (simp only [Go.IntWalk.i64_left]; first | done | rfl) | (simp; done) | (simp [*]; done), by repeat (first | exact Drawn0.refl _ | apply Drawn0.step)⟩
  · replace c5 := Bool.eq_false_iff.mpr c5
    subst c5
    have H1 : (some 1) = some r := by rw [if_neg (show ¬ (false = true) by decide)] at H; exact H
    clear H
    have H := H1
    clear H1
    obtain rfl := Option.some.inj H
    go_enter Tryd.func45, Tryd.ntmps45
    go_wp2_with (first | ((with_reducible refine gate_callee (f := 63) rfl ?_); refine goesL_ (some 10) rfl rfl Tryd.func63 (by kernel_rfl) rfl #[.int .i64 a0, .int .i64 a1] rfl (by (try simp only [List.map_toArray, List.map_cons, List.map_nil]); first | done | rfl | (simp only [List.length_drop, List.length_take]; rfl)) ?_; (with_reducible refine (spec_l04Sheet.calls a0 a1 false _ A4.out).mono ?_); rintro e w' ⟨rfl, ⟨nd, rfl⟩⟩; refine ⟨_, rfl, ?_⟩))
    go_ret
    exact ⟨by first | rfl | (simp only [Go.IntWalk.i64_left]; first | done | rfl) | (simp; done) | (simp [*]; done), by repeat (first | exact Drawn0.refl _ | apply Drawn0.step)⟩

/-! ### spec_l04Start: function 87 -/
mutual
def spec_l04Start.l0 : Nat → Int → Int → List (List (List (S39))) → Int → Option ((List (List (List (S39)))))
  | 0, _, _, _, _ => none
  | k + 1, x0, x1, x5, x6 => if x6 < x1 then (spec_l04Start.l1 k x0 x1 x5 x6 (([] : List (List (S39)))) 0) else (some x5)
def spec_l04Start.l1 : Nat → Int → Int → List (List (List (S39))) → Int → List (List (S39)) → Int → Option ((List (List (List (S39)))))
  | 0, _, _, _, _, _, _ => none
  | k + 1, x0, x1, x5, x6, x7, x8 => if x8 < x0 then (if x7.length < 5864062014805 then (spec_l04Start.l1 k x0 x1 x5 x6 (x7 ++ [(([(⟨x8, x6, false, false⟩ : S39)] : List (S39)))]) (wrap64 (x8 + 1))) else (none)) else (if x5.length < 5864062014805 then (spec_l04Start.l0 k x0 x1 (x5 ++ [x7]) (wrap64 (x6 + 1))) else (none))
end
def spec_l04Start.f (k : Nat) (a0 : Int) (a1 : Int) : Option ((List (List (List (S39))))) := spec_l04Start.l0 k a0 a1 (([] : List (List (List (S39))))) 0
theorem spec_l04Start.mono_l : ∀ k, (∀ y0 y1 y2 y3, LeO (spec_l04Start.l0 k y0 y1 y2 y3) (spec_l04Start.l0 (k + 1) y0 y1 y2 y3)) ∧ (∀ y0 y1 y2 y3 y4 y5, LeO (spec_l04Start.l1 k y0 y1 y2 y3 y4 y5) (spec_l04Start.l1 (k + 1) y0 y1 y2 y3 y4 y5))
  | 0 => ⟨fun _ _ _ _ r h => by simp [spec_l04Start.l0] at h, fun _ _ _ _ _ _ r h => by simp [spec_l04Start.l1] at h⟩
  | k + 1 => by
    obtain ⟨ih0, ih1⟩ := spec_l04Start.mono_l k
    refine ⟨?_, ?_⟩
    · intro y0 y1 y2 y3
      unfold spec_l04Start.l0
      repeat' first
      | (with_reducible exact ih0 _ _ _ _)
      | (with_reducible exact ih1 _ _ _ _ _ _)
      | (with_reducible exact LeO.refl _)
      | (with_reducible exact LeO.none _)
      | (with_reducible refine LeO.ite ?_ ?_)
      | (with_reducible refine LeO.bind ?_ (fun _ => ?_))
      | exact ih0 _ _ _ _
      | exact ih1 _ _ _ _ _ _
      | exact LeO.none _
      | refine LeO.ite ?_ ?_
      | refine LeO.bind ?_ (fun _ => ?_)
    · intro y0 y1 y2 y3 y4 y5
      unfold spec_l04Start.l1
      repeat' first
      | (with_reducible exact ih0 _ _ _ _)
      | (with_reducible exact ih1 _ _ _ _ _ _)
      | (with_reducible exact LeO.refl _)
      | (with_reducible exact LeO.none _)
      | (with_reducible refine LeO.ite ?_ ?_)
      | (with_reducible refine LeO.bind ?_ (fun _ => ?_))
      | exact ih0 _ _ _ _
      | exact ih1 _ _ _ _ _ _
      | exact LeO.none _
      | refine LeO.ite ?_ ?_
      | refine LeO.bind ?_ (fun _ => ?_)
theorem spec_l04Start.mono : ∀ a0 a1 k, LeO (spec_l04Start.f k a0 a1) (spec_l04Start.f (k + 1) a0 a1) := by
  intro a0 a1 k
  obtain ⟨ih0, ih1⟩ := spec_l04Start.mono_l k
  unfold spec_l04Start.f
  repeat' first
      | (with_reducible exact ih0 _ _ _ _)
      | (with_reducible exact ih1 _ _ _ _ _ _)
      | (with_reducible exact LeO.refl _)
      | (with_reducible exact LeO.none _)
      | (with_reducible refine LeO.ite ?_ ?_)
      | (with_reducible refine LeO.bind ?_ (fun _ => ?_))
      | exact ih0 _ _ _ _
      | exact ih1 _ _ _ _ _ _
      | exact LeO.none _
      | refine LeO.ite ?_ ?_
      | refine LeO.bind ?_ (fun _ => ?_)
set_option maxHeartbeats 8000000 in
set_option maxRecDepth 100000 in
theorem spec_l04Start.calls (k : Nat) (a0 : Int) (a1 : Int) (r : List (List (List (S39)))) (w : World) (h : spec_l04Start.f k a0 a1 = some r) :
    Calls Tryd.prog 87 #[.int .i64 a0, .int .i64 a1] w fun e w' => ∃ v0_ : Value, e = .returned (v0_) ∧ Kd.R (Kd.slice 27 (Kd.slice 39 k39)) 97 w' w.heap.size (fun _ => True) v0_ r ∧ Below w.heap.size w w' := by
  have hu39 := Tryd.underlying39
  have HB := Aside0.mk (Below.refl w.heap.size w)
  have H : (spec_l04Start.l0 k a0 a1 (([] : List (List (List (S39))))) 0) = some r := h
  clear h
  obtain ⟨y257, hy257⟩ : ∃ y_ : List (List (List (S39))), y_ = (([] : List (List (List (S39))))) := ⟨_, rfl⟩
  replace H : (spec_l04Start.l0 k a0 a1 y257 0) = some r := by first | (rw [hy257]; with_reducible exact H) | (have H2_ := (Option.bind_some _ _).symm.trans H; rw [hy257]; with_reducible exact H2_) | (have H2_ := (Option.bind_some _ _).symm.trans H; with_reducible exact H2_) | with_reducible exact H | (rw [hy257]; exact H) | exact H
  have Ny257 := Aside0.mk hy257
  clear hy257
  have H' := Aside0.mk H
  clear H
  go_enter Tryd.func87, Tryd.ntmps87
  go_wp2_with (first | ((with_reducible refine gate_dst (N := 9) rfl ?_); refine Kd.R_lit (Kd.slice 27 (Kd.slice 39 k39)) _ 97 ?hg (N := 9) ?hd (xs := ([] : List (List (List (S39))))) (inner := []) (ok := fun _ => True) (okp := fun _ => True) ?hr ?hp (fun _ hk => hk) trivial (Below.refl _ _) (Nat.le_refl _) (by simp) ?_; (case hd => rfl); (case hg => rfl); (case hr => first | (go_simp; done) | (go_simp; rfl)); (case hp => exact (Reps.none _ _)); intro v258 w3 ho4 hb hg_ hnew_; clear hg_ hnew_; (first | rw [← Ny257.out] at ho4 | (simp only [Int.reduceToNat] at ho4; rw [← Ny257.out] at ho4)); have n0_ := Aside0.mk (Kd.R_lower ho4 (below_size (by repeat (first | (with_reducible first | exact HB.out | apply below_alloc | apply pw_below_drewN | apply below_drew1) | exact HB.out)))); have n1_ := Aside0.mk (below_step (by repeat (first | (with_reducible first | exact HB.out | apply below_alloc | apply pw_below_drewN | apply below_drew1) | exact HB.out)) hb); clear HB; have HO259 := n0_; have HB := n1_; clear n0_ n1_; clear hb ho4))
  go_loopg [5, 6] k (fun kq v5 v6 w' => ∃ (x5_1 : List (List (List (S39)))) (x6_1 : Int), v6 = .int .i64 x6_1 ∧ Aside0 (spec_l04Start.l0 kq a0 a1 x5_1 x6_1 = some r) ∧ Aside0 (kq ≤ k) ∧ Aside0 (Kd.R (Kd.slice 27 (Kd.slice 39 k39)) 97 w' w.heap.size (fun _ => True) v5 x5_1) ∧ Aside0 (Below w.heap.size w w'))
  case atStart => exact ⟨(y257), (0), (by first | rfl | (simp; done) | (simp [*]; done)), H', ⟨Nat.le_refl _⟩, ⟨by (with_reducible repeat (first | apply Kd.R_alloc | apply Kd.R_drewN | apply Kd.R_drew)); exact HO259.out⟩, ⟨by repeat (first | (with_reducible first | exact HB.out | apply below_alloc | apply pw_below_drewN | apply below_drew1) | exact HB.out)⟩⟩
  case round =>
    clear H'
    try clear p2
    obtain ⟨x5_1, x6_1, rfl, HA, HK1, HO_5, HB⟩ := hrel
    cases gk with
    | zero => exact absurd HA.out (by simp [spec_l04Start.l0])
    | succ k1 =>
      have H := HA.out
      clear HA
      simp only [spec_l04Start.l0] at H
      by_cases c5 : x6_1 < a1
      · rw [if_pos c5] at H
        have c5b0 : decide (x6_1 < a1) = true := decide_eq_true c5
        clear c5
        obtain ⟨y260, hy260⟩ : ∃ y_ : List (List (S39)), y_ = (([] : List (List (S39)))) := ⟨_, rfl⟩
        replace H : (spec_l04Start.l1 k1 a0 a1 x5_1 x6_1 y260 0) = some r := by first | (rw [hy260]; with_reducible exact H) | (have H2_ := (Option.bind_some _ _).symm.trans H; rw [hy260]; with_reducible exact H2_) | (have H2_ := (Option.bind_some _ _).symm.trans H; with_reducible exact H2_) | with_reducible exact H | (rw [hy260]; exact H) | exact H
        have Ny260 := Aside0.mk hy260
        clear hy260
        have H' := Aside0.mk H
        clear H
        go_wp2_with (first | ((with_reducible refine gate_dst (N := 15) rfl ?_); refine Kd.S_lit (Kd.slice 39 k39) _ 27 ?hg (N := 15) ?hd (xs := ([] : List (List (S39)))) (inner := []) (ok := fun _ => True) (okp := fun _ => True) ?hr ?hp (fun _ hk => hk) trivial (Below.refl _ _) (Nat.le_refl _) (by simp) ?_; (case hd => rfl); (case hg => rfl); (case hr => first | (go_simp; done) | (go_simp; rfl)); (case hp => exact (Reps.none _ _)); intro v261 w6 ho7 hb hg_ hnew_; clear hg_ hnew_; (first | rw [← Ny260.out] at ho7 | (simp only [Int.reduceToNat] at ho7; rw [← Ny260.out] at ho7)); have n0_ := Aside0.mk (Kd.R_elder' (by (with_reducible repeat (first | apply Kd.R_alloc | apply Kd.R_drewN | apply Kd.R_drew)); exact HO_5.out) (Kd.S_base ho7) hb); have n1_ := Aside0.mk (Kd.S_lower ho7 (below_size (by repeat (first | (with_reducible first | exact HB.out | apply below_alloc | apply pw_below_drewN | apply below_drew1) | exact HB.out)))); have n2_ := Aside0.mk (below_step (by repeat (first | (with_reducible first | exact HB.out | apply below_alloc | apply pw_below_drewN | apply below_drew1) | exact HB.out)) hb); clear HO_5; clear HB; have HO_5 := n0_; have HO262 := n1_; have HB := n2_; clear n0_ n1_ n2_; clear hb ho7))
        go_loopg [7, 8] k1 (fun kq v7 v8 w' => ∃ (x7_2 : List (List (S39))) (x8_2 : Int), v8 = .int .i64 x8_2 ∧ Aside0 (spec_l04Start.l1 kq a0 a1 x5_1 x6_1 x7_2 x8_2 = some r) ∧ Aside0 (kq ≤ k1) ∧ Aside0 (Kd.R (Kd.slice 27 (Kd.slice 39 k39)) 97 w' w.heap.size (fun k_ => some k_ ≠ (v7 : Value).ownBlock) u5 x5_1) ∧ Aside0 (Kd.S (Kd.slice 39 k39) 27 w' w.heap.size (fun _ => True) v7 x7_2) ∧ Aside0 (Below w.heap.size w w'))
        case atStart => exact ⟨(y260), (0), (by first | rfl | (simp; done) | (simp [*]; done)), H', ⟨Nat.le_refl _⟩, ⟨by (with_reducible repeat (first | apply Kd.R_alloc | apply Kd.R_drewN | apply Kd.R_drew)); exact Kd.R_mono HO_5.out (fun _ hk => hk.2)⟩, ⟨by (with_reducible repeat (first | apply Kd.S_alloc | apply Kd.S_drewN | apply Kd.S_drew)); exact HO262.out⟩, ⟨by repeat (first | (with_reducible first | exact HB.out | apply below_alloc | apply pw_below_drewN | apply below_drew1) | exact HB.out)⟩⟩
        case round =>
          clear H'
          try clear p2
          try clear c5
          try clear c5b0
          try clear p2
          obtain ⟨x7_2, x8_2, rfl, HA, HK2, HO_5, HO_7, HB⟩ := hrel
          cases gk with
          | zero => exact absurd HA.out (by simp [spec_l04Start.l1])
          | succ k2 =>
            have H := HA.out
            clear HA
            simp only [spec_l04Start.l1] at H
            by_cases c8 : x8_2 < a0
            · rw [if_pos c8] at H
              have c8b0 : decide (x8_2 < a0) = true := decide_eq_true c8
              clear c8
              obtain ⟨y263, hy263⟩ : ∃ y_ : List (S39), y_ = (([(⟨x8_2, x6_1, false, false⟩ : S39)] : List (S39))) := ⟨_, rfl⟩
              replace H : (if x7_2.length < 5864062014805 then (spec_l04Start.l1 k2 a0 a1 x5_1 x6_1 (x7_2 ++ [y263]) (wrap64 (x8_2 + 1))) else (none)) = some r := by first | (rw [hy263]; with_reducible exact H) | (have H2_ := (Option.bind_some _ _).symm.trans H; rw [hy263]; with_reducible exact H2_) | (have H2_ := (Option.bind_some _ _).symm.trans H; with_reducible exact H2_) | with_reducible exact H | (rw [hy263]; exact H) | exact H
              have Ny263 := Aside0.mk hy263
              clear hy263
              by_cases c9 : x7_2.length < 5864062014805
              · rw [if_pos c9] at H
                have LMc9 := Aside0.mk c9
                clear c9
                obtain ⟨y266, hy266⟩ : ∃ y_ : List (List (S39)), y_ = (x7_2 ++ [y263]) := ⟨_, rfl⟩
                replace H : (spec_l04Start.l1 k2 a0 a1 x5_1 x6_1 y266 (wrap64 (x8_2 + 1))) = some r := by first | (rw [hy266]; with_reducible exact H) | (have H2_ := (Option.bind_some _ _).symm.trans H; rw [hy266]; with_reducible exact H2_) | (have H2_ := (Option.bind_some _ _).symm.trans H; with_reducible exact H2_) | with_reducible exact H | (rw [hy266]; exact H) | exact H
                have Ny266 := Aside0.mk hy266
                clear hy266
                have H' := Aside0.mk H
                clear H
                go_wp2_with (first | ((with_reducible refine gate_dst (N := 25) rfl ?_); refine Kd.R_lit k39 _ 39 ?hg (N := 25) ?hd (xs := ([(⟨x8_2, x6_1, false, false⟩ : S39)] : List (S39))) (inner := [.int .i64 x8_2, .int .i64 x6_1, .bool false, .bool false]) (ok := fun _ => True) (okp := fun _ => True) ?hr ?hp (fun _ hk => hk) trivial (Below.refl _ _) (Nat.le_refl _) (by simp) ?_; (case hd => rfl); (case hg => rfl); (case hr => first | (go_simp; done) | (go_simp; rfl)); (case hp => exact (Reps.c4 (show Kd.M k39 _ _ _ (⟨x8_2, x6_1, false, false⟩ : S39) [.int .i64 x8_2, .int .i64 x6_1, .bool false, .bool false] from (k39_mkM _ _ _ (⟨x8_2, x6_1, false, false⟩ : S39) )) (Reps.none _ _))); intro v264 w10 ho11 hb hg_ hnew_; clear hg_ hnew_; (first | rw [← Ny263.out] at ho11 | (simp only [Int.reduceToNat] at ho11; rw [← Ny263.out] at ho11)); have n0_ := Aside0.mk (Kd.R_elder' (by (with_reducible repeat (first | apply Kd.R_alloc | apply Kd.R_drewN | apply Kd.R_drew)); exact HO_5.out) (Kd.R_base ho11) hb); have n1_ := Aside0.mk (Kd.S_elder' (by (with_reducible repeat (first | apply Kd.S_alloc | apply Kd.S_drewN | apply Kd.S_drew)); exact HO_7.out) (Kd.R_base ho11) hb); have n2_ := Aside0.mk (Kd.R_lower ho11 (below_size (by repeat (first | (with_reducible first | exact HB.out | apply below_alloc | apply pw_below_drewN | apply below_drew1) | exact HB.out)))); have n3_ := Aside0.mk (below_step (by repeat (first | (with_reducible first | exact HB.out | apply below_alloc | apply pw_below_drewN | apply below_drew1) | exact HB.out)) hb); clear HO_5; clear HO_7; clear HB; have HO_5 := n0_; have HO_7 := n1_; have HO265 := n2_; have HB := n3_; clear n0_ n1_ n2_ n3_; clear hb ho11; obtain ⟨Ao13, co13, eo13⟩ := Kd.R_slice HO265.out; subst eo13) | ((with_reducible refine gate_builtin (b := .append) (xs := #[.tmp 21, .tmp 26]) rfl ?_); at_builtin; refine Kd.S_append (Kd.slice 39 k39) (w0 := w) w.heap.size rfl (.tmp 21) (.tmp 26) 97 27 (.slice none 0 0) 24 rfl Tryd.underlying97 info27 rfl (by decide) (by omega) u7 x7_2 y263 [.slice Ao13 y263.length co13] (fun _ => True) (fun k_ => some k_ = (.slice Ao13 y263.length co13 : Value).ownBlock) rfl rfl ?aP (fun k_ hk_ => ((Kd.R_mono (ok' := fun k_ => ((fun _ => True)) k_ ∧ some k_ ≠ (u7 : Value).ownBlock) (Kd.R_apart' (HO265.out) (Kd.S_typed HO_7.out) (by decide)) (fun k_ hk => ⟨trivial, hk.2⟩))).1 k_ hk_.symm) ?aF ?aO ?aB ?aS ?aL ?_; (case aP => exact Kd.M_row (Kd.R_mono (Kd.R_tight rfl (Kd.R_mono (ok' := fun k_ => ((fun _ => True)) k_ ∧ some k_ ≠ (u7 : Value).ownBlock) (Kd.R_apart' (HO265.out) (Kd.S_typed HO_7.out) (by decide)) (fun k_ hk => ⟨trivial, hk.2⟩))) (fun _ h_ => h_))); (case aB => exact (by repeat (first | (with_reducible first | exact HB.out | apply below_alloc | apply pw_below_drewN | apply below_drew1) | exact HB.out))); (case aF => exact (fun _ _ => trivial)); (case aO => exact (by (with_reducible repeat (first | apply Kd.S_alloc | apply Kd.S_drewN | apply Kd.S_drew)); exact Kd.S_mono HO_7.out (fun k_ hk => ⟨trivial, fun e_ => hk.2 e_⟩))); (case aS => exact (below_size (by repeat (first | (with_reducible first | exact HB.out | apply below_alloc | apply pw_below_drewN | apply below_drew1) | exact HB.out)))); (case aL => have := LMc9.out; omega); intro v267 w12 ho hb hg hat; rw [← Ny266.out] at ho; have n0_ := Aside0.mk (Kd.R_after (ok := (fun k_ => some k_ ≠ (.slice Ao13 y263.length co13 : Value).ownBlock)) (by (with_reducible repeat (first | apply Kd.R_alloc | apply Kd.R_drewN | apply Kd.R_drew)); exact Kd.R_mono HO_5.out (fun _ hk => ⟨hk.2, hk.1⟩)) hg hat); have n1_ := Aside0.mk (hb); have n2_ := Aside0.mk (ho); clear HO_5; clear HB; clear HO_7; clear HO265; have HO_5 := n0_; have HB := n1_; have HO268 := n2_; clear n0_ n1_ n2_; clear ho hb hg hat))
                go_roundg k2
                case measure => have := HK1.out; have := HK2.out; omega
                case rel => exact ⟨(y266), (wrap64 (x8_2 + 1)), (by first | rfl | (simp; done) | (simp [*]; done)), H', ⟨by have := HK1.out; have := HK2.out; omega⟩, ⟨by (with_reducible repeat (first | apply Kd.R_alloc | apply Kd.R_drewN | apply Kd.R_drew)); exact Kd.R_mono HO_5.out (fun _ hk => hk.2)⟩, ⟨by (with_reducible repeat (first | apply Kd.S_alloc | apply Kd.S_drewN | apply Kd.S_drew)); exact HO268.out⟩, ⟨by repeat (first | (with_reducible first | exact HB.out | apply below_alloc | apply pw_below_drewN | apply below_drew1) | exact HB.out)⟩⟩
              · rw [if_neg c9] at H
                exact absurd H (by simp)
            · rw [if_neg c8] at H
              have c8b0 : decide (x8_2 < a0) = false := decide_eq_false c8
              clear c8
              by_cases c14 : x5_1.length < 5864062014805
              · rw [if_pos c14] at H
                have LMc14 := Aside0.mk c14
                clear c14
                obtain ⟨y269, hy269⟩ : ∃ y_ : List (List (List (S39))), y_ = (x5_1 ++ [x7_2]) := ⟨_, rfl⟩
                replace H : (spec_l04Start.l0 k2 a0 a1 y269 (wrap64 (x6_1 + 1))) = some r := by first | (rw [hy269]; with_reducible exact H) | (have H2_ := (Option.bind_some _ _).symm.trans H; rw [hy269]; with_reducible exact H2_) | (have H2_ := (Option.bind_some _ _).symm.trans H; with_reducible exact H2_) | with_reducible exact H | (rw [hy269]; exact H) | exact H
                have Ny269 := Aside0.mk hy269
                clear hy269
                have H' := Aside0.mk H
                clear H
                obtain ⟨Ao16, co16, eo16⟩ := Kd.S_slice HO_7.out
                subst eo16
                go_wp2_with (first | ((with_reducible refine gate_builtin (b := .append) (xs := #[.tmp 28, .tmp 30]) rfl ?_); at_builtin; refine Kd.R_append (Kd.slice 27 (Kd.slice 39 k39)) (w0 := w) w.heap.size rfl (.tmp 28) (.tmp 30) 94 97 (.slice none 0 0) 24 rfl Tryd.underlying94 info97 rfl (by decide) (by omega) u5 x5_1 x7_2 [.slice Ao16 x7_2.length co16] (fun _ => True) (fun k_ => ((fun _ => True)) k_ ∧ some k_ ≠ (u5 : Value).ownBlock) rfl rfl ?aP (fun _ hk => hk) ?aF ?aO ?aB ?aS ?aL ?_; (case aP => exact Kd.M_row (Kd.R_mono (Kd.R_apart' ((Kd.S_R HO_7.out)) (Kd.R_typed HO_5.out) (by decide)) (fun k_ hk => ⟨trivial, hk.2⟩))); (case aB => exact (by repeat (first | (with_reducible first | exact HB.out | apply below_alloc | apply pw_below_drewN | apply below_drew1) | exact HB.out))); (case aF => exact (fun _ _ => trivial)); (case aO => exact (by (with_reducible repeat (first | apply Kd.R_alloc | apply Kd.R_drewN | apply Kd.R_drew)); exact Kd.R_mono HO_5.out (fun _ hk => trivial))); (case aS => exact (below_size (by repeat (first | (with_reducible first | exact HB.out | apply below_alloc | apply pw_below_drewN | apply below_drew1) | exact HB.out)))); (case aL => have := LMc14.out; omega); intro v270 w15 ho hb hg hat; rw [← Ny269.out] at ho; have n0_ := Aside0.mk (hb); have n1_ := Aside0.mk (ho); clear HB; clear HO_5; clear HO_7; have HB := n0_; have HO271 := n1_; clear n0_ n1_; clear ho hb hg hat))
                go_roundg k2
                case measure => have := HK1.out; have := HK2.out; omega
                case rel => exact ⟨(y269), (wrap64 (x6_1 + 1)), (by first | rfl | (simp; done) | (simp [*]; done)), H', ⟨by have := HK1.out; have := HK2.out; omega⟩, ⟨by (with_reducible repeat (first | apply Kd.R_alloc | apply Kd.R_drewN | apply Kd.R_drew)); exact HO271.out⟩, ⟨by repeat (first | (with_reducible first | exact HB.out | apply below_alloc | apply pw_below_drewN | apply below_drew1) | exact HB.out)⟩⟩
              · rw [if_neg c14] at H
                exact absurd H (by simp)
      · rw [if_neg c5] at H
        have c5b0 : decide (x6_1 < a1) = false := decide_eq_false c5
        clear c5
        obtain rfl := Option.some.inj H
        go_wp2
        go_ret
        exact ⟨_, by first | rfl | (simp only [Go.IntWalk.i64_left]; first | done | rfl) | (simp [errW_none, errW_some] <;> rfl) | (simp [*, errW_none, errW_some] <;> rfl), by (with_reducible repeat (first | apply Kd.R_alloc | apply Kd.R_drewN | apply Kd.R_drew)); exact HO_5.out, by repeat (first | (with_reducible first | exact HB.out | apply below_alloc | apply pw_below_drewN | apply below_drew1) | exact HB.out)⟩

/-! ### spec_l04Turn -/
def spec_l04Turn.togg (a : Bool) (x : S39) : S39 := if a = true then ⟨x.f0, x.f1, !x.f2, x.f3⟩ else ⟨x.f0, x.f1, x.f2, !x.f3⟩
def spec_l04Turn.f (l0 : List S39) (a1 : Bool) : Option (List S39) := if l0.length ≤ 1000000 then some (l0.reverse.map (spec_l04Turn.togg a1)) else none
theorem spec_l04Turn.togg_snoc (l : List S39) (a : Bool) (j m : Nat) (h : m + 1 + j = l.length) : (l.reverse.take (j + 1)).map (spec_l04Turn.togg a) = (l.reverse.take j).map (spec_l04Turn.togg a) ++ [spec_l04Turn.togg a (l.getD m z39)] := by
  have hj : j < l.reverse.length := by rw [List.length_reverse]; omega
  rw [List.take_succ_eq_append_getElem hj, List.map_append, List.map_cons, List.map_nil, List.getElem_reverse]
  congr 2
  rw [List.getD_eq_getElem?_getD, List.getElem?_eq_getElem (by omega), Option.getD_some]
  congr 2
  omega
theorem spec_l04Turn.togg_cells (a : Bool) (w : World) (base : Nat) (ok : Nat → Prop) (x : S39) : k39.M w base ok (spec_l04Turn.togg a x) [.int .i64 x.f0, .int .i64 x.f1, .bool (if a = true then !x.f2 else x.f2), .bool (if a = true then x.f3 else !x.f3)] := by
  cases a
  · exact k39_mkM w base ok ⟨x.f0, x.f1, x.f2, !x.f3⟩
  · exact k39_mkM w base ok ⟨x.f0, x.f1, !x.f2, x.f3⟩
set_option maxHeartbeats 800000 in
set_option maxRecDepth 100000 in
theorem spec_l04Turn.calls (A0 : Option Addr) (c0 : Nat) (l0 : List (S39)) (a1 : Bool) (r : List (S39)) (w : World) (hr0 : Kd.C k39 w A0 l0.length l0) (hc0 : l0.length ≤ c0) (h : spec_l04Turn.f l0 a1 = some r) :
    Calls Tryd.prog 97 #[.slice A0 l0.length c0, .bool a1] w fun e w' => ∃ v0_ : Value, e = .returned (v0_) ∧ Kd.R k39 39 w' w.heap.size (fun _ => True) v0_ r ∧ Below w.heap.size w w' := by
  unfold spec_l04Turn.f at h
  by_cases hl : l0.length ≤ 1000000
  · rw [if_pos hl] at h
    injection h with h
    obtain ⟨n, hn⟩ : ∃ n : Nat, l0.length = n := ⟨_, rfl⟩
    rw [hn] at hl
    have HR := Aside0.mk hr0
    have HE := Aside0.mk h
    have HN := Aside0.mk hn
    have HL := Aside0.mk hl
    have e1 : wrap64 ((n : Int) - 1) = (n : Int) - 1 := by unfold wrap64; omega
    have f1 : IntKind.i64.wrap ((n : Int) - 1) = (n : Int) - 1 := (i64_w _).trans e1
    obtain ⟨i0, hi0⟩ : ∃ i0 : Int, (n : Int) - 1 = i0 := ⟨_, rfl⟩
    have HI0 := Aside0.mk hi0
    rw [hn]
    have HE1 := Aside0.mk (e1.trans hi0)
    clear e1 f1
    clear hr0 h hn hl hc0 hi0
    have HB := Aside0.mk (Below.refl w.heap.size w)
    go_enter Tryd.func97, Tryd.ntmps97
    go_wp2_with (first | ((with_reducible refine gate_dst (N := 8) rfl ?_); refine Kd.R_lit k39 _ 39 ?hg (N := 8) ?hd (xs := ([] : List (S39))) (inner := []) (ok := fun _ => True) (okp := fun _ => True) ?hr ?hp (fun _ hk => hk) trivial (Below.refl _ _) (Nat.le_refl _) (by simp) ?_; (case hd => rfl); (case hg => rfl); (case hr => first | (go_simp; done) | (go_simp; rfl)); (case hp => exact (Reps.none _ _)); intro v218 w3 ho4 hb hg_ hnew_; clear hg_ hnew_; have HO := Aside0.mk ho4; have HB1 := Aside0.mk hb; clear ho4 hb))
    go_loopg [5, 6] (n + 1) (fun kq v5 v6 w' => ∃ (i : Int) (j : Nat), v6 = .int .i64 i ∧ Aside0 (i = (n : Int) - 1 - (j : Int) ∧ j ≤ n ∧ j + kq = n + 1) ∧ Aside0 (Kd.R k39 39 w' w.heap.size (fun _ => True) v5 ((l0.reverse.take j).map (spec_l04Turn.togg a1))) ∧ Aside0 (Below w.heap.size w w'))
    case atStart => exact ⟨wrap64 ((n : Int) - 1), 0, rfl, ⟨by have := HE1.out; have := HI0.out; omega, by omega, by omega⟩, ⟨by simpa using HO.out⟩, HB1⟩
    case round =>
      clear HO HB1 HI0 HE1
      obtain ⟨i, j, rfl, HJ, HO, HB⟩ := hrel
      cases gk with
      | zero => exact absurd HJ.out (fun h => by omega)
      | succ k1 =>
        by_cases hj : j = n
        · have hi : i < 0 := by have := HJ.out; omega
          have d1 : decide (i ≥ 0) = false := decide_eq_false (by omega)
          have d2 : decide (0 ≤ i) = false := decide_eq_false (by omega)
          clear hi
          have HJN := Aside0.mk hj
          clear hj
          go_wp2
          go_ret
          refine ⟨_, rfl, ?_, HB.out⟩
          have h := HO.out
          rw [← HE.out]
          have e : l0.reverse.take j = l0.reverse := List.take_of_length_le (by rw [List.length_reverse, HN.out, HJN.out]; exact Nat.le_refl _)
          rw [e] at h
          exact h
        · obtain ⟨m, rfl⟩ : ∃ m : Nat, i = (m : Int) := ⟨i.toNat, by have := HJ.out; omega⟩
          have HM := Aside0.mk (show m + 1 + j = n by have := HJ.out; omega)
          have hml : m < l0.length := by have := HM.out; have := HN.out; omega
          obtain ⟨ad, eA, hx0, hx1, hx2, hx3⟩ := at_T39 HR.out (m : Int) (by omega) (by omega)
          cases eA
          have hx : rd_T39 l0 (m : Int) = l0.getD m z39 := rfl
          rw [hx] at hx0 hx1 hx2 hx3
          clear hx
          have HT := Aside0.mk (spec_l04Turn.togg_snoc l0 a1 j m (by have := HM.out; have := HN.out; omega))
          have HC := Aside0.mk (spec_l04Turn.togg_cells a1)
          generalize l0.getD m z39 = x at hx0 hx1 hx2 hx3 HT
          replace hx0 := (HB.out.cell (World.block_lt_of_cell? _ _ hx0)).trans hx0
          replace hx1 := (HB.out.cell (World.block_lt_of_cell? _ _ hx1)).trans hx1
          replace hx2 := (HB.out.cell (World.block_lt_of_cell? _ _ hx2)).trans hx2
          replace hx3 := (HB.out.cell (World.block_lt_of_cell? _ _ hx3)).trans hx3
          rw [show ((m : Int)).toNat = m from Int.toNat_natCast m] at hx0 hx1 hx2 hx3
          have hmn : m < n := by have := HM.out; omega
          have d1 : decide ((m : Int) ≥ 0) = true := decide_eq_true (by omega)
          have d2 : decide (0 ≤ (m : Int)) = true := decide_eq_true (by omega)
          have g1 := eq_true hmn
          have g2 := eq_true (show (m : Int) < (n : Int) by omega)
          have e1 : wrap64 ((m : Int) - 1) = (m : Int) - 1 := by have := HL.out; unfold wrap64; omega
          obtain ⟨i1, hi1⟩ : ∃ i1 : Int, (m : Int) - 1 = i1 := ⟨_, rfl⟩
          have HI1 := Aside0.mk hi1
          have HL2 := Aside0.mk (show ((l0.reverse.take j).map (spec_l04Turn.togg a1)).length = j by rw [List.length_map, List.length_take, List.length_reverse]; have := HM.out; have := HN.out; omega)
          replace e1 := e1.trans hi1
          have f1 : IntKind.i64.wrap ((m : Int) - 1) = i1 := (i64_w _).trans e1
          have HJ2 := Aside0.mk (show j + (k1 + 1) = n + 1 from HJ.out.2.2)
          clear hi1 hmn hj hml HJ
          obtain ⟨gb, hgb⟩ : ∃ gb : Nat, wr.heap.size = gb := ⟨_, rfl⟩
          cases a1
          all_goals
            go_upto_if 20 with ((with_reducible refine gate_dst (N := 7) rfl ?_); refine box_event ?hg (N := 7) ?hd (cs := #[.int .i64 0, .int .i64 0, .bool false, .bool false]) (t := 39) ?hr ?_; (case hd => rfl); (case hg => rfl); (case hr => first | (go_simp; done) | (go_simp; rfl)); intro gb130 hg w10 hbox hb; have BK := Aside0.mk hbox; have HBX := Aside0.mk hb; have HG := Aside0.mk hg; have hcz0 : w10.cell? ⟨gb130, 0, none⟩ = some (.int .i64 0) := (blk_cell hbox 0).trans rfl; have hcz1 : w10.cell? ⟨gb130, 1, none⟩ = some (.int .i64 0) := (blk_cell hbox 1).trans rfl; have hcz2 : w10.cell? ⟨gb130, 2, none⟩ = some (.bool false) := (blk_cell hbox 2).trans rfl; have hcz3 : w10.cell? ⟨gb130, 3, none⟩ = some (.bool false) := (blk_cell hbox 3).trans rfl; have hfz0 := blk_frozen hbox 0; have hfz1 := blk_frozen hbox 1; have hfz2 := blk_frozen hbox 2; have hfz3 := blk_frozen hbox 3; clear hb hbox hg)
          all_goals
            have hw0 := below_size HB.out
            have hgE := HG.out
            have HGE := Aside0.mk (show w.heap.size ≤ gb130 by omega)
            clear hw0 hgE
            have hB1 := Aside0.mk (below_set (j := 3) (v := .bool x.f3) (below_set (j := 2) (v := .bool x.f2) (below_set (j := 1) (v := .int .i64 x.f1) (below_set (j := 0) (v := .int .i64 x.f0) (below_step HB.out HBX.out) HGE.out) HGE.out) HGE.out) HGE.out)
            have hO1 := Aside0.mk (Kd.R_far (p := ⟨gb130, 3, none⟩) (Kd.R_far (p := ⟨gb130, 2, none⟩) (Kd.R_far (p := ⟨gb130, 1, none⟩) (Kd.R_far (p := ⟨gb130, 0, none⟩) (Kd.R_below (Kd.R_elderB HO.out gb130 (Nat.le_of_eq HG.out.symm)) HBX.out) (fun _ hk => hk.2) (.int .i64 x.f0)) (fun _ hk => hk.2) (.int .i64 x.f1)) (fun _ hk => hk.2) (.bool x.f2)) (fun _ hk => hk.2) (.bool x.f3))
            have hK1 := Aside0.mk (blk_put (blk_put (blk_put (blk_put BK.out 0 (.int .i64 x.f0) rfl) 1 (.int .i64 x.f1) rfl) 2 (.bool x.f2) rfl) 3 (.bool x.f3) rfl)
            clear HO HB HBX HG BK hcz0 hcz1 hcz2 hcz3 hfz0 hfz1 hfz2 hfz3 hx0 hx1 hx2 hx3
            generalize (((w10.setCell ⟨gb130, 0, none⟩ (.int .i64 x.f0)).setCell ⟨gb130, 1, none⟩ (.int .i64 x.f1)).setCell ⟨gb130, 2, none⟩ (.bool x.f2)).setCell ⟨gb130, 3, none⟩ (.bool x.f3) = w11 at hB1 hO1 hK1 ⊢
            have hcz0 : w11.cell? ⟨gb130, 0, none⟩ = some (.int .i64 x.f0) := (blk_cell hK1.out 0).trans rfl
            have hcz1 : w11.cell? ⟨gb130, 1, none⟩ = some (.int .i64 x.f1) := (blk_cell hK1.out 1).trans rfl
            have hcz2 : w11.cell? ⟨gb130, 2, none⟩ = some (.bool x.f2) := (blk_cell hK1.out 2).trans rfl
            have hcz3 : w11.cell? ⟨gb130, 3, none⟩ = some (.bool x.f3) := (blk_cell hK1.out 3).trans rfl
            have hfz0 := blk_frozen hK1.out 0
            have hfz1 := blk_frozen hK1.out 1
            have hfz2 := blk_frozen hK1.out 2
            have hfz3 := blk_frozen hK1.out 3
          · go_upto_region 9 with (fail)
            have hB2 := Aside0.mk (below_set (j := 3) (v := .bool !x.f3) hB1.out HGE.out)
            have hO2 := Aside0.mk (Kd.R_far (p := ⟨gb130, 3, none⟩) (Kd.R_mono (ok' := fun k_ => k_ ≠ gb130) hO1.out (fun _ hk => hk.2)) (fun _ hk => hk) (.bool !x.f3))
            have hK2 := Aside0.mk (blk_put hK1.out 3 (.bool !x.f3) rfl)
            clear hB1 hO1 hK1 hcz0 hcz1 hcz2 hcz3 hfz0 hfz1 hfz2 hfz3
            generalize w11.setCell ⟨gb130, 3, none⟩ (.bool !x.f3) = w12 at hB2 hO2 hK2 ⊢
            have hM := Aside0.mk (fun w base ok => HC.out w base ok x)
            clear HC
            simp only [if_true, if_false, Bool.false_eq_true] at hM
            obtain ⟨y, hy⟩ : ∃ y : S39, spec_l04Turn.togg false x = y := ⟨_, rfl⟩
            obtain ⟨b, hb⟩ : ∃ b : Bool, (!x.f3) = b := ⟨_, rfl⟩
            rw [hy] at hM HT
            rw [hb] at hM hK2
            clear hy hb
            have hcz0 : w12.cell? ⟨gb130, 0, none⟩ = some (.int .i64 x.f0) := (blk_cell hK2.out 0).trans rfl
            have hcz1 : w12.cell? ⟨gb130, 1, none⟩ = some (.int .i64 x.f1) := (blk_cell hK2.out 1).trans rfl
            have hcz2 : w12.cell? ⟨gb130, 2, none⟩ = some (.bool x.f2) := (blk_cell hK2.out 2).trans rfl
            have hcz3 : w12.cell? ⟨gb130, 3, none⟩ = some (.bool b) := (blk_cell hK2.out 3).trans rfl
            go_wp2_with ((with_reducible refine gate_builtin (b := .append) (xs := #[.tmp 29, .tmp 31]) rfl ?_); at_builtin; refine Kd.R_append k39 (w0 := w) w.heap.size rfl (.tmp 29) (.tmp 31) 27 39 (.agg #[(.int .i64 0), (.int .i64 0), (.bool false), (.bool false)]) 24 rfl Tryd.underlying27 info39 rfl (by decide) (by omega) u5 ((l0.reverse.take j).map (spec_l04Turn.togg false)) y [.int .i64 x.f0, .int .i64 x.f1, .bool x.f2, .bool b] (fun k_ => k_ ≠ gb130) (fun _ => False) rfl (by first | (go_simp; done) | (go_simp; rfl)) ?aP (fun _ hk => hk.elim) ?aF ?aO ?aB ?aS ?aL ?_; (case aP => exact hM.out _ _ _); (case aB => first | exact hB2.out | exact below_alloc hB2.out _); (case aF => first | exact (fun k_ hk => Kd.freshB hK2.out k_ hk) | exact (fun k_ hk => Kd.freshB hK2.out k_ (Nat.le_trans (by simp) hk))); (case aO => first | exact hO2.out | exact Kd.R_alloc hO2.out _); (case aS => first | exact below_size hB2.out | exact below_size (below_alloc hB2.out _)); (case aL => have := HL2.out; have := HL.out; have := HM.out; omega); intro v13 w13 ho hb hg hat; have HO3 := Aside0.mk ho; have HB3 := Aside0.mk hb; clear ho hb hg hat)
            go_roundg k1
            case measure => omega
            case rel => exact ⟨_, j + 1, rfl, ⟨by have := HI1.out; have := HM.out; have := HJ2.out; omega, by have := HM.out; omega, by have := HJ2.out; omega⟩, ⟨by rw [HT.out]; exact Kd.R_mono HO3.out (fun _ _ => trivial)⟩, HB3⟩

          · go_upto_region 9 with (fail)
            have hB2 := Aside0.mk (below_set (j := 2) (v := .bool !x.f2) hB1.out HGE.out)
            have hO2 := Aside0.mk (Kd.R_far (p := ⟨gb130, 2, none⟩) (Kd.R_mono (ok' := fun k_ => k_ ≠ gb130) hO1.out (fun _ hk => hk.2)) (fun _ hk => hk) (.bool !x.f2))
            have hK2 := Aside0.mk (blk_put hK1.out 2 (.bool !x.f2) rfl)
            clear hB1 hO1 hK1 hcz0 hcz1 hcz2 hcz3 hfz0 hfz1 hfz2 hfz3
            generalize w11.setCell ⟨gb130, 2, none⟩ (.bool !x.f2) = w12 at hB2 hO2 hK2 ⊢
            have hM := Aside0.mk (fun w base ok => HC.out w base ok x)
            clear HC
            simp only [if_true, if_false, Bool.false_eq_true] at hM
            obtain ⟨y, hy⟩ : ∃ y : S39, spec_l04Turn.togg true x = y := ⟨_, rfl⟩
            obtain ⟨b, hb⟩ : ∃ b : Bool, (!x.f2) = b := ⟨_, rfl⟩
            rw [hy] at hM HT
            rw [hb] at hM hK2
            clear hy hb
            have hcz0 : w12.cell? ⟨gb130, 0, none⟩ = some (.int .i64 x.f0) := (blk_cell hK2.out 0).trans rfl
            have hcz1 : w12.cell? ⟨gb130, 1, none⟩ = some (.int .i64 x.f1) := (blk_cell hK2.out 1).trans rfl
            have hcz2 : w12.cell? ⟨gb130, 2, none⟩ = some (.bool b) := (blk_cell hK2.out 2).trans rfl
            have hcz3 : w12.cell? ⟨gb130, 3, none⟩ = some (.bool x.f3) := (blk_cell hK2.out 3).trans rfl
            go_wp2_with ((with_reducible refine gate_builtin (b := .append) (xs := #[.tmp 29, .tmp 31]) rfl ?_); at_builtin; refine Kd.R_append k39 (w0 := w) w.heap.size rfl (.tmp 29) (.tmp 31) 27 39 (.agg #[(.int .i64 0), (.int .i64 0), (.bool false), (.bool false)]) 24 rfl Tryd.underlying27 info39 rfl (by decide) (by omega) u5 ((l0.reverse.take j).map (spec_l04Turn.togg true)) y [.int .i64 x.f0, .int .i64 x.f1, .bool b, .bool x.f3] (fun k_ => k_ ≠ gb130) (fun _ => False) rfl (by first | (go_simp; done) | (go_simp; rfl)) ?aP (fun _ hk => hk.elim) ?aF ?aO ?aB ?aS ?aL ?_; (case aP => exact hM.out _ _ _); (case aB => first | exact hB2.out | exact below_alloc hB2.out _); (case aF => first | exact (fun k_ hk => Kd.freshB hK2.out k_ hk) | exact (fun k_ hk => Kd.freshB hK2.out k_ (Nat.le_trans (by simp) hk))); (case aO => first | exact hO2.out | exact Kd.R_alloc hO2.out _); (case aS => first | exact below_size hB2.out | exact below_size (below_alloc hB2.out _)); (case aL => have := HL2.out; have := HL.out; have := HM.out; omega); intro v13 w13 ho hb hg hat; have HO3 := Aside0.mk ho; have HB3 := Aside0.mk hb; clear ho hb hg hat)
            go_roundg k1
            case measure => omega
            case rel => exact ⟨_, j + 1, rfl, ⟨by have := HI1.out; have := HM.out; have := HJ2.out; omega, by have := HM.out; omega, by have := HJ2.out; omega⟩, ⟨by rw [HT.out]; exact Kd.R_mono HO3.out (fun _ _ => trivial)⟩, HB3⟩

  · rw [if_neg hl] at h; cases h

end Go.Proofs.YtijbccmcfagnfaaDoor.QFnSchemes
