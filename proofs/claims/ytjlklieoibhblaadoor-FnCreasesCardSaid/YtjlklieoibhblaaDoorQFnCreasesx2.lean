-- Written by own_print.py of this session's repo over the kit's print (its output, turned at some places).
import Derived.Test.YtjlklieoibhblaaDoorQFnCreasesx0
import Derived.Test.YtjlklieoibhblaaDoorQFnCreasesx1
namespace Go.Proofs.YtjlklieoibhblaaDoor.QFnCreases
open Go.RowKit Go.Proofs.YtjlklieoibhblaaDoorW.PrintWords Go.Proofs.YtjlklieoibhblaaDoorW.PrintLast Go.Proofs.YtjlklieoibhblaaDoorW.PrintMore
attribute [local go_sem] max2_int min2_int max_two min_two max_three min_three max_four min_four   -- for this text's walks alone
set_option linter.unusedVariables false
set_option linter.unusedSimpArgs false

/-! ### spec_CreasesOf: function 10 -/
mutual
def spec_CreasesOf.l0 : Nat → ByteArray → List Int → List (List Int) → Int → Option (ByteArray × Int)
  | 0, _, _, _, _ => none
  | k + 1, x0, x5, x6, x7 => if x7 < (x0.size : Int) then (if 0 ≤ (wrap64 ((wrap64 ((x6.length : Int) / 2)) - 1)) then (if (wrap64 ((wrap64 ((x6.length : Int) / 2)) - 1)) < (x6.length : Int) then (if 0 ≤ (wrap64 ((x6.length : Int) / 2)) then (if (wrap64 ((x6.length : Int) / 2)) < (x6.length : Int) then (spec_CreasesOf.l1 k x0 x5 x6 x7 (rd_L1 x6 (wrap64 ((wrap64 ((x6.length : Int) / 2)) - 1))) (rd_L1 x6 (wrap64 ((x6.length : Int) / 2))) 0) else (none)) else (none)) else (none)) else (none)) else (some (strOfNums x5, 0))
def spec_CreasesOf.l1 : Nat → ByteArray → List Int → List (List Int) → Int → List Int → List Int → Int → Option (ByteArray × Int)
  | 0, _, _, _, _, _, _, _ => none
  | k + 1, x0, x5, x6, x7, x9, x10, x11 => if x11 < (x9.length : Int) then (if 0 ≤ x11 then (if x11 < (x10.length : Int) then (if 0 ≤ (wrap64 ((mn (mx (rd x9 x11) (wrap64 (-(rd x9 x11)))) (mx (rd x10 x11) (wrap64 (-(rd x10 x11))))) - 1)) then (if (wrap64 ((mn (mx (rd x9 x11) (wrap64 (-(rd x9 x11)))) (mx (rd x10 x11) (wrap64 (-(rd x10 x11))))) - 1)) < (x5.length : Int) then ((some (x5.set ((wrap64 ((mn (mx (rd x9 x11) (wrap64 (-(rd x9 x11)))) (mx (rd x10 x11) (wrap64 (-(rd x10 x11))))) - 1)) : Int).toNat 86 : List Int)).bind fun y155 => (if (rd x9 x11) < 0 then (spec_CreasesOf.l1 k x0 (y155.set ((wrap64 ((mn (mx (rd x9 x11) (wrap64 (-(rd x9 x11)))) (mx (rd x10 x11) (wrap64 (-(rd x10 x11))))) - 1)) : Int).toNat 77) x6 x7 x9 x10 (wrap64 (x11 + 1))) else (spec_CreasesOf.l1 k x0 y155 x6 x7 x9 x10 (wrap64 (x11 + 1))))) else (none)) else (none)) else (none)) else (none)) else (if 0 ≤ x7 then (if x7 < (x0.size : Int) then ((spec_l03Fold.f k x6 (bt x0 x7)).bind fun t158 => (spec_CreasesOf.l0 k x0 x5 t158 (wrap64 (x7 + 1)))) else (none)) else (none))
end
def spec_CreasesOf.f (k : Nat) (a0 : ByteArray) : Option (ByteArray × Int) := (spec_IsFolds.f k a0).bind fun t142 => (if t142 = true then (if 0 ≤ (IntKind.u64.wrap ((a0.size : Int))) then (if 0 ≤ (wrap64 ((shl .i64 1 (IntKind.u64.wrap ((a0.size : Int)))) - 1)) then (if (wrap64 ((shl .i64 1 (IntKind.u64.wrap ((a0.size : Int)))) - 1) : Int).toNat ≤ 281474976710656 then ((spec_l03Start.f k (shl .i64 1 (IntKind.u64.wrap ((a0.size : Int))))).bind fun t146 => (spec_CreasesOf.l0 k a0 (List.replicate (wrap64 ((shl .i64 1 (IntKind.u64.wrap ((a0.size : Int)))) - 1) : Int).toNat 0) t146 0)) else (none)) else (none)) else (none)) else (some ((⟨#[]⟩ : ByteArray), 1)))
theorem spec_CreasesOf.mono_l : ∀ k, (∀ y0 y1 y2 y3, LeO (spec_CreasesOf.l0 k y0 y1 y2 y3) (spec_CreasesOf.l0 (k + 1) y0 y1 y2 y3)) ∧ (∀ y0 y1 y2 y3 y4 y5 y6, LeO (spec_CreasesOf.l1 k y0 y1 y2 y3 y4 y5 y6) (spec_CreasesOf.l1 (k + 1) y0 y1 y2 y3 y4 y5 y6))
  | 0 => ⟨fun _ _ _ _ r h => by simp [spec_CreasesOf.l0] at h, fun _ _ _ _ _ _ _ r h => by simp [spec_CreasesOf.l1] at h⟩
  | k + 1 => by
    obtain ⟨ih0, ih1⟩ := spec_CreasesOf.mono_l k
    refine ⟨?_, ?_⟩
    · intro y0 y1 y2 y3
      unfold spec_CreasesOf.l0
      repeat' first
      | (with_reducible exact ih0 _ _ _ _)
      | (with_reducible exact ih1 _ _ _ _ _ _ _)
      | (with_reducible exact spec_IsFolds.mono _ _)
      | (with_reducible exact spec_l03Fold.mono _ _ _)
      | (with_reducible exact spec_l03Start.mono _ _)
      | (with_reducible exact LeO.refl _)
      | (with_reducible exact LeO.none _)
      | (with_reducible refine LeO.ite ?_ ?_)
      | (with_reducible refine LeO.bind ?_ (fun _ => ?_))
      | exact ih0 _ _ _ _
      | exact ih1 _ _ _ _ _ _ _
      | exact spec_IsFolds.mono _ _
      | exact spec_l03Fold.mono _ _ _
      | exact spec_l03Start.mono _ _
      | exact LeO.none _
      | refine LeO.ite ?_ ?_
      | refine LeO.bind ?_ (fun _ => ?_)
    · intro y0 y1 y2 y3 y4 y5 y6
      unfold spec_CreasesOf.l1
      repeat' first
      | (with_reducible exact ih0 _ _ _ _)
      | (with_reducible exact ih1 _ _ _ _ _ _ _)
      | (with_reducible exact spec_IsFolds.mono _ _)
      | (with_reducible exact spec_l03Fold.mono _ _ _)
      | (with_reducible exact spec_l03Start.mono _ _)
      | (with_reducible exact LeO.refl _)
      | (with_reducible exact LeO.none _)
      | (with_reducible refine LeO.ite ?_ ?_)
      | (with_reducible refine LeO.bind ?_ (fun _ => ?_))
      | exact ih0 _ _ _ _
      | exact ih1 _ _ _ _ _ _ _
      | exact spec_IsFolds.mono _ _
      | exact spec_l03Fold.mono _ _ _
      | exact spec_l03Start.mono _ _
      | exact LeO.none _
      | refine LeO.ite ?_ ?_
      | refine LeO.bind ?_ (fun _ => ?_)
theorem spec_CreasesOf.mono : ∀ a0 k, LeO (spec_CreasesOf.f k a0) (spec_CreasesOf.f (k + 1) a0) := by
  intro a0 k
  obtain ⟨ih0, ih1⟩ := spec_CreasesOf.mono_l k
  unfold spec_CreasesOf.f
  repeat' first
      | (with_reducible exact ih0 _ _ _ _)
      | (with_reducible exact ih1 _ _ _ _ _ _ _)
      | (with_reducible exact spec_IsFolds.mono _ _)
      | (with_reducible exact spec_l03Fold.mono _ _ _)
      | (with_reducible exact spec_l03Start.mono _ _)
      | (with_reducible exact LeO.refl _)
      | (with_reducible exact LeO.none _)
      | (with_reducible refine LeO.ite ?_ ?_)
      | (with_reducible refine LeO.bind ?_ (fun _ => ?_))
      | exact ih0 _ _ _ _
      | exact ih1 _ _ _ _ _ _ _
      | exact spec_IsFolds.mono _ _
      | exact spec_l03Fold.mono _ _ _
      | exact spec_l03Start.mono _ _
      | exact LeO.none _
      | refine LeO.ite ?_ ?_
      | refine LeO.bind ?_ (fun _ => ?_)
set_option maxHeartbeats 8000000 in
set_option maxRecDepth 100000 in
theorem spec_CreasesOf.calls (k : Nat) (a0 : ByteArray) (r1 : ByteArray) (r2 : Int) (w : World) (h : spec_CreasesOf.f k a0 = some (r1, r2)) :
    Calls Tryd.prog 10 #[.string a0] w fun e w' => e = .returned (.tuple #[.string r1, .int .i64 r2]) ∧ Below w.heap.size w w' := by
  have HB := Aside0.mk (Below.refl w.heap.size w)
  have H : ((spec_IsFolds.f k a0).bind fun t142 => (if t142 = true then (if 0 ≤ (IntKind.u64.wrap ((a0.size : Int))) then (if 0 ≤ (wrap64 ((shl .i64 1 (IntKind.u64.wrap ((a0.size : Int)))) - 1)) then (if (wrap64 ((shl .i64 1 (IntKind.u64.wrap ((a0.size : Int)))) - 1) : Int).toNat ≤ 281474976710656 then ((spec_l03Start.f k (shl .i64 1 (IntKind.u64.wrap ((a0.size : Int))))).bind fun t146 => (spec_CreasesOf.l0 k a0 (List.replicate (wrap64 ((shl .i64 1 (IntKind.u64.wrap ((a0.size : Int)))) - 1) : Int).toNat 0) t146 0)) else (none)) else (none)) else (none)) else (some ((⟨#[]⟩ : ByteArray), 1)))) = some (r1, r2) := h
  clear h
  replace H := Option.bind_eq_some_iff.mp H
  obtain ⟨t142, A20, H⟩ := H
  replace H : (if t142 = true then (if 0 ≤ (IntKind.u64.wrap ((a0.size : Int))) then (if 0 ≤ (wrap64 ((shl .i64 1 (IntKind.u64.wrap ((a0.size : Int)))) - 1)) then (if (wrap64 ((shl .i64 1 (IntKind.u64.wrap ((a0.size : Int)))) - 1) : Int).toNat ≤ 281474976710656 then ((spec_l03Start.f k (shl .i64 1 (IntKind.u64.wrap ((a0.size : Int))))).bind fun t146 => (spec_CreasesOf.l0 k a0 (List.replicate (wrap64 ((shl .i64 1 (IntKind.u64.wrap ((a0.size : Int)))) - 1) : Int).toNat 0) t146 0)) else (none)) else (none)) else (none)) else (some ((⟨#[]⟩ : ByteArray), 1))) = some (r1, r2) := H
  have A2 := Aside0.mk A20
  clear A20
  by_cases c3 : t142 = true
  · subst c3
    have H1 : (if 0 ≤ (IntKind.u64.wrap ((a0.size : Int))) then (if 0 ≤ (wrap64 ((shl .i64 1 (IntKind.u64.wrap ((a0.size : Int)))) - 1)) then (if (wrap64 ((shl .i64 1 (IntKind.u64.wrap ((a0.size : Int)))) - 1) : Int).toNat ≤ 281474976710656 then ((spec_l03Start.f k (shl .i64 1 (IntKind.u64.wrap ((a0.size : Int))))).bind fun t146 => (spec_CreasesOf.l0 k a0 (List.replicate (wrap64 ((shl .i64 1 (IntKind.u64.wrap ((a0.size : Int)))) - 1) : Int).toNat 0) t146 0)) else (none)) else (none)) else (none)) = some (r1, r2) := by rw [if_pos rfl] at H; exact H
    clear H
    have H := H1
    clear H1
    obtain ⟨ji4, hji4⟩ : ∃ j_ : Int, (IntKind.u64.wrap ((a0.size : Int))) = j_ := ⟨_, rfl⟩
    replace H : (if 0 ≤ (ji4) then (if 0 ≤ (wrap64 ((shl .i64 1 (ji4)) - 1)) then (if (wrap64 ((shl .i64 1 (ji4)) - 1) : Int).toNat ≤ 281474976710656 then ((spec_l03Start.f k (shl .i64 1 (ji4))).bind fun t146 => (spec_CreasesOf.l0 k a0 (List.replicate (wrap64 ((shl .i64 1 (ji4)) - 1) : Int).toNat 0) t146 0)) else (none)) else (none)) else (none)) = some (r1, r2) := by first | (rw [hji4] at H; exact H) | (simp only [hji4] at H ⊢; exact H)
    (try rw [hji4] at A2)
    by_cases c5 : 0 ≤ (ji4)
    · rw [if_pos c5] at H
      have c5b0 := eq_true c5
      have c5b1 : decide (0 ≤ (ji4)) = true := decide_eq_true c5
      clear c5
      obtain ⟨ji6, hji6⟩ : ∃ j_ : Int, (shl .i64 1 (ji4)) = j_ := ⟨_, rfl⟩
      replace H : (if 0 ≤ (wrap64 ((ji6) - 1)) then (if (wrap64 ((ji6) - 1) : Int).toNat ≤ 281474976710656 then ((spec_l03Start.f k (ji6)).bind fun t146 => (spec_CreasesOf.l0 k a0 (List.replicate (wrap64 ((ji6) - 1) : Int).toNat 0) t146 0)) else (none)) else (none)) = some (r1, r2) := by first | (rw [hji6] at H; exact H) | (simp only [hji6] at H ⊢; exact H)
      (try rw [hji6] at A2)
      have hji6_ : (IntKind.i64.wrap (1 * 2 ^ min (ji4).toNat 64)) = ji6 := hji6
      have hji6z : (ji4) ≤ 64 → (IntKind.i64.wrap (1 * 2 ^ (ji4).toNat)) = ji6 := shl_small hji6
      have hji6u : (IntKind.i64.wrap (2 ^ min (ji4).toNat 64)) = ji6 := by have h_ := hji6_; rw [Int.one_mul] at h_; exact h_
      have hji6v : (ji4) ≤ 64 → (IntKind.i64.wrap (2 ^ (ji4).toNat)) = ji6 := fun hle_ => by have h_ := hji6z hle_; rw [Int.one_mul] at h_; exact h_
      have hji6y : (wrap64 (1 * 2 ^ min (ji4).toNat 64)) = ji6 := (i64_w _).symm.trans hji6_
      have hji6x : (ji4) ≤ 64 → (wrap64 (1 * 2 ^ (ji4).toNat)) = ji6 := fun h_ => (i64_w _).symm.trans (hji6z h_)
      obtain ⟨ji7, hji7⟩ : ∃ j_ : Int, (wrap64 ((ji6) - 1)) = j_ := ⟨_, rfl⟩
      replace H : (if 0 ≤ (ji7) then (if (ji7 : Int).toNat ≤ 281474976710656 then ((spec_l03Start.f k (ji6)).bind fun t146 => (spec_CreasesOf.l0 k a0 (List.replicate (ji7 : Int).toNat 0) t146 0)) else (none)) else (none)) = some (r1, r2) := by first | (rw [hji7] at H; exact H) | (simp only [hji7] at H ⊢; exact H)
      (try rw [hji7] at A2)
      have hji7w : (IntKind.i64.wrap ((ji6) - 1)) = ji7 := (i64_w _).trans hji7
      by_cases c8 : 0 ≤ (ji7)
      · rw [if_pos c8] at H
        have c8b0 := eq_true c8
        have c8b1 : decide (0 ≤ (ji7)) = true := decide_eq_true c8
        clear c8
        by_cases c9 : (ji7 : Int).toNat ≤ 281474976710656
        · rw [if_pos c9] at H
          have c9b0 := eq_true c9
          have c9b1 : decide ((ji7 : Int).toNat ≤ 281474976710656) = true := decide_eq_true c9
          clear c9
          obtain ⟨y143, hy143⟩ : ∃ y_ : List Int, y_ = (List.replicate (ji7 : Int).toNat 0) := ⟨_, rfl⟩
          replace H : ((spec_l03Start.f k (ji6)).bind fun t146 => (spec_CreasesOf.l0 k a0 y143 t146 0)) = some (r1, r2) := by first | (rw [hy143]; with_reducible exact H) | (have H2_ := (Option.bind_some _ _).symm.trans H; rw [hy143]; with_reducible exact H2_) | (have H2_ := (Option.bind_some _ _).symm.trans H; with_reducible exact H2_) | with_reducible exact H | (rw [hy143]; exact H) | exact H
          have Ny143 := Aside0.mk hy143
          clear hy143
          replace H := Option.bind_eq_some_iff.mp H
          obtain ⟨t146, A100, H⟩ := H
          replace H : (spec_CreasesOf.l0 k a0 y143 t146 0) = some (r1, r2) := H
          have A10 := Aside0.mk A100
          clear A100
          have H' := Aside0.mk H
          clear H
          go_enter Tryd.func10, Tryd.ntmps10
          go_wp2_with (first | (go_at_call 32; (with_reducible refine (spec_IsFolds.calls k a0 true _ A2.out).mono ?_); rintro e w' ⟨rfl, ⟨nd, rfl⟩⟩; (try first | exact ⟨rfl, _, World.drewN_drewN _ _ _⟩ | exact ⟨rfl, _, Eq.trans (World.drewN_drewN _ _ _) (congrArg (World.drewN _) (Nat.add_assoc _ _ _))⟩)) | ((with_reducible refine gate_dst (N := 23) rfl ?_); refine Kd.R_make (Kd.int .u8) _ 5 rfl (N := 23) rfl 35 _ _ rfl ji7 rfl rfl Tryd.underlying35 (.int .u8 0) 1 info5 rfl (by decide) (by omega) 0 (ok := fun _ => True) (okp := fun _ => True) rfl (fun _ hk => hk) trivial (of_decide_eq_true (by first | (with_reducible assumption) | assumption)) (Nat.le_trans (Nat.mul_le_mul_right _ (of_decide_eq_true (by first | (with_reducible assumption) | assumption) : ji7.toNat ≤ 281474976710656)) (by omega)) (Below.refl _ _) (Nat.le_refl _) ?_; intro v144 w11 ho12 hb hg_ hnew_; clear hg_ hnew_; (first | rw [← Ny143.out] at ho12 | (simp only [Int.reduceToNat] at ho12; rw [← Ny143.out] at ho12)); have n0_ := Aside0.mk (Kd.R_lower ho12 (below_size (by repeat (first | (with_reducible first | exact HB.out | apply below_alloc | apply pw_below_drewN | apply below_drew1) | exact HB.out)))); have n1_ := Aside0.mk (below_step (by repeat (first | (with_reducible first | exact HB.out | apply below_alloc | apply pw_below_drewN | apply below_drew1) | exact HB.out)) hb); clear HB; have HO145 := n0_; have HB := n1_; clear n0_ n1_; clear hb ho12) | (go_at_call 33; (with_reducible refine (spec_l03Start.calls k ji6 t146 _ A10.out).mono ?_); rintro e w13 ⟨v147, rfl, ho0, hb⟩; have n0_ := Aside0.mk (Kd.R_below (by (with_reducible repeat (first | apply Kd.R_alloc | apply Kd.R_drewN | apply Kd.R_drew)); exact HO145.out) hb); have n1_ := Aside0.mk (Kd.N_lower (Kd.N_mono (ok' := fun k_ => some k_ ≠ (v144 : Value).ownBlock) (Kd.S_N (Kd.S_bound ho0)) (fun k_ hk_ => (Kd.fresh' (Kd.R_lt (by (with_reducible repeat (first | apply Kd.R_alloc | apply Kd.R_drewN | apply Kd.R_drew)); exact HO145.out)) k_ hk_.2.1))) (below_size (by repeat (first | (with_reducible first | exact HB.out | apply below_alloc | apply pw_below_drewN | apply below_drew1) | exact HB.out)))); have n2_ := Aside0.mk (below_step (by repeat (first | (with_reducible first | exact HB.out | apply below_alloc | apply pw_below_drewN | apply below_drew1) | exact HB.out)) hb); clear HO145; clear HB; have HO145 := n0_; have HO148 := n1_; have HB := n2_; clear n0_ n1_ n2_; (try clear hb); (try clear hb2); (try clear hk); (try clear hi); (try clear ho0)))
          repeat (go_quiet (first | (go_at_call 32; (with_reducible refine (spec_IsFolds.calls k a0 true _ A2.out).mono ?_); rintro e w' ⟨rfl, ⟨nd, rfl⟩⟩; (try first | exact ⟨rfl, _, World.drewN_drewN _ _ _⟩ | exact ⟨rfl, _, Eq.trans (World.drewN_drewN _ _ _) (congrArg (World.drewN _) (Nat.add_assoc _ _ _))⟩)) | ((with_reducible refine gate_dst (N := 23) rfl ?_); refine Kd.R_make (Kd.int .u8) _ 5 rfl (N := 23) rfl 35 _ _ rfl ji7 rfl rfl Tryd.underlying35 (.int .u8 0) 1 info5 rfl (by decide) (by omega) 0 (ok := fun _ => True) (okp := fun _ => True) rfl (fun _ hk => hk) trivial (of_decide_eq_true (by first | (with_reducible assumption) | assumption)) (Nat.le_trans (Nat.mul_le_mul_right _ (of_decide_eq_true (by first | (with_reducible assumption) | assumption) : ji7.toNat ≤ 281474976710656)) (by omega)) (Below.refl _ _) (Nat.le_refl _) ?_; intro v144 w11 ho12 hb hg_ hnew_; clear hg_ hnew_; (first | rw [← Ny143.out] at ho12 | (simp only [Int.reduceToNat] at ho12; rw [← Ny143.out] at ho12)); have n0_ := Aside0.mk (Kd.R_lower ho12 (below_size (by repeat (first | (with_reducible first | exact HB.out | apply below_alloc | apply pw_below_drewN | apply below_drew1) | exact HB.out)))); have n1_ := Aside0.mk (below_step (by repeat (first | (with_reducible first | exact HB.out | apply below_alloc | apply pw_below_drewN | apply below_drew1) | exact HB.out)) hb); clear HB; have HO145 := n0_; have HB := n1_; clear n0_ n1_; clear hb ho12) | (go_at_call 33; (with_reducible refine (spec_l03Start.calls k ji6 t146 _ A10.out).mono ?_); rintro e w13 ⟨v147, rfl, ho0, hb⟩; have n0_ := Aside0.mk (Kd.R_below (by (with_reducible repeat (first | apply Kd.R_alloc | apply Kd.R_drewN | apply Kd.R_drew)); exact HO145.out) hb); have n1_ := Aside0.mk (Kd.N_lower (Kd.N_mono (ok' := fun k_ => some k_ ≠ (v144 : Value).ownBlock) (Kd.S_N (Kd.S_bound ho0)) (fun k_ hk_ => (Kd.fresh' (Kd.R_lt (by (with_reducible repeat (first | apply Kd.R_alloc | apply Kd.R_drewN | apply Kd.R_drew)); exact HO145.out)) k_ hk_.2.1))) (below_size (by repeat (first | (with_reducible first | exact HB.out | apply below_alloc | apply pw_below_drewN | apply below_drew1) | exact HB.out)))); have n2_ := Aside0.mk (below_step (by repeat (first | (with_reducible first | exact HB.out | apply below_alloc | apply pw_below_drewN | apply below_drew1) | exact HB.out)) hb); clear HO145; clear HB; have HO145 := n0_; have HO148 := n1_; have HB := n2_; clear n0_ n1_ n2_; (try clear hb); (try clear hb2); (try clear hk); (try clear hi); (try clear ho0))); try go_wp2_with (first | (go_at_call 32; (with_reducible refine (spec_IsFolds.calls k a0 true _ A2.out).mono ?_); rintro e w' ⟨rfl, ⟨nd, rfl⟩⟩; (try first | exact ⟨rfl, _, World.drewN_drewN _ _ _⟩ | exact ⟨rfl, _, Eq.trans (World.drewN_drewN _ _ _) (congrArg (World.drewN _) (Nat.add_assoc _ _ _))⟩)) | ((with_reducible refine gate_dst (N := 23) rfl ?_); refine Kd.R_make (Kd.int .u8) _ 5 rfl (N := 23) rfl 35 _ _ rfl ji7 rfl rfl Tryd.underlying35 (.int .u8 0) 1 info5 rfl (by decide) (by omega) 0 (ok := fun _ => True) (okp := fun _ => True) rfl (fun _ hk => hk) trivial (of_decide_eq_true (by first | (with_reducible assumption) | assumption)) (Nat.le_trans (Nat.mul_le_mul_right _ (of_decide_eq_true (by first | (with_reducible assumption) | assumption) : ji7.toNat ≤ 281474976710656)) (by omega)) (Below.refl _ _) (Nat.le_refl _) ?_; intro v144 w11 ho12 hb hg_ hnew_; clear hg_ hnew_; (first | rw [← Ny143.out] at ho12 | (simp only [Int.reduceToNat] at ho12; rw [← Ny143.out] at ho12)); have n0_ := Aside0.mk (Kd.R_lower ho12 (below_size (by repeat (first | (with_reducible first | exact HB.out | apply below_alloc | apply pw_below_drewN | apply below_drew1) | exact HB.out)))); have n1_ := Aside0.mk (below_step (by repeat (first | (with_reducible first | exact HB.out | apply below_alloc | apply pw_below_drewN | apply below_drew1) | exact HB.out)) hb); clear HB; have HO145 := n0_; have HB := n1_; clear n0_ n1_; clear hb ho12) | (go_at_call 33; (with_reducible refine (spec_l03Start.calls k ji6 t146 _ A10.out).mono ?_); rintro e w13 ⟨v147, rfl, ho0, hb⟩; have n0_ := Aside0.mk (Kd.R_below (by (with_reducible repeat (first | apply Kd.R_alloc | apply Kd.R_drewN | apply Kd.R_drew)); exact HO145.out) hb); have n1_ := Aside0.mk (Kd.N_lower (Kd.N_mono (ok' := fun k_ => some k_ ≠ (v144 : Value).ownBlock) (Kd.S_N (Kd.S_bound ho0)) (fun k_ hk_ => (Kd.fresh' (Kd.R_lt (by (with_reducible repeat (first | apply Kd.R_alloc | apply Kd.R_drewN | apply Kd.R_drew)); exact HO145.out)) k_ hk_.2.1))) (below_size (by repeat (first | (with_reducible first | exact HB.out | apply below_alloc | apply pw_below_drewN | apply below_drew1) | exact HB.out)))); have n2_ := Aside0.mk (below_step (by repeat (first | (with_reducible first | exact HB.out | apply below_alloc | apply pw_below_drewN | apply below_drew1) | exact HB.out)) hb); clear HO145; clear HB; have HO145 := n0_; have HO148 := n1_; have HB := n2_; clear n0_ n1_ n2_; (try clear hb); (try clear hb2); (try clear hk); (try clear hi); (try clear ho0))))
          go_loopg [6, 7] k (fun kq v6 v7 w' => ∃ (x5_1 : List Int) (x6_1 : List (List Int)) (x7_1 : Int), v7 = .int .i64 x7_1 ∧ Aside0 (spec_CreasesOf.l0 kq a0 x5_1 x6_1 x7_1 = some (r1, r2)) ∧ Aside0 (kq ≤ k) ∧ Aside0 (Kd.R (Kd.int .u8) 5 w' w.heap.size (fun _ => True) v144 x5_1) ∧ Aside0 (Kd.N (Kd.slice 2 (Kd.int .i64)) 30 w' w.heap.size (fun k_ => some k_ ≠ (v144 : Value).ownBlock) v6 x6_1) ∧ Aside0 (Below w.heap.size w w'))
          case atStart => exact ⟨(y143), (t146), (0), (by first | rfl | (simp; done) | (simp [*]; done)), H', ⟨Nat.le_refl _⟩, ⟨by (with_reducible repeat (first | apply Kd.R_alloc | apply Kd.R_drewN | apply Kd.R_drew)); exact HO145.out⟩, ⟨by (with_reducible repeat (first | apply Kd.N_alloc | apply Kd.N_drewN | apply Kd.N_drew)); exact HO148.out⟩, ⟨by repeat (first | (with_reducible first | exact HB.out | apply below_alloc | apply pw_below_drewN | apply below_drew1) | exact HB.out)⟩⟩
          case round =>
            clear H'
            try clear c1
            try clear p2
            try clear c3
            try clear c5
            try clear c5b0
            try clear c5b1
            try clear p6
            try clear c8
            try clear c8b0
            try clear c8b1
            try clear c9
            try clear c9b0
            try clear c9b1
            try clear c10
            obtain ⟨x5_1, x6_1, x7_1, rfl, HA, HK1, HO_5, HO_6, HB⟩ := hrel
            cases gk with
            | zero => exact absurd HA.out (by simp [spec_CreasesOf.l0])
            | succ k1 =>
              have H := HA.out
              clear HA
              simp only [spec_CreasesOf.l0] at H
              by_cases c14 : x7_1 < (a0.size : Int)
              · rw [if_pos c14] at H
                have c14b0 : decide (x7_1 < (a0.size : Int)) = true := decide_eq_true c14
                clear c14
                obtain ⟨ji15, hji15⟩ : ∃ j_ : Int, (wrap64 ((wrap64 ((x6_1.length : Int) / 2)) - 1)) = j_ := ⟨_, rfl⟩
                replace H : (if 0 ≤ (ji15) then (if (ji15) < (x6_1.length : Int) then (if 0 ≤ (wrap64 ((x6_1.length : Int) / 2)) then (if (wrap64 ((x6_1.length : Int) / 2)) < (x6_1.length : Int) then (spec_CreasesOf.l1 k1 a0 x5_1 x6_1 x7_1 (rd_L1 x6_1 (ji15)) (rd_L1 x6_1 (wrap64 ((x6_1.length : Int) / 2))) 0) else (none)) else (none)) else (none)) else (none)) = some (r1, r2) := by first | (rw [hji15] at H; exact H) | (simp only [hji15] at H ⊢; exact H)
                have hji15w : (IntKind.i64.wrap ((wrap64 ((x6_1.length : Int) / 2)) - 1)) = ji15 := (i64_w _).trans hji15
                by_cases c16 : 0 ≤ (ji15)
                · rw [if_pos c16] at H
                  have c16b0 : decide (0 ≤ (ji15)) = true := decide_eq_true c16
                  clear c16
                  by_cases c17 : (ji15) < (x6_1.length : Int)
                  · rw [if_pos c17] at H
                    have c17b0 : decide ((ji15) < (x6_1.length : Int)) = true := decide_eq_true c17
                    clear c17
                    obtain ⟨ji18, hji18⟩ : ∃ j_ : Int, (wrap64 ((x6_1.length : Int) / 2)) = j_ := ⟨_, rfl⟩
                    replace H : (if 0 ≤ (ji18) then (if (ji18) < (x6_1.length : Int) then (spec_CreasesOf.l1 k1 a0 x5_1 x6_1 x7_1 (rd_L1 x6_1 (ji15)) (rd_L1 x6_1 (ji18)) 0) else (none)) else (none)) = some (r1, r2) := by first | (rw [hji18] at H; exact H) | (simp only [hji18] at H ⊢; exact H)
                    have hji18w : (IntKind.i64.wrap ((x6_1.length : Int) / 2)) = ji18 := (i64_w _).trans hji18
                    try have hji15xji18_1 : (wrap64 (ji18 - 1)) = ji15 := by (first | (have e_ := hji15; rw [hji18] at e_; first | exact e_ | exact (i64_w _).trans e_) | (have e_ := hji15w; rw [hji18] at e_; exact e_))
                    try have hji15xji18_2 : (IntKind.i64.wrap (ji18 - 1)) = ji15 := by (first | (have e_ := hji15; rw [hji18] at e_; first | exact e_ | exact (i64_w _).trans e_) | (have e_ := hji15w; rw [hji18] at e_; exact e_))
                    by_cases c19 : 0 ≤ (ji18)
                    · rw [if_pos c19] at H
                      have c19b0 : decide (0 ≤ (ji18)) = true := decide_eq_true c19
                      clear c19
                      by_cases c20 : (ji18) < (x6_1.length : Int)
                      · rw [if_pos c20] at H
                        have c20b0 : decide ((ji18) < (x6_1.length : Int)) = true := decide_eq_true c20
                        clear c20
                        have H' := Aside0.mk H
                        clear H
                        obtain ⟨Ao21, co21, eo21⟩ := Kd.N_slice HO_6.out
                        subst eo21
                        have p149 : 0 ≤ ((ji15) : Int) := of_decide_eq_true (by first | (with_reducible assumption) | assumption)
                        have q149 : (ji15) < (x6_1.length : Int) := of_decide_eq_true (by first | (with_reducible assumption) | assumption)
                        obtain ⟨ad149, A149_0, c149_0, e149, hx149_0, hl149_0, hi149_0⟩ := at_L1 (Kd.N_reads' HO_6.out).2.2 (ji15) p149 q149
                        cases e149
                        obtain ⟨ce149, hce149, hMe149, hcc149⟩ := Kd.N_get HO_6.out [] (ji15) p149 (by first | exact q149 | exact of_decide_eq_true (by first | (with_reducible assumption) | assumption) | (have e_ := (Kd.N_reads' HO_6.out).1; omega))
                        obtain ⟨ua149_0, uc149_0, rfl, ul149_0, ge149_0⟩ := Kd.FK_slice_open hMe149
                        have hv149_0 := hcc149 0 _ rfl
                        rw [Nat.add_zero, show ((Kd.slice 2 (Kd.int .i64))).sz = 1 from rfl, Nat.mul_one] at hv149_0
                        replace hv149_0 := Option.some.inj (hv149_0.symm.trans hx149_0)
                        injection hv149_0 with hva_ hvn_ hvc_
                        rw [hva_] at ge149_0
                        rw [hvc_] at ul149_0
                        have HL149_0 := Aside0.mk (show Kd.V (Kd.int .i64) 2 _ w.heap.size _ _ (rd_L1 x6_1 (ji15)) from Kd.V_mk ul149_0 ge149_0)
                        clear hva_ hvn_ hvc_ ge149_0 ul149_0
                        clear hcc149 hce149
                        have HR149_0 := Aside0.mk hi149_0
                        have HC149_0 := Aside0.mk hl149_0
                        clear hi149_0 hl149_0
                        replace p149 := eq_true p149
                        replace q149 := eq_true q149
                        have p150 : 0 ≤ ((ji18) : Int) := of_decide_eq_true (by first | (with_reducible assumption) | assumption)
                        have q150 : (ji18) < (x6_1.length : Int) := of_decide_eq_true (by first | (with_reducible assumption) | assumption)
                        obtain ⟨ad150, A150_0, c150_0, e150, hx150_0, hl150_0, hi150_0⟩ := at_L1 (Kd.N_reads' HO_6.out).2.2 (ji18) p150 q150
                        obtain rfl : ad149 = ad150 := (by injection e150)
                        obtain ⟨ce150, hce150, hMe150, hcc150⟩ := Kd.N_get HO_6.out [] (ji18) p150 (by first | exact q150 | exact of_decide_eq_true (by first | (with_reducible assumption) | assumption) | (have e_ := (Kd.N_reads' HO_6.out).1; omega))
                        obtain ⟨ua150_0, uc150_0, rfl, ul150_0, ge150_0⟩ := Kd.FK_slice_open hMe150
                        have hv150_0 := hcc150 0 _ rfl
                        rw [Nat.add_zero, show ((Kd.slice 2 (Kd.int .i64))).sz = 1 from rfl, Nat.mul_one] at hv150_0
                        replace hv150_0 := Option.some.inj (hv150_0.symm.trans hx150_0)
                        injection hv150_0 with hva_ hvn_ hvc_
                        rw [hva_] at ge150_0
                        rw [hvc_] at ul150_0
                        have HL150_0 := Aside0.mk (show Kd.V (Kd.int .i64) 2 _ w.heap.size _ _ (rd_L1 x6_1 (ji18)) from Kd.V_mk ul150_0 ge150_0)
                        clear hva_ hvn_ hvc_ ge150_0 ul150_0
                        clear hcc150 hce150
                        have HR150_0 := Aside0.mk hi150_0
                        have HC150_0 := Aside0.mk hl150_0
                        clear hi150_0 hl150_0
                        replace p150 := eq_true p150
                        replace q150 := eq_true q150
                        go_wp2
                        repeat (go_quiet (fail); try go_wp2)
                        go_loopg [11] k1 (fun kq v11 w' => ∃ (x5_2 : List Int) (x11_2 : Int), v11 = .int .i64 x11_2 ∧ Aside0 (spec_CreasesOf.l1 kq a0 x5_2 x6_1 x7_1 (rd_L1 x6_1 (ji15)) (rd_L1 x6_1 (ji18)) x11_2 = some (r1, r2)) ∧ Aside0 (kq ≤ k1) ∧ Aside0 (Kd.R (Kd.int .u8) 5 w' w.heap.size (fun _ => True) v144 x5_2) ∧ Aside0 (Kd.N (Kd.slice 2 (Kd.int .i64)) 30 w' w.heap.size (fun k_ => some k_ ≠ (v144 : Value).ownBlock) (.slice (some ad149) x6_1.length co21) x6_1) ∧ Aside0 (Kd.V (Kd.int .i64) 2 w' w.heap.size (fun k_ => some k_ ≠ (v144 : Value).ownBlock ∧ some k_ ≠ ((.slice (some ad149) x6_1.length co21) : Value).ownBlock) (.slice A149_0 (rd_L1 x6_1 (ji15)).length c149_0) (rd_L1 x6_1 (ji15))) ∧ Aside0 (Kd.V (Kd.int .i64) 2 w' w.heap.size (fun k_ => some k_ ≠ (v144 : Value).ownBlock ∧ some k_ ≠ ((.slice (some ad149) x6_1.length co21) : Value).ownBlock) (.slice A150_0 (rd_L1 x6_1 (ji18)).length c150_0) (rd_L1 x6_1 (ji18))) ∧ Aside0 (Below w.heap.size w w'))
                        case atStart => exact ⟨(x5_1), (0), (by first | rfl | (simp; done) | (simp [*]; done)), H', ⟨Nat.le_refl _⟩, ⟨by (with_reducible repeat (first | apply Kd.R_alloc | apply Kd.R_drewN | apply Kd.R_drew)); exact HO_5.out⟩, ⟨by (with_reducible repeat (first | apply Kd.N_alloc | apply Kd.N_drewN | apply Kd.N_drew)); exact HO_6.out⟩, ⟨by (with_reducible repeat (first | apply Kd.V_alloc | apply Kd.V_drewN | apply Kd.V_drew)); exact HL149_0.out⟩, ⟨by (with_reducible repeat (first | apply Kd.V_alloc | apply Kd.V_drewN | apply Kd.V_drew)); exact HL150_0.out⟩, ⟨by repeat (first | (with_reducible first | exact HB.out | apply below_alloc | apply pw_below_drewN | apply below_drew1) | exact HB.out)⟩⟩
                        case round =>
                          clear H'
                          try clear c1
                          try clear p1
                          try clear q1
                          try clear hx1
                          try clear c2
                          try clear p2
                          try clear c3
                          try clear c5
                          try clear c5b0
                          try clear c5b1
                          try clear p6
                          try clear c8
                          try clear c8b0
                          try clear c8b1
                          try clear c9
                          try clear c9b0
                          try clear c9b1
                          try clear c10
                          try clear c14
                          try clear c14b0
                          try clear p14
                          try clear q14
                          try clear hx14
                          try clear c15
                          try clear p15
                          try clear q15
                          try clear hx15
                          try clear c16
                          try clear c16b0
                          try clear c17
                          try clear c17b0
                          try clear c19
                          try clear c19b0
                          try clear c20
                          try clear c20b0
                          try clear hx149_0
                          try clear hx150_0
                          try clear p149
                          try clear p150
                          try clear p2
                          try clear p6
                          try clear q149
                          try clear q150
                          obtain ⟨x5_2, x11_2, rfl, HA, HK2, HO_5, HO_6, HO_9, HO_10, HB⟩ := hrel
                          cases gk with
                          | zero => exact absurd HA.out (by simp [spec_CreasesOf.l1])
                          | succ k2 =>
                            have H := HA.out
                            clear HA
                            simp only [spec_CreasesOf.l1] at H
                            by_cases c22 : x11_2 < ((rd_L1 x6_1 (ji15)).length : Int)
                            · rw [if_pos c22] at H
                              have c22b0 : decide (x11_2 < ((rd_L1 x6_1 (ji15)).length : Int)) = true := decide_eq_true c22
                              clear c22
                              by_cases c23 : 0 ≤ x11_2
                              · rw [if_pos c23] at H
                                have c23b0 : decide (0 ≤ x11_2) = true := decide_eq_true c23
                                clear c23
                                obtain ⟨ji24, hji24⟩ : ∃ j_ : Int, (mx (rd (rd_L1 x6_1 (ji15)) x11_2) (wrap64 (-(rd (rd_L1 x6_1 (ji15)) x11_2)))) = j_ := ⟨_, rfl⟩
                                replace H : (if x11_2 < ((rd_L1 x6_1 (ji18)).length : Int) then (if 0 ≤ (wrap64 ((mn (ji24) (mx (rd (rd_L1 x6_1 (ji18)) x11_2) (wrap64 (-(rd (rd_L1 x6_1 (ji18)) x11_2))))) - 1)) then (if (wrap64 ((mn (ji24) (mx (rd (rd_L1 x6_1 (ji18)) x11_2) (wrap64 (-(rd (rd_L1 x6_1 (ji18)) x11_2))))) - 1)) < (x5_2.length : Int) then ((some (x5_2.set ((wrap64 ((mn (ji24) (mx (rd (rd_L1 x6_1 (ji18)) x11_2) (wrap64 (-(rd (rd_L1 x6_1 (ji18)) x11_2))))) - 1)) : Int).toNat 86 : List Int)).bind fun y155 => (if (rd (rd_L1 x6_1 (ji15)) x11_2) < 0 then (spec_CreasesOf.l1 k2 a0 (y155.set ((wrap64 ((mn (ji24) (mx (rd (rd_L1 x6_1 (ji18)) x11_2) (wrap64 (-(rd (rd_L1 x6_1 (ji18)) x11_2))))) - 1)) : Int).toNat 77) x6_1 x7_1 (rd_L1 x6_1 (ji15)) (rd_L1 x6_1 (ji18)) (wrap64 (x11_2 + 1))) else (spec_CreasesOf.l1 k2 a0 y155 x6_1 x7_1 (rd_L1 x6_1 (ji15)) (rd_L1 x6_1 (ji18)) (wrap64 (x11_2 + 1))))) else (none)) else (none)) else (none)) = some (r1, r2) := by first | (rw [hji24] at H; exact H) | (simp only [hji24] at H ⊢; exact H)
                                have hji24_ : (if (rd (rd_L1 x6_1 (ji15)) x11_2) < (wrap64 (-(rd (rd_L1 x6_1 (ji15)) x11_2))) then (wrap64 (-(rd (rd_L1 x6_1 (ji15)) x11_2))) else (rd (rd_L1 x6_1 (ji15)) x11_2)) = ji24 := hji24
                                by_cases c25 : x11_2 < ((rd_L1 x6_1 (ji18)).length : Int)
                                · rw [if_pos c25] at H
                                  have c25b0 : decide (x11_2 < ((rd_L1 x6_1 (ji18)).length : Int)) = true := decide_eq_true c25
                                  clear c25
                                  obtain ⟨ji26, hji26⟩ : ∃ j_ : Int, (mx (rd (rd_L1 x6_1 (ji18)) x11_2) (wrap64 (-(rd (rd_L1 x6_1 (ji18)) x11_2)))) = j_ := ⟨_, rfl⟩
                                  replace H : (if 0 ≤ (wrap64 ((mn (ji24) (ji26)) - 1)) then (if (wrap64 ((mn (ji24) (ji26)) - 1)) < (x5_2.length : Int) then ((some (x5_2.set ((wrap64 ((mn (ji24) (ji26)) - 1)) : Int).toNat 86 : List Int)).bind fun y155 => (if (rd (rd_L1 x6_1 (ji15)) x11_2) < 0 then (spec_CreasesOf.l1 k2 a0 (y155.set ((wrap64 ((mn (ji24) (ji26)) - 1)) : Int).toNat 77) x6_1 x7_1 (rd_L1 x6_1 (ji15)) (rd_L1 x6_1 (ji18)) (wrap64 (x11_2 + 1))) else (spec_CreasesOf.l1 k2 a0 y155 x6_1 x7_1 (rd_L1 x6_1 (ji15)) (rd_L1 x6_1 (ji18)) (wrap64 (x11_2 + 1))))) else (none)) else (none)) = some (r1, r2) := by first | (rw [hji26] at H; exact H) | (simp only [hji26] at H ⊢; exact H)
                                  have hji26_ : (if (rd (rd_L1 x6_1 (ji18)) x11_2) < (wrap64 (-(rd (rd_L1 x6_1 (ji18)) x11_2))) then (wrap64 (-(rd (rd_L1 x6_1 (ji18)) x11_2))) else (rd (rd_L1 x6_1 (ji18)) x11_2)) = ji26 := hji26
                                  obtain ⟨ji27, hji27⟩ : ∃ j_ : Int, (mn (ji24) (ji26)) = j_ := ⟨_, rfl⟩
                                  replace H : (if 0 ≤ (wrap64 ((ji27) - 1)) then (if (wrap64 ((ji27) - 1)) < (x5_2.length : Int) then ((some (x5_2.set ((wrap64 ((ji27) - 1)) : Int).toNat 86 : List Int)).bind fun y155 => (if (rd (rd_L1 x6_1 (ji15)) x11_2) < 0 then (spec_CreasesOf.l1 k2 a0 (y155.set ((wrap64 ((ji27) - 1)) : Int).toNat 77) x6_1 x7_1 (rd_L1 x6_1 (ji15)) (rd_L1 x6_1 (ji18)) (wrap64 (x11_2 + 1))) else (spec_CreasesOf.l1 k2 a0 y155 x6_1 x7_1 (rd_L1 x6_1 (ji15)) (rd_L1 x6_1 (ji18)) (wrap64 (x11_2 + 1))))) else (none)) else (none)) = some (r1, r2) := by first | (rw [hji27] at H; exact H) | (simp only [hji27] at H ⊢; exact H)
                                  have hji27_ : (if (ji26) < (ji24) then (ji26) else (ji24)) = ji27 := hji27
                                  obtain ⟨ji28, hji28⟩ : ∃ j_ : Int, (wrap64 ((ji27) - 1)) = j_ := ⟨_, rfl⟩
                                  replace H : (if 0 ≤ (ji28) then (if (ji28) < (x5_2.length : Int) then ((some (x5_2.set ((ji28) : Int).toNat 86 : List Int)).bind fun y155 => (if (rd (rd_L1 x6_1 (ji15)) x11_2) < 0 then (spec_CreasesOf.l1 k2 a0 (y155.set ((ji28) : Int).toNat 77) x6_1 x7_1 (rd_L1 x6_1 (ji15)) (rd_L1 x6_1 (ji18)) (wrap64 (x11_2 + 1))) else (spec_CreasesOf.l1 k2 a0 y155 x6_1 x7_1 (rd_L1 x6_1 (ji15)) (rd_L1 x6_1 (ji18)) (wrap64 (x11_2 + 1))))) else (none)) else (none)) = some (r1, r2) := by first | (rw [hji28] at H; exact H) | (simp only [hji28] at H ⊢; exact H)
                                  have hji28w : (IntKind.i64.wrap ((ji27) - 1)) = ji28 := (i64_w _).trans hji28
                                  by_cases c29 : 0 ≤ (ji28)
                                  · rw [if_pos c29] at H
                                    have c29b0 : decide (0 ≤ (ji28)) = true := decide_eq_true c29
                                    clear c29
                                    by_cases c30 : (ji28) < (x5_2.length : Int)
                                    · rw [if_pos c30] at H
                                      have c30b0 : decide ((ji28) < (x5_2.length : Int)) = true := decide_eq_true c30
                                      clear c30
                                      obtain ⟨y155, hy155⟩ : ∃ y_ : List Int, y_ = (x5_2.set ((ji28) : Int).toNat 86) := ⟨_, rfl⟩
                                      replace H : (if (rd (rd_L1 x6_1 (ji15)) x11_2) < 0 then (spec_CreasesOf.l1 k2 a0 (y155.set ((ji28) : Int).toNat 77) x6_1 x7_1 (rd_L1 x6_1 (ji15)) (rd_L1 x6_1 (ji18)) (wrap64 (x11_2 + 1))) else (spec_CreasesOf.l1 k2 a0 y155 x6_1 x7_1 (rd_L1 x6_1 (ji15)) (rd_L1 x6_1 (ji18)) (wrap64 (x11_2 + 1)))) = some (r1, r2) := by first | (rw [hy155]; with_reducible exact H) | (have H2_ := (Option.bind_some _ _).symm.trans H; rw [hy155]; with_reducible exact H2_) | (have H2_ := (Option.bind_some _ _).symm.trans H; with_reducible exact H2_) | with_reducible exact H | (rw [hy155]; exact H) | exact H
                                      have Ny155 := Aside0.mk hy155
                                      clear hy155
                                      by_cases c32 : (rd (rd_L1 x6_1 (ji15)) x11_2) < 0
                                      · rw [if_pos c32] at H
                                        have c32b0 : decide ((rd (rd_L1 x6_1 (ji15)) x11_2) < 0) = true := decide_eq_true c32
                                        clear c32
                                        obtain ⟨y157, hy157⟩ : ∃ y_ : List Int, y_ = (y155.set ((ji28) : Int).toNat 77) := ⟨_, rfl⟩
                                        replace H : (spec_CreasesOf.l1 k2 a0 y157 x6_1 x7_1 (rd_L1 x6_1 (ji15)) (rd_L1 x6_1 (ji18)) (wrap64 (x11_2 + 1))) = some (r1, r2) := by first | (rw [hy157]; with_reducible exact H) | (have H2_ := (Option.bind_some _ _).symm.trans H; rw [hy157]; with_reducible exact H2_) | (have H2_ := (Option.bind_some _ _).symm.trans H; with_reducible exact H2_) | with_reducible exact H | (rw [hy157]; exact H) | exact H
                                        have Ny157 := Aside0.mk hy157
                                        clear hy157
                                        have H' := Aside0.mk H
                                        clear H
                                        have p151 : 0 ≤ (x11_2 : Int) := of_decide_eq_true (by first | (with_reducible assumption) | assumption)
                                        have q151 : x11_2 < ((rd_L1 x6_1 (ji15)).length : Int) := of_decide_eq_true (by first | (with_reducible assumption) | assumption)
                                        obtain ⟨ad151, e151, hx151_0⟩ := Kd.at_int (Kd.V_reads' HO_9.out).2.2 x11_2 p151 q151
                                        cases e151
                                        replace p151 := eq_true p151
                                        replace q151 := eq_true q151
                                        have p152 : 0 ≤ (x11_2 : Int) := of_decide_eq_true (by first | (with_reducible assumption) | assumption)
                                        have q152 : x11_2 < ((rd_L1 x6_1 (ji15)).length : Int) := of_decide_eq_true (by first | (with_reducible assumption) | assumption)
                                        obtain ⟨ad152, e152, hx152_0⟩ := Kd.at_int (Kd.V_reads' HO_9.out).2.2 x11_2 p152 q152
                                        obtain rfl : ad151 = ad152 := (by injection e152)
                                        replace p152 := eq_true p152
                                        replace q152 := eq_true q152
                                        have p153 : 0 ≤ (x11_2 : Int) := of_decide_eq_true (by first | (with_reducible assumption) | assumption)
                                        have q153 : x11_2 < ((rd_L1 x6_1 (ji18)).length : Int) := of_decide_eq_true (by first | (with_reducible assumption) | assumption)
                                        obtain ⟨ad153, e153, hx153_0⟩ := Kd.at_int (Kd.V_reads' HO_10.out).2.2 x11_2 p153 q153
                                        cases e153
                                        replace p153 := eq_true p153
                                        replace q153 := eq_true q153
                                        have p154 : 0 ≤ (x11_2 : Int) := of_decide_eq_true (by first | (with_reducible assumption) | assumption)
                                        have q154 : x11_2 < ((rd_L1 x6_1 (ji18)).length : Int) := of_decide_eq_true (by first | (with_reducible assumption) | assumption)
                                        obtain ⟨ad154, e154, hx154_0⟩ := Kd.at_int (Kd.V_reads' HO_10.out).2.2 x11_2 p154 q154
                                        obtain rfl : ad153 = ad154 := (by injection e154)
                                        replace p154 := eq_true p154
                                        replace q154 := eq_true q154
                                        have p31 : 0 ≤ ((ji28) : Int) := of_decide_eq_true (by first | (with_reducible assumption) | assumption)
                                        have q31 : ((ji28) : Int) < ((x5_2.length : Int) : Int) := of_decide_eq_true (by first | (with_reducible assumption) | assumption)
                                        obtain ⟨go31, co31, eo31, gb31, gl31, cl31, HG31⟩ := Kd.R_form HO_5.out (by omega)
                                        (first | cases eo31 | (injection eo31 with ea_ en_ ec_; (first | subst ea_ | (injection ea_ with ea_; subst ea_)); subst ec_; clear en_))
                                        have GB31 := Aside0.mk gb31
                                        have GG31 := Aside0.mk HG31
                                        clear gb31 gl31 HG31
                                        obtain ⟨hx31_0, hf31_0⟩ := Kd.R_celln 0 HO_5.out ((ji28) : Int) p31 q31
                                        replace p31 := eq_true p31
                                        replace q31 := eq_true q31
                                        have HP35 := Kd.R_putg HO_5.out ((ji28) : Int) 86
                                        go_wp2_with (first | ((with_reducible refine gate_store (t := 5) (p := 76) rfl ?_); (try (rw [drewN_self wr]; generalize hq_ : World.drewN wr _ = wr; have n0_ := Aside0.mk (Kd.R_at hq_ HO_5.out); have n1_ := Aside0.mk (Kd.N_at hq_ HO_6.out); have n2_ := Aside0.mk (Kd.V_below HO_9.out (below_at hq_ (Below.refl _ _))); have n3_ := Aside0.mk (Kd.V_below HO_10.out (below_at hq_ (Below.refl _ _))); have n4_ := Aside0.mk (below_at hq_ HB.out); clear hq_ HO_5 HO_6 HO_9 HO_10 HB; have HO_5 := n0_; have HO_6 := n1_; have HO_9 := n2_; have HO_10 := n3_; have HB := n4_; clear n0_ n1_ n2_ n3_ n4_; (try (obtain ⟨hyd_, hzd_⟩ := Kd.R_celln 0 HO_5.out ((ji28) : Int) (of_decide_eq_true (by first | (with_reducible assumption) | assumption)) (of_decide_eq_true (by first | (with_reducible assumption) | assumption)))); (try (have HP35 := Kd.R_putg HO_5.out ((ji28) : Int) 86)))); refine store_event (t := 5) (p := 76) (v := ?vo_w36) (w1 := (wr.setCell ⟨go31, ((ji28) : Int).toNat, none⟩ (.int .u8 86))) ?hg ?ho ?hn ?hr ?_; (case ho => rfl); (case hg => rfl); (case hn => rfl); (case hr => first | (go_simp; done) | (go_simp; rfl)); intro w36 hw; have hg : wr.grownBy w36 (some go31) := (by rw [hw]; exact HP35.2); have hp_ : Kd.R (Kd.int .u8) 5 w36 w.heap.size (fun _ => True) (.slice (some ⟨go31, 0, none⟩) x5_2.length co31) y155 := (by rw [hw, Ny155.out]; exact HP35.1); clear HP35; have n0_ := Aside0.mk (hp_); have n1_ := Aside0.mk (Kd.N_afterv (v := (.slice (some ⟨go31, 0, none⟩) x5_2.length co31)) (v1 := (.slice (some ⟨go31, 0, none⟩) x5_2.length co31)) (ok := (fun _ => True)) (by (with_reducible repeat (first | apply Kd.N_alloc | apply Kd.N_drewN | apply Kd.N_drew)); exact Kd.N_mono HO_6.out (fun _ hk => ⟨trivial, hk⟩)) hg (.inl rfl)); have n2_ := Aside0.mk (Kd.V_afterv (v := (.slice (some ⟨go31, 0, none⟩) x5_2.length co31)) (v1 := (.slice (some ⟨go31, 0, none⟩) x5_2.length co31)) (ok := (fun k_ => some k_ ≠ (.slice (some ad149) x6_1.length co21 : Value).ownBlock)) (by (with_reducible repeat (first | apply Kd.V_alloc | apply Kd.V_drewN | apply Kd.V_drew)); exact Kd.V_mono HO_9.out (fun _ hk => ⟨hk.2, hk.1⟩)) hg (.inl rfl)); have n3_ := Aside0.mk (Kd.V_afterv (v := (.slice (some ⟨go31, 0, none⟩) x5_2.length co31)) (v1 := (.slice (some ⟨go31, 0, none⟩) x5_2.length co31)) (ok := (fun k_ => some k_ ≠ (.slice (some ad149) x6_1.length co21 : Value).ownBlock)) (by (with_reducible repeat (first | apply Kd.V_alloc | apply Kd.V_drewN | apply Kd.V_drew)); exact Kd.V_mono HO_10.out (fun _ hk => ⟨hk.2, hk.1⟩)) hg (.inl rfl)); have n4_ := Aside0.mk ((by rw [hw]; exact below_set (HB.out) GB31.out : Below w.heap.size w w36)); clear HO_5; clear HO_6; clear HO_9; clear HO_10; clear HB; have HO_5 := n0_; have HO_6 := n1_; have HO_9 := n2_; have HO_10 := n3_; have HB := n4_; clear n0_ n1_ n2_ n3_ n4_; clear hg hw hp_; have p156 : 0 ≤ (x11_2 : Int) := of_decide_eq_true (by first | (with_reducible assumption) | assumption); have q156 : x11_2 < ((rd_L1 x6_1 (ji15)).length : Int) := of_decide_eq_true (by first | (with_reducible assumption) | assumption); obtain ⟨ad156, e156, hx156_0⟩ := Kd.at_int (Kd.V_reads' HO_9.out).2.2 x11_2 p156 q156; obtain rfl : ad151 = ad156 := (by injection e156); replace p156 := eq_true p156; replace q156 := eq_true q156; have p34 : 0 ≤ ((ji28) : Int) := of_decide_eq_true (by first | (with_reducible assumption) | assumption); have q34 : ((ji28) : Int) < ((x5_2.length : Int) : Int) := of_decide_eq_true (by first | (with_reducible assumption) | assumption); obtain ⟨hx34_0, hf34_0⟩ := Kd.R_celln 0 HO_5.out ((ji28) : Int) p34 q34; replace p34 := eq_true p34; replace q34 := eq_true q34; obtain ⟨hy37_, hz37_⟩ := Kd.R_celln 0 HO_5.out ((ji28) : Int) (of_decide_eq_true (by first | (with_reducible assumption) | assumption)) (of_decide_eq_true (by first | (with_reducible assumption) | assumption)); have HP37 := Kd.R_putg HO_5.out ((ji28) : Int) 77) | ((with_reducible refine gate_store (t := 5) (p := 87) rfl ?_); (try (rw [drewN_self w36]; generalize hq_ : World.drewN w36 _ = w36; have n0_ := Aside0.mk (Kd.R_at hq_ HO_5.out); have n1_ := Aside0.mk (Kd.N_at hq_ HO_6.out); have n2_ := Aside0.mk (Kd.V_below HO_9.out (below_at hq_ (Below.refl _ _))); have n3_ := Aside0.mk (Kd.V_below HO_10.out (below_at hq_ (Below.refl _ _))); have n4_ := Aside0.mk (below_at hq_ HB.out); clear hq_ HO_5 HO_6 HO_9 HO_10 HB; have HO_5 := n0_; have HO_6 := n1_; have HO_9 := n2_; have HO_10 := n3_; have HB := n4_; clear n0_ n1_ n2_ n3_ n4_; (try (obtain ⟨hy37_, hz37_⟩ := Kd.R_celln 0 HO_5.out ((ji28) : Int) (of_decide_eq_true (by first | (with_reducible assumption) | assumption)) (of_decide_eq_true (by first | (with_reducible assumption) | assumption)))); (try (have HP37 := Kd.R_putg HO_5.out ((ji28) : Int) 77)))); refine store_event (t := 5) (p := 87) (v := ?vo_w38) (w1 := (w36.setCell ⟨go31, ((ji28) : Int).toNat, none⟩ (.int .u8 77))) ?hg ?ho ?hn ?hr ?_; (case ho => rfl); (case hg => rfl); (case hn => rfl); (case hr => first | (go_simp; done) | (go_simp; rfl)); intro w38 hw; have hg : w36.grownBy w38 (some go31) := (by rw [hw]; exact HP37.2); have hp_ : Kd.R (Kd.int .u8) 5 w38 w.heap.size (fun _ => True) (.slice (some ⟨go31, 0, none⟩) x5_2.length co31) y157 := (by rw [hw, Ny157.out]; exact HP37.1); clear HP37; have n0_ := Aside0.mk (hp_); have n1_ := Aside0.mk (Kd.N_afterv (v := (.slice (some ⟨go31, 0, none⟩) x5_2.length co31)) (v1 := (.slice (some ⟨go31, 0, none⟩) x5_2.length co31)) (ok := (fun _ => True)) (by (with_reducible repeat (first | apply Kd.N_alloc | apply Kd.N_drewN | apply Kd.N_drew)); exact HO_6.out) hg (.inl rfl)); have n2_ := Aside0.mk (Kd.V_afterv (v := (.slice (some ⟨go31, 0, none⟩) x5_2.length co31)) (v1 := (.slice (some ⟨go31, 0, none⟩) x5_2.length co31)) (ok := (fun k_ => some k_ ≠ (.slice (some ad149) x6_1.length co21 : Value).ownBlock)) (by (with_reducible repeat (first | apply Kd.V_alloc | apply Kd.V_drewN | apply Kd.V_drew)); exact HO_9.out) hg (.inl rfl)); have n3_ := Aside0.mk (Kd.V_afterv (v := (.slice (some ⟨go31, 0, none⟩) x5_2.length co31)) (v1 := (.slice (some ⟨go31, 0, none⟩) x5_2.length co31)) (ok := (fun k_ => some k_ ≠ (.slice (some ad149) x6_1.length co21 : Value).ownBlock)) (by (with_reducible repeat (first | apply Kd.V_alloc | apply Kd.V_drewN | apply Kd.V_drew)); exact HO_10.out) hg (.inl rfl)); have n4_ := Aside0.mk ((by rw [hw]; exact below_set (HB.out) GB31.out : Below w.heap.size w w38)); clear HO_5; clear HO_6; clear HO_9; clear HO_10; clear HB; have HO_5 := n0_; have HO_6 := n1_; have HO_9 := n2_; have HO_10 := n3_; have HB := n4_; clear n0_ n1_ n2_ n3_ n4_; clear hg hw hp_))
                                        repeat (go_quiet (first | ((with_reducible refine gate_store (t := 5) (p := 76) rfl ?_); (try (rw [drewN_self wr]; generalize hq_ : World.drewN wr _ = wr; have n0_ := Aside0.mk (Kd.R_at hq_ HO_5.out); have n1_ := Aside0.mk (Kd.N_at hq_ HO_6.out); have n2_ := Aside0.mk (Kd.V_below HO_9.out (below_at hq_ (Below.refl _ _))); have n3_ := Aside0.mk (Kd.V_below HO_10.out (below_at hq_ (Below.refl _ _))); have n4_ := Aside0.mk (below_at hq_ HB.out); clear hq_ HO_5 HO_6 HO_9 HO_10 HB; have HO_5 := n0_; have HO_6 := n1_; have HO_9 := n2_; have HO_10 := n3_; have HB := n4_; clear n0_ n1_ n2_ n3_ n4_; (try (obtain ⟨hyd_, hzd_⟩ := Kd.R_celln 0 HO_5.out ((ji28) : Int) (of_decide_eq_true (by first | (with_reducible assumption) | assumption)) (of_decide_eq_true (by first | (with_reducible assumption) | assumption)))); (try (have HP35 := Kd.R_putg HO_5.out ((ji28) : Int) 86)))); refine store_event (t := 5) (p := 76) (v := ?vo_w36) (w1 := (wr.setCell ⟨go31, ((ji28) : Int).toNat, none⟩ (.int .u8 86))) ?hg ?ho ?hn ?hr ?_; (case ho => rfl); (case hg => rfl); (case hn => rfl); (case hr => first | (go_simp; done) | (go_simp; rfl)); intro w36 hw; have hg : wr.grownBy w36 (some go31) := (by rw [hw]; exact HP35.2); have hp_ : Kd.R (Kd.int .u8) 5 w36 w.heap.size (fun _ => True) (.slice (some ⟨go31, 0, none⟩) x5_2.length co31) y155 := (by rw [hw, Ny155.out]; exact HP35.1); clear HP35; have n0_ := Aside0.mk (hp_); have n1_ := Aside0.mk (Kd.N_afterv (v := (.slice (some ⟨go31, 0, none⟩) x5_2.length co31)) (v1 := (.slice (some ⟨go31, 0, none⟩) x5_2.length co31)) (ok := (fun _ => True)) (by (with_reducible repeat (first | apply Kd.N_alloc | apply Kd.N_drewN | apply Kd.N_drew)); exact Kd.N_mono HO_6.out (fun _ hk => ⟨trivial, hk⟩)) hg (.inl rfl)); have n2_ := Aside0.mk (Kd.V_afterv (v := (.slice (some ⟨go31, 0, none⟩) x5_2.length co31)) (v1 := (.slice (some ⟨go31, 0, none⟩) x5_2.length co31)) (ok := (fun k_ => some k_ ≠ (.slice (some ad149) x6_1.length co21 : Value).ownBlock)) (by (with_reducible repeat (first | apply Kd.V_alloc | apply Kd.V_drewN | apply Kd.V_drew)); exact Kd.V_mono HO_9.out (fun _ hk => ⟨hk.2, hk.1⟩)) hg (.inl rfl)); have n3_ := Aside0.mk (Kd.V_afterv (v := (.slice (some ⟨go31, 0, none⟩) x5_2.length co31)) (v1 := (.slice (some ⟨go31, 0, none⟩) x5_2.length co31)) (ok := (fun k_ => some k_ ≠ (.slice (some ad149) x6_1.length co21 : Value).ownBlock)) (by (with_reducible repeat (first | apply Kd.V_alloc | apply Kd.V_drewN | apply Kd.V_drew)); exact Kd.V_mono HO_10.out (fun _ hk => ⟨hk.2, hk.1⟩)) hg (.inl rfl)); have n4_ := Aside0.mk ((by rw [hw]; exact below_set (HB.out) GB31.out : Below w.heap.size w w36)); clear HO_5; clear HO_6; clear HO_9; clear HO_10; clear HB; have HO_5 := n0_; have HO_6 := n1_; have HO_9 := n2_; have HO_10 := n3_; have HB := n4_; clear n0_ n1_ n2_ n3_ n4_; clear hg hw hp_; have p156 : 0 ≤ (x11_2 : Int) := of_decide_eq_true (by first | (with_reducible assumption) | assumption); have q156 : x11_2 < ((rd_L1 x6_1 (ji15)).length : Int) := of_decide_eq_true (by first | (with_reducible assumption) | assumption); obtain ⟨ad156, e156, hx156_0⟩ := Kd.at_int (Kd.V_reads' HO_9.out).2.2 x11_2 p156 q156; obtain rfl : ad151 = ad156 := (by injection e156); replace p156 := eq_true p156; replace q156 := eq_true q156; have p34 : 0 ≤ ((ji28) : Int) := of_decide_eq_true (by first | (with_reducible assumption) | assumption); have q34 : ((ji28) : Int) < ((x5_2.length : Int) : Int) := of_decide_eq_true (by first | (with_reducible assumption) | assumption); obtain ⟨hx34_0, hf34_0⟩ := Kd.R_celln 0 HO_5.out ((ji28) : Int) p34 q34; replace p34 := eq_true p34; replace q34 := eq_true q34; obtain ⟨hy37_, hz37_⟩ := Kd.R_celln 0 HO_5.out ((ji28) : Int) (of_decide_eq_true (by first | (with_reducible assumption) | assumption)) (of_decide_eq_true (by first | (with_reducible assumption) | assumption)); have HP37 := Kd.R_putg HO_5.out ((ji28) : Int) 77) | ((with_reducible refine gate_store (t := 5) (p := 87) rfl ?_); (try (rw [drewN_self w36]; generalize hq_ : World.drewN w36 _ = w36; have n0_ := Aside0.mk (Kd.R_at hq_ HO_5.out); have n1_ := Aside0.mk (Kd.N_at hq_ HO_6.out); have n2_ := Aside0.mk (Kd.V_below HO_9.out (below_at hq_ (Below.refl _ _))); have n3_ := Aside0.mk (Kd.V_below HO_10.out (below_at hq_ (Below.refl _ _))); have n4_ := Aside0.mk (below_at hq_ HB.out); clear hq_ HO_5 HO_6 HO_9 HO_10 HB; have HO_5 := n0_; have HO_6 := n1_; have HO_9 := n2_; have HO_10 := n3_; have HB := n4_; clear n0_ n1_ n2_ n3_ n4_; (try (obtain ⟨hy37_, hz37_⟩ := Kd.R_celln 0 HO_5.out ((ji28) : Int) (of_decide_eq_true (by first | (with_reducible assumption) | assumption)) (of_decide_eq_true (by first | (with_reducible assumption) | assumption)))); (try (have HP37 := Kd.R_putg HO_5.out ((ji28) : Int) 77)))); refine store_event (t := 5) (p := 87) (v := ?vo_w38) (w1 := (w36.setCell ⟨go31, ((ji28) : Int).toNat, none⟩ (.int .u8 77))) ?hg ?ho ?hn ?hr ?_; (case ho => rfl); (case hg => rfl); (case hn => rfl); (case hr => first | (go_simp; done) | (go_simp; rfl)); intro w38 hw; have hg : w36.grownBy w38 (some go31) := (by rw [hw]; exact HP37.2); have hp_ : Kd.R (Kd.int .u8) 5 w38 w.heap.size (fun _ => True) (.slice (some ⟨go31, 0, none⟩) x5_2.length co31) y157 := (by rw [hw, Ny157.out]; exact HP37.1); clear HP37; have n0_ := Aside0.mk (hp_); have n1_ := Aside0.mk (Kd.N_afterv (v := (.slice (some ⟨go31, 0, none⟩) x5_2.length co31)) (v1 := (.slice (some ⟨go31, 0, none⟩) x5_2.length co31)) (ok := (fun _ => True)) (by (with_reducible repeat (first | apply Kd.N_alloc | apply Kd.N_drewN | apply Kd.N_drew)); exact HO_6.out) hg (.inl rfl)); have n2_ := Aside0.mk (Kd.V_afterv (v := (.slice (some ⟨go31, 0, none⟩) x5_2.length co31)) (v1 := (.slice (some ⟨go31, 0, none⟩) x5_2.length co31)) (ok := (fun k_ => some k_ ≠ (.slice (some ad149) x6_1.length co21 : Value).ownBlock)) (by (with_reducible repeat (first | apply Kd.V_alloc | apply Kd.V_drewN | apply Kd.V_drew)); exact HO_9.out) hg (.inl rfl)); have n3_ := Aside0.mk (Kd.V_afterv (v := (.slice (some ⟨go31, 0, none⟩) x5_2.length co31)) (v1 := (.slice (some ⟨go31, 0, none⟩) x5_2.length co31)) (ok := (fun k_ => some k_ ≠ (.slice (some ad149) x6_1.length co21 : Value).ownBlock)) (by (with_reducible repeat (first | apply Kd.V_alloc | apply Kd.V_drewN | apply Kd.V_drew)); exact HO_10.out) hg (.inl rfl)); have n4_ := Aside0.mk ((by rw [hw]; exact below_set (HB.out) GB31.out : Below w.heap.size w w38)); clear HO_5; clear HO_6; clear HO_9; clear HO_10; clear HB; have HO_5 := n0_; have HO_6 := n1_; have HO_9 := n2_; have HO_10 := n3_; have HB := n4_; clear n0_ n1_ n2_ n3_ n4_; clear hg hw hp_)); try go_wp2_with (first | ((with_reducible refine gate_store (t := 5) (p := 76) rfl ?_); (try (rw [drewN_self wr]; generalize hq_ : World.drewN wr _ = wr; have n0_ := Aside0.mk (Kd.R_at hq_ HO_5.out); have n1_ := Aside0.mk (Kd.N_at hq_ HO_6.out); have n2_ := Aside0.mk (Kd.V_below HO_9.out (below_at hq_ (Below.refl _ _))); have n3_ := Aside0.mk (Kd.V_below HO_10.out (below_at hq_ (Below.refl _ _))); have n4_ := Aside0.mk (below_at hq_ HB.out); clear hq_ HO_5 HO_6 HO_9 HO_10 HB; have HO_5 := n0_; have HO_6 := n1_; have HO_9 := n2_; have HO_10 := n3_; have HB := n4_; clear n0_ n1_ n2_ n3_ n4_; (try (obtain ⟨hyd_, hzd_⟩ := Kd.R_celln 0 HO_5.out ((ji28) : Int) (of_decide_eq_true (by first | (with_reducible assumption) | assumption)) (of_decide_eq_true (by first | (with_reducible assumption) | assumption)))); (try (have HP35 := Kd.R_putg HO_5.out ((ji28) : Int) 86)))); refine store_event (t := 5) (p := 76) (v := ?vo_w36) (w1 := (wr.setCell ⟨go31, ((ji28) : Int).toNat, none⟩ (.int .u8 86))) ?hg ?ho ?hn ?hr ?_; (case ho => rfl); (case hg => rfl); (case hn => rfl); (case hr => first | (go_simp; done) | (go_simp; rfl)); intro w36 hw; have hg : wr.grownBy w36 (some go31) := (by rw [hw]; exact HP35.2); have hp_ : Kd.R (Kd.int .u8) 5 w36 w.heap.size (fun _ => True) (.slice (some ⟨go31, 0, none⟩) x5_2.length co31) y155 := (by rw [hw, Ny155.out]; exact HP35.1); clear HP35; have n0_ := Aside0.mk (hp_); have n1_ := Aside0.mk (Kd.N_afterv (v := (.slice (some ⟨go31, 0, none⟩) x5_2.length co31)) (v1 := (.slice (some ⟨go31, 0, none⟩) x5_2.length co31)) (ok := (fun _ => True)) (by (with_reducible repeat (first | apply Kd.N_alloc | apply Kd.N_drewN | apply Kd.N_drew)); exact Kd.N_mono HO_6.out (fun _ hk => ⟨trivial, hk⟩)) hg (.inl rfl)); have n2_ := Aside0.mk (Kd.V_afterv (v := (.slice (some ⟨go31, 0, none⟩) x5_2.length co31)) (v1 := (.slice (some ⟨go31, 0, none⟩) x5_2.length co31)) (ok := (fun k_ => some k_ ≠ (.slice (some ad149) x6_1.length co21 : Value).ownBlock)) (by (with_reducible repeat (first | apply Kd.V_alloc | apply Kd.V_drewN | apply Kd.V_drew)); exact Kd.V_mono HO_9.out (fun _ hk => ⟨hk.2, hk.1⟩)) hg (.inl rfl)); have n3_ := Aside0.mk (Kd.V_afterv (v := (.slice (some ⟨go31, 0, none⟩) x5_2.length co31)) (v1 := (.slice (some ⟨go31, 0, none⟩) x5_2.length co31)) (ok := (fun k_ => some k_ ≠ (.slice (some ad149) x6_1.length co21 : Value).ownBlock)) (by (with_reducible repeat (first | apply Kd.V_alloc | apply Kd.V_drewN | apply Kd.V_drew)); exact Kd.V_mono HO_10.out (fun _ hk => ⟨hk.2, hk.1⟩)) hg (.inl rfl)); have n4_ := Aside0.mk ((by rw [hw]; exact below_set (HB.out) GB31.out : Below w.heap.size w w36)); clear HO_5; clear HO_6; clear HO_9; clear HO_10; clear HB; have HO_5 := n0_; have HO_6 := n1_; have HO_9 := n2_; have HO_10 := n3_; have HB := n4_; clear n0_ n1_ n2_ n3_ n4_; clear hg hw hp_; have p156 : 0 ≤ (x11_2 : Int) := of_decide_eq_true (by first | (with_reducible assumption) | assumption); have q156 : x11_2 < ((rd_L1 x6_1 (ji15)).length : Int) := of_decide_eq_true (by first | (with_reducible assumption) | assumption); obtain ⟨ad156, e156, hx156_0⟩ := Kd.at_int (Kd.V_reads' HO_9.out).2.2 x11_2 p156 q156; obtain rfl : ad151 = ad156 := (by injection e156); replace p156 := eq_true p156; replace q156 := eq_true q156; have p34 : 0 ≤ ((ji28) : Int) := of_decide_eq_true (by first | (with_reducible assumption) | assumption); have q34 : ((ji28) : Int) < ((x5_2.length : Int) : Int) := of_decide_eq_true (by first | (with_reducible assumption) | assumption); obtain ⟨hx34_0, hf34_0⟩ := Kd.R_celln 0 HO_5.out ((ji28) : Int) p34 q34; replace p34 := eq_true p34; replace q34 := eq_true q34; obtain ⟨hy37_, hz37_⟩ := Kd.R_celln 0 HO_5.out ((ji28) : Int) (of_decide_eq_true (by first | (with_reducible assumption) | assumption)) (of_decide_eq_true (by first | (with_reducible assumption) | assumption)); have HP37 := Kd.R_putg HO_5.out ((ji28) : Int) 77) | ((with_reducible refine gate_store (t := 5) (p := 87) rfl ?_); (try (rw [drewN_self w36]; generalize hq_ : World.drewN w36 _ = w36; have n0_ := Aside0.mk (Kd.R_at hq_ HO_5.out); have n1_ := Aside0.mk (Kd.N_at hq_ HO_6.out); have n2_ := Aside0.mk (Kd.V_below HO_9.out (below_at hq_ (Below.refl _ _))); have n3_ := Aside0.mk (Kd.V_below HO_10.out (below_at hq_ (Below.refl _ _))); have n4_ := Aside0.mk (below_at hq_ HB.out); clear hq_ HO_5 HO_6 HO_9 HO_10 HB; have HO_5 := n0_; have HO_6 := n1_; have HO_9 := n2_; have HO_10 := n3_; have HB := n4_; clear n0_ n1_ n2_ n3_ n4_; (try (obtain ⟨hy37_, hz37_⟩ := Kd.R_celln 0 HO_5.out ((ji28) : Int) (of_decide_eq_true (by first | (with_reducible assumption) | assumption)) (of_decide_eq_true (by first | (with_reducible assumption) | assumption)))); (try (have HP37 := Kd.R_putg HO_5.out ((ji28) : Int) 77)))); refine store_event (t := 5) (p := 87) (v := ?vo_w38) (w1 := (w36.setCell ⟨go31, ((ji28) : Int).toNat, none⟩ (.int .u8 77))) ?hg ?ho ?hn ?hr ?_; (case ho => rfl); (case hg => rfl); (case hn => rfl); (case hr => first | (go_simp; done) | (go_simp; rfl)); intro w38 hw; have hg : w36.grownBy w38 (some go31) := (by rw [hw]; exact HP37.2); have hp_ : Kd.R (Kd.int .u8) 5 w38 w.heap.size (fun _ => True) (.slice (some ⟨go31, 0, none⟩) x5_2.length co31) y157 := (by rw [hw, Ny157.out]; exact HP37.1); clear HP37; have n0_ := Aside0.mk (hp_); have n1_ := Aside0.mk (Kd.N_afterv (v := (.slice (some ⟨go31, 0, none⟩) x5_2.length co31)) (v1 := (.slice (some ⟨go31, 0, none⟩) x5_2.length co31)) (ok := (fun _ => True)) (by (with_reducible repeat (first | apply Kd.N_alloc | apply Kd.N_drewN | apply Kd.N_drew)); exact HO_6.out) hg (.inl rfl)); have n2_ := Aside0.mk (Kd.V_afterv (v := (.slice (some ⟨go31, 0, none⟩) x5_2.length co31)) (v1 := (.slice (some ⟨go31, 0, none⟩) x5_2.length co31)) (ok := (fun k_ => some k_ ≠ (.slice (some ad149) x6_1.length co21 : Value).ownBlock)) (by (with_reducible repeat (first | apply Kd.V_alloc | apply Kd.V_drewN | apply Kd.V_drew)); exact HO_9.out) hg (.inl rfl)); have n3_ := Aside0.mk (Kd.V_afterv (v := (.slice (some ⟨go31, 0, none⟩) x5_2.length co31)) (v1 := (.slice (some ⟨go31, 0, none⟩) x5_2.length co31)) (ok := (fun k_ => some k_ ≠ (.slice (some ad149) x6_1.length co21 : Value).ownBlock)) (by (with_reducible repeat (first | apply Kd.V_alloc | apply Kd.V_drewN | apply Kd.V_drew)); exact HO_10.out) hg (.inl rfl)); have n4_ := Aside0.mk ((by rw [hw]; exact below_set (HB.out) GB31.out : Below w.heap.size w w38)); clear HO_5; clear HO_6; clear HO_9; clear HO_10; clear HB; have HO_5 := n0_; have HO_6 := n1_; have HO_9 := n2_; have HO_10 := n3_; have HB := n4_; clear n0_ n1_ n2_ n3_ n4_; clear hg hw hp_)))
                                        (try subst hji18)
                                        go_roundg k2
                                        case measure => have := HK1.out; have := HK2.out; omega
                                        case rel => exact ⟨(y157), (wrap64 (x11_2 + 1)), (by first | rfl | (simp; done) | (simp [*]; done)), H', ⟨by have := HK1.out; have := HK2.out; omega⟩, ⟨by (with_reducible repeat (first | apply Kd.R_alloc | apply Kd.R_drewN | apply Kd.R_drew)); exact HO_5.out⟩, ⟨by (with_reducible repeat (first | apply Kd.N_alloc | apply Kd.N_drewN | apply Kd.N_drew)); exact Kd.N_mono HO_6.out (fun _ hk => hk.2)⟩, ⟨by (with_reducible repeat (first | apply Kd.V_alloc | apply Kd.V_drewN | apply Kd.V_drew)); exact Kd.V_mono HO_9.out (fun _ hk => ⟨hk.2, hk.1⟩)⟩, ⟨by (with_reducible repeat (first | apply Kd.V_alloc | apply Kd.V_drewN | apply Kd.V_drew)); exact Kd.V_mono HO_10.out (fun _ hk => ⟨hk.2, hk.1⟩)⟩, ⟨by repeat (first | (with_reducible first | exact HB.out | apply below_alloc | apply pw_below_drewN | apply below_drew1) | exact HB.out)⟩⟩
                                      · rw [if_neg c32] at H
                                        have c32b0 : decide ((rd (rd_L1 x6_1 (ji15)) x11_2) < 0) = false := decide_eq_false c32
                                        clear c32
                                        have H' := Aside0.mk H
                                        clear H
                                        have p151 : 0 ≤ (x11_2 : Int) := of_decide_eq_true (by first | (with_reducible assumption) | assumption)
                                        have q151 : x11_2 < ((rd_L1 x6_1 (ji15)).length : Int) := of_decide_eq_true (by first | (with_reducible assumption) | assumption)
                                        obtain ⟨ad151, e151, hx151_0⟩ := Kd.at_int (Kd.V_reads' HO_9.out).2.2 x11_2 p151 q151
                                        cases e151
                                        replace p151 := eq_true p151
                                        replace q151 := eq_true q151
                                        have p152 : 0 ≤ (x11_2 : Int) := of_decide_eq_true (by first | (with_reducible assumption) | assumption)
                                        have q152 : x11_2 < ((rd_L1 x6_1 (ji15)).length : Int) := of_decide_eq_true (by first | (with_reducible assumption) | assumption)
                                        obtain ⟨ad152, e152, hx152_0⟩ := Kd.at_int (Kd.V_reads' HO_9.out).2.2 x11_2 p152 q152
                                        obtain rfl : ad151 = ad152 := (by injection e152)
                                        replace p152 := eq_true p152
                                        replace q152 := eq_true q152
                                        have p153 : 0 ≤ (x11_2 : Int) := of_decide_eq_true (by first | (with_reducible assumption) | assumption)
                                        have q153 : x11_2 < ((rd_L1 x6_1 (ji18)).length : Int) := of_decide_eq_true (by first | (with_reducible assumption) | assumption)
                                        obtain ⟨ad153, e153, hx153_0⟩ := Kd.at_int (Kd.V_reads' HO_10.out).2.2 x11_2 p153 q153
                                        cases e153
                                        replace p153 := eq_true p153
                                        replace q153 := eq_true q153
                                        have p154 : 0 ≤ (x11_2 : Int) := of_decide_eq_true (by first | (with_reducible assumption) | assumption)
                                        have q154 : x11_2 < ((rd_L1 x6_1 (ji18)).length : Int) := of_decide_eq_true (by first | (with_reducible assumption) | assumption)
                                        obtain ⟨ad154, e154, hx154_0⟩ := Kd.at_int (Kd.V_reads' HO_10.out).2.2 x11_2 p154 q154
                                        obtain rfl : ad153 = ad154 := (by injection e154)
                                        replace p154 := eq_true p154
                                        replace q154 := eq_true q154
                                        have p31 : 0 ≤ ((ji28) : Int) := of_decide_eq_true (by first | (with_reducible assumption) | assumption)
                                        have q31 : ((ji28) : Int) < ((x5_2.length : Int) : Int) := of_decide_eq_true (by first | (with_reducible assumption) | assumption)
                                        obtain ⟨go31, co31, eo31, gb31, gl31, cl31, HG31⟩ := Kd.R_form HO_5.out (by omega)
                                        (first | cases eo31 | (injection eo31 with ea_ en_ ec_; (first | subst ea_ | (injection ea_ with ea_; subst ea_)); subst ec_; clear en_))
                                        have GB31 := Aside0.mk gb31
                                        have GG31 := Aside0.mk HG31
                                        clear gb31 gl31 HG31
                                        obtain ⟨hx31_0, hf31_0⟩ := Kd.R_celln 0 HO_5.out ((ji28) : Int) p31 q31
                                        replace p31 := eq_true p31
                                        replace q31 := eq_true q31
                                        have HP39 := Kd.R_putg HO_5.out ((ji28) : Int) 86
                                        go_wp2_with (first | ((with_reducible refine gate_store (t := 5) (p := 76) rfl ?_); (try (rw [drewN_self wr]; generalize hq_ : World.drewN wr _ = wr; have n0_ := Aside0.mk (Kd.R_at hq_ HO_5.out); have n1_ := Aside0.mk (Kd.N_at hq_ HO_6.out); have n2_ := Aside0.mk (Kd.V_below HO_9.out (below_at hq_ (Below.refl _ _))); have n3_ := Aside0.mk (Kd.V_below HO_10.out (below_at hq_ (Below.refl _ _))); have n4_ := Aside0.mk (below_at hq_ HB.out); clear hq_ HO_5 HO_6 HO_9 HO_10 HB; have HO_5 := n0_; have HO_6 := n1_; have HO_9 := n2_; have HO_10 := n3_; have HB := n4_; clear n0_ n1_ n2_ n3_ n4_; (try (obtain ⟨hyd_, hzd_⟩ := Kd.R_celln 0 HO_5.out ((ji28) : Int) (of_decide_eq_true (by first | (with_reducible assumption) | assumption)) (of_decide_eq_true (by first | (with_reducible assumption) | assumption)))); (try (have HP39 := Kd.R_putg HO_5.out ((ji28) : Int) 86)))); refine store_event (t := 5) (p := 76) (v := ?vo_w40) (w1 := (wr.setCell ⟨go31, ((ji28) : Int).toNat, none⟩ (.int .u8 86))) ?hg ?ho ?hn ?hr ?_; (case ho => rfl); (case hg => rfl); (case hn => rfl); (case hr => first | (go_simp; done) | (go_simp; rfl)); intro w40 hw; have hg : wr.grownBy w40 (some go31) := (by rw [hw]; exact HP39.2); have hp_ : Kd.R (Kd.int .u8) 5 w40 w.heap.size (fun _ => True) (.slice (some ⟨go31, 0, none⟩) x5_2.length co31) y155 := (by rw [hw, Ny155.out]; exact HP39.1); clear HP39; have n0_ := Aside0.mk (hp_); have n1_ := Aside0.mk (Kd.N_afterv (v := (.slice (some ⟨go31, 0, none⟩) x5_2.length co31)) (v1 := (.slice (some ⟨go31, 0, none⟩) x5_2.length co31)) (ok := (fun _ => True)) (by (with_reducible repeat (first | apply Kd.N_alloc | apply Kd.N_drewN | apply Kd.N_drew)); exact Kd.N_mono HO_6.out (fun _ hk => ⟨trivial, hk⟩)) hg (.inl rfl)); have n2_ := Aside0.mk (Kd.V_afterv (v := (.slice (some ⟨go31, 0, none⟩) x5_2.length co31)) (v1 := (.slice (some ⟨go31, 0, none⟩) x5_2.length co31)) (ok := (fun k_ => some k_ ≠ (.slice (some ad149) x6_1.length co21 : Value).ownBlock)) (by (with_reducible repeat (first | apply Kd.V_alloc | apply Kd.V_drewN | apply Kd.V_drew)); exact Kd.V_mono HO_9.out (fun _ hk => ⟨hk.2, hk.1⟩)) hg (.inl rfl)); have n3_ := Aside0.mk (Kd.V_afterv (v := (.slice (some ⟨go31, 0, none⟩) x5_2.length co31)) (v1 := (.slice (some ⟨go31, 0, none⟩) x5_2.length co31)) (ok := (fun k_ => some k_ ≠ (.slice (some ad149) x6_1.length co21 : Value).ownBlock)) (by (with_reducible repeat (first | apply Kd.V_alloc | apply Kd.V_drewN | apply Kd.V_drew)); exact Kd.V_mono HO_10.out (fun _ hk => ⟨hk.2, hk.1⟩)) hg (.inl rfl)); have n4_ := Aside0.mk ((by rw [hw]; exact below_set (HB.out) GB31.out : Below w.heap.size w w40)); clear HO_5; clear HO_6; clear HO_9; clear HO_10; clear HB; have HO_5 := n0_; have HO_6 := n1_; have HO_9 := n2_; have HO_10 := n3_; have HB := n4_; clear n0_ n1_ n2_ n3_ n4_; clear hg hw hp_; have p156 : 0 ≤ (x11_2 : Int) := of_decide_eq_true (by first | (with_reducible assumption) | assumption); have q156 : x11_2 < ((rd_L1 x6_1 (ji15)).length : Int) := of_decide_eq_true (by first | (with_reducible assumption) | assumption); obtain ⟨ad156, e156, hx156_0⟩ := Kd.at_int (Kd.V_reads' HO_9.out).2.2 x11_2 p156 q156; obtain rfl : ad151 = ad156 := (by injection e156); replace p156 := eq_true p156; replace q156 := eq_true q156))
                                        repeat (go_quiet (first | ((with_reducible refine gate_store (t := 5) (p := 76) rfl ?_); (try (rw [drewN_self wr]; generalize hq_ : World.drewN wr _ = wr; have n0_ := Aside0.mk (Kd.R_at hq_ HO_5.out); have n1_ := Aside0.mk (Kd.N_at hq_ HO_6.out); have n2_ := Aside0.mk (Kd.V_below HO_9.out (below_at hq_ (Below.refl _ _))); have n3_ := Aside0.mk (Kd.V_below HO_10.out (below_at hq_ (Below.refl _ _))); have n4_ := Aside0.mk (below_at hq_ HB.out); clear hq_ HO_5 HO_6 HO_9 HO_10 HB; have HO_5 := n0_; have HO_6 := n1_; have HO_9 := n2_; have HO_10 := n3_; have HB := n4_; clear n0_ n1_ n2_ n3_ n4_; (try (obtain ⟨hyd_, hzd_⟩ := Kd.R_celln 0 HO_5.out ((ji28) : Int) (of_decide_eq_true (by first | (with_reducible assumption) | assumption)) (of_decide_eq_true (by first | (with_reducible assumption) | assumption)))); (try (have HP39 := Kd.R_putg HO_5.out ((ji28) : Int) 86)))); refine store_event (t := 5) (p := 76) (v := ?vo_w40) (w1 := (wr.setCell ⟨go31, ((ji28) : Int).toNat, none⟩ (.int .u8 86))) ?hg ?ho ?hn ?hr ?_; (case ho => rfl); (case hg => rfl); (case hn => rfl); (case hr => first | (go_simp; done) | (go_simp; rfl)); intro w40 hw; have hg : wr.grownBy w40 (some go31) := (by rw [hw]; exact HP39.2); have hp_ : Kd.R (Kd.int .u8) 5 w40 w.heap.size (fun _ => True) (.slice (some ⟨go31, 0, none⟩) x5_2.length co31) y155 := (by rw [hw, Ny155.out]; exact HP39.1); clear HP39; have n0_ := Aside0.mk (hp_); have n1_ := Aside0.mk (Kd.N_afterv (v := (.slice (some ⟨go31, 0, none⟩) x5_2.length co31)) (v1 := (.slice (some ⟨go31, 0, none⟩) x5_2.length co31)) (ok := (fun _ => True)) (by (with_reducible repeat (first | apply Kd.N_alloc | apply Kd.N_drewN | apply Kd.N_drew)); exact Kd.N_mono HO_6.out (fun _ hk => ⟨trivial, hk⟩)) hg (.inl rfl)); have n2_ := Aside0.mk (Kd.V_afterv (v := (.slice (some ⟨go31, 0, none⟩) x5_2.length co31)) (v1 := (.slice (some ⟨go31, 0, none⟩) x5_2.length co31)) (ok := (fun k_ => some k_ ≠ (.slice (some ad149) x6_1.length co21 : Value).ownBlock)) (by (with_reducible repeat (first | apply Kd.V_alloc | apply Kd.V_drewN | apply Kd.V_drew)); exact Kd.V_mono HO_9.out (fun _ hk => ⟨hk.2, hk.1⟩)) hg (.inl rfl)); have n3_ := Aside0.mk (Kd.V_afterv (v := (.slice (some ⟨go31, 0, none⟩) x5_2.length co31)) (v1 := (.slice (some ⟨go31, 0, none⟩) x5_2.length co31)) (ok := (fun k_ => some k_ ≠ (.slice (some ad149) x6_1.length co21 : Value).ownBlock)) (by (with_reducible repeat (first | apply Kd.V_alloc | apply Kd.V_drewN | apply Kd.V_drew)); exact Kd.V_mono HO_10.out (fun _ hk => ⟨hk.2, hk.1⟩)) hg (.inl rfl)); have n4_ := Aside0.mk ((by rw [hw]; exact below_set (HB.out) GB31.out : Below w.heap.size w w40)); clear HO_5; clear HO_6; clear HO_9; clear HO_10; clear HB; have HO_5 := n0_; have HO_6 := n1_; have HO_9 := n2_; have HO_10 := n3_; have HB := n4_; clear n0_ n1_ n2_ n3_ n4_; clear hg hw hp_; have p156 : 0 ≤ (x11_2 : Int) := of_decide_eq_true (by first | (with_reducible assumption) | assumption); have q156 : x11_2 < ((rd_L1 x6_1 (ji15)).length : Int) := of_decide_eq_true (by first | (with_reducible assumption) | assumption); obtain ⟨ad156, e156, hx156_0⟩ := Kd.at_int (Kd.V_reads' HO_9.out).2.2 x11_2 p156 q156; obtain rfl : ad151 = ad156 := (by injection e156); replace p156 := eq_true p156; replace q156 := eq_true q156)); try go_wp2_with (first | ((with_reducible refine gate_store (t := 5) (p := 76) rfl ?_); (try (rw [drewN_self wr]; generalize hq_ : World.drewN wr _ = wr; have n0_ := Aside0.mk (Kd.R_at hq_ HO_5.out); have n1_ := Aside0.mk (Kd.N_at hq_ HO_6.out); have n2_ := Aside0.mk (Kd.V_below HO_9.out (below_at hq_ (Below.refl _ _))); have n3_ := Aside0.mk (Kd.V_below HO_10.out (below_at hq_ (Below.refl _ _))); have n4_ := Aside0.mk (below_at hq_ HB.out); clear hq_ HO_5 HO_6 HO_9 HO_10 HB; have HO_5 := n0_; have HO_6 := n1_; have HO_9 := n2_; have HO_10 := n3_; have HB := n4_; clear n0_ n1_ n2_ n3_ n4_; (try (obtain ⟨hyd_, hzd_⟩ := Kd.R_celln 0 HO_5.out ((ji28) : Int) (of_decide_eq_true (by first | (with_reducible assumption) | assumption)) (of_decide_eq_true (by first | (with_reducible assumption) | assumption)))); (try (have HP39 := Kd.R_putg HO_5.out ((ji28) : Int) 86)))); refine store_event (t := 5) (p := 76) (v := ?vo_w40) (w1 := (wr.setCell ⟨go31, ((ji28) : Int).toNat, none⟩ (.int .u8 86))) ?hg ?ho ?hn ?hr ?_; (case ho => rfl); (case hg => rfl); (case hn => rfl); (case hr => first | (go_simp; done) | (go_simp; rfl)); intro w40 hw; have hg : wr.grownBy w40 (some go31) := (by rw [hw]; exact HP39.2); have hp_ : Kd.R (Kd.int .u8) 5 w40 w.heap.size (fun _ => True) (.slice (some ⟨go31, 0, none⟩) x5_2.length co31) y155 := (by rw [hw, Ny155.out]; exact HP39.1); clear HP39; have n0_ := Aside0.mk (hp_); have n1_ := Aside0.mk (Kd.N_afterv (v := (.slice (some ⟨go31, 0, none⟩) x5_2.length co31)) (v1 := (.slice (some ⟨go31, 0, none⟩) x5_2.length co31)) (ok := (fun _ => True)) (by (with_reducible repeat (first | apply Kd.N_alloc | apply Kd.N_drewN | apply Kd.N_drew)); exact Kd.N_mono HO_6.out (fun _ hk => ⟨trivial, hk⟩)) hg (.inl rfl)); have n2_ := Aside0.mk (Kd.V_afterv (v := (.slice (some ⟨go31, 0, none⟩) x5_2.length co31)) (v1 := (.slice (some ⟨go31, 0, none⟩) x5_2.length co31)) (ok := (fun k_ => some k_ ≠ (.slice (some ad149) x6_1.length co21 : Value).ownBlock)) (by (with_reducible repeat (first | apply Kd.V_alloc | apply Kd.V_drewN | apply Kd.V_drew)); exact Kd.V_mono HO_9.out (fun _ hk => ⟨hk.2, hk.1⟩)) hg (.inl rfl)); have n3_ := Aside0.mk (Kd.V_afterv (v := (.slice (some ⟨go31, 0, none⟩) x5_2.length co31)) (v1 := (.slice (some ⟨go31, 0, none⟩) x5_2.length co31)) (ok := (fun k_ => some k_ ≠ (.slice (some ad149) x6_1.length co21 : Value).ownBlock)) (by (with_reducible repeat (first | apply Kd.V_alloc | apply Kd.V_drewN | apply Kd.V_drew)); exact Kd.V_mono HO_10.out (fun _ hk => ⟨hk.2, hk.1⟩)) hg (.inl rfl)); have n4_ := Aside0.mk ((by rw [hw]; exact below_set (HB.out) GB31.out : Below w.heap.size w w40)); clear HO_5; clear HO_6; clear HO_9; clear HO_10; clear HB; have HO_5 := n0_; have HO_6 := n1_; have HO_9 := n2_; have HO_10 := n3_; have HB := n4_; clear n0_ n1_ n2_ n3_ n4_; clear hg hw hp_; have p156 : 0 ≤ (x11_2 : Int) := of_decide_eq_true (by first | (with_reducible assumption) | assumption); have q156 : x11_2 < ((rd_L1 x6_1 (ji15)).length : Int) := of_decide_eq_true (by first | (with_reducible assumption) | assumption); obtain ⟨ad156, e156, hx156_0⟩ := Kd.at_int (Kd.V_reads' HO_9.out).2.2 x11_2 p156 q156; obtain rfl : ad151 = ad156 := (by injection e156); replace p156 := eq_true p156; replace q156 := eq_true q156)))
                                        (try subst hji18)
                                        go_roundg k2
                                        case measure => have := HK1.out; have := HK2.out; omega
                                        case rel => exact ⟨(y155), (wrap64 (x11_2 + 1)), (by first | rfl | (simp; done) | (simp [*]; done)), H', ⟨by have := HK1.out; have := HK2.out; omega⟩, ⟨by (with_reducible repeat (first | apply Kd.R_alloc | apply Kd.R_drewN | apply Kd.R_drew)); exact HO_5.out⟩, ⟨by (with_reducible repeat (first | apply Kd.N_alloc | apply Kd.N_drewN | apply Kd.N_drew)); exact Kd.N_mono HO_6.out (fun _ hk => hk.2)⟩, ⟨by (with_reducible repeat (first | apply Kd.V_alloc | apply Kd.V_drewN | apply Kd.V_drew)); exact Kd.V_mono HO_9.out (fun _ hk => ⟨hk.2, hk.1⟩)⟩, ⟨by (with_reducible repeat (first | apply Kd.V_alloc | apply Kd.V_drewN | apply Kd.V_drew)); exact Kd.V_mono HO_10.out (fun _ hk => ⟨hk.2, hk.1⟩)⟩, ⟨by repeat (first | (with_reducible first | exact HB.out | apply below_alloc | apply pw_below_drewN | apply below_drew1) | exact HB.out)⟩⟩
                                    · rw [if_neg c30] at H
                                      exact absurd H (by simp)
                                  · rw [if_neg c29] at H
                                    exact absurd H (by simp)
                                · rw [if_neg c25] at H
                                  exact absurd H (by simp)
                              · rw [if_neg c23] at H
                                exact absurd H (by simp)
                            · rw [if_neg c22] at H
                              have c22b0 : decide (x11_2 < ((rd_L1 x6_1 (ji15)).length : Int)) = false := decide_eq_false c22
                              clear c22
                              by_cases c41 : 0 ≤ x7_1
                              · rw [if_pos c41] at H
                                have c41b0 : decide (0 ≤ x7_1) = true := decide_eq_true c41
                                clear c41
                                by_cases c42 : x7_1 < (a0.size : Int)
                                · rw [if_pos c42] at H
                                  have c42b0 : decide (x7_1 < (a0.size : Int)) = true := decide_eq_true c42
                                  clear c42
                                  replace H := Option.bind_eq_some_iff.mp H
                                  obtain ⟨t158, A440, H⟩ := H
                                  replace H : (spec_CreasesOf.l0 k2 a0 x5_2 t158 (wrap64 (x7_1 + 1))) = some (r1, r2) := H
                                  have A44 := Aside0.mk A440
                                  clear A440
                                  have H' := Aside0.mk H
                                  clear H
                                  have p43 : 0 ≤ (x7_1 : Int) := of_decide_eq_true (by first | (with_reducible assumption) | assumption)
                                  have q43 : x7_1 < (a0.size : Int) := of_decide_eq_true (by first | (with_reducible assumption) | assumption)
                                  have hx43 := bt_at a0 x7_1
                                  replace p43 := eq_true p43
                                  replace q43 := eq_true q43
                                  go_wp2_with (first | (go_at_call 34; (with_reducible refine (spec_l03Fold.calls k2 _ _ x6_1 (bt a0 x7_1) t158 _ ?side1 ?side2 A44.out).mono ?_); (case side1 => repeat (first | exact (Kd.N_reads' HO_6.out).2.2 | (with_reducible refine Kd.C_alloc ?_ _) | (with_reducible refine Kd.C_drewN ?_ _) | (with_reducible refine Kd.C_drew ?_))); (case side2 => exact (Kd.N_reads' HO_6.out).2.1); rintro e w45 ⟨v159, rfl, ho0, hb⟩; have n0_ := Aside0.mk (Kd.R_below (by (with_reducible repeat (first | apply Kd.R_alloc | apply Kd.R_drewN | apply Kd.R_drew)); exact HO_5.out) hb); have n1_ := Aside0.mk (Kd.N_elder' (by (with_reducible repeat (first | apply Kd.N_alloc | apply Kd.N_drewN | apply Kd.N_drew)); exact HO_6.out) (Kd.R_base (Kd.S_R ho0)) hb); have n2_ := Aside0.mk (Kd.V_elder' (by (with_reducible repeat (first | apply Kd.V_alloc | apply Kd.V_drewN | apply Kd.V_drew)); exact HO_9.out) (Kd.R_base (Kd.S_R ho0)) hb); have n3_ := Aside0.mk (Kd.V_elder' (by (with_reducible repeat (first | apply Kd.V_alloc | apply Kd.V_drewN | apply Kd.V_drew)); exact HO_10.out) (Kd.R_base (Kd.S_R ho0)) hb); have n4_ := Aside0.mk (Kd.N_lower (Kd.N_mono (ok' := fun k_ => some k_ ≠ (v144 : Value).ownBlock ∧ some k_ ≠ (.slice (some ad149) x6_1.length co21 : Value).ownBlock) (Kd.S_N (Kd.S_bound ho0)) (fun k_ hk_ => ⟨(Kd.fresh' (Kd.R_lt (by (with_reducible repeat (first | apply Kd.R_alloc | apply Kd.R_drewN | apply Kd.R_drew)); exact HO_5.out)) k_ hk_.2.1), (Kd.fresh' (Kd.N_lt (by (with_reducible repeat (first | apply Kd.N_alloc | apply Kd.N_drewN | apply Kd.N_drew)); exact HO_6.out)) k_ hk_.2.1)⟩)) (below_size (by repeat (first | (with_reducible first | exact HB.out | apply below_alloc | apply pw_below_drewN | apply below_drew1) | exact HB.out)))); have n5_ := Aside0.mk (below_step (by repeat (first | (with_reducible first | exact HB.out | apply below_alloc | apply pw_below_drewN | apply below_drew1) | exact HB.out)) hb); clear HO_5; clear HO_6; clear HO_9; clear HO_10; clear HB; have HO_5 := n0_; have HO_6 := n1_; have HO_9 := n2_; have HO_10 := n3_; have HO160 := n4_; have HB := n5_; clear n0_ n1_ n2_ n3_ n4_ n5_; (try clear hb); (try clear hb2); (try clear hk); (try clear hi); (try clear ho0)))
                                  repeat (go_quiet (first | (go_at_call 34; (with_reducible refine (spec_l03Fold.calls k2 _ _ x6_1 (bt a0 x7_1) t158 _ ?side1 ?side2 A44.out).mono ?_); (case side1 => repeat (first | exact (Kd.N_reads' HO_6.out).2.2 | (with_reducible refine Kd.C_alloc ?_ _) | (with_reducible refine Kd.C_drewN ?_ _) | (with_reducible refine Kd.C_drew ?_))); (case side2 => exact (Kd.N_reads' HO_6.out).2.1); rintro e w45 ⟨v159, rfl, ho0, hb⟩; have n0_ := Aside0.mk (Kd.R_below (by (with_reducible repeat (first | apply Kd.R_alloc | apply Kd.R_drewN | apply Kd.R_drew)); exact HO_5.out) hb); have n1_ := Aside0.mk (Kd.N_elder' (by (with_reducible repeat (first | apply Kd.N_alloc | apply Kd.N_drewN | apply Kd.N_drew)); exact HO_6.out) (Kd.R_base (Kd.S_R ho0)) hb); have n2_ := Aside0.mk (Kd.V_elder' (by (with_reducible repeat (first | apply Kd.V_alloc | apply Kd.V_drewN | apply Kd.V_drew)); exact HO_9.out) (Kd.R_base (Kd.S_R ho0)) hb); have n3_ := Aside0.mk (Kd.V_elder' (by (with_reducible repeat (first | apply Kd.V_alloc | apply Kd.V_drewN | apply Kd.V_drew)); exact HO_10.out) (Kd.R_base (Kd.S_R ho0)) hb); have n4_ := Aside0.mk (Kd.N_lower (Kd.N_mono (ok' := fun k_ => some k_ ≠ (v144 : Value).ownBlock ∧ some k_ ≠ (.slice (some ad149) x6_1.length co21 : Value).ownBlock) (Kd.S_N (Kd.S_bound ho0)) (fun k_ hk_ => ⟨(Kd.fresh' (Kd.R_lt (by (with_reducible repeat (first | apply Kd.R_alloc | apply Kd.R_drewN | apply Kd.R_drew)); exact HO_5.out)) k_ hk_.2.1), (Kd.fresh' (Kd.N_lt (by (with_reducible repeat (first | apply Kd.N_alloc | apply Kd.N_drewN | apply Kd.N_drew)); exact HO_6.out)) k_ hk_.2.1)⟩)) (below_size (by repeat (first | (with_reducible first | exact HB.out | apply below_alloc | apply pw_below_drewN | apply below_drew1) | exact HB.out)))); have n5_ := Aside0.mk (below_step (by repeat (first | (with_reducible first | exact HB.out | apply below_alloc | apply pw_below_drewN | apply below_drew1) | exact HB.out)) hb); clear HO_5; clear HO_6; clear HO_9; clear HO_10; clear HB; have HO_5 := n0_; have HO_6 := n1_; have HO_9 := n2_; have HO_10 := n3_; have HO160 := n4_; have HB := n5_; clear n0_ n1_ n2_ n3_ n4_ n5_; (try clear hb); (try clear hb2); (try clear hk); (try clear hi); (try clear ho0))); try go_wp2_with (first | (go_at_call 34; (with_reducible refine (spec_l03Fold.calls k2 _ _ x6_1 (bt a0 x7_1) t158 _ ?side1 ?side2 A44.out).mono ?_); (case side1 => repeat (first | exact (Kd.N_reads' HO_6.out).2.2 | (with_reducible refine Kd.C_alloc ?_ _) | (with_reducible refine Kd.C_drewN ?_ _) | (with_reducible refine Kd.C_drew ?_))); (case side2 => exact (Kd.N_reads' HO_6.out).2.1); rintro e w45 ⟨v159, rfl, ho0, hb⟩; have n0_ := Aside0.mk (Kd.R_below (by (with_reducible repeat (first | apply Kd.R_alloc | apply Kd.R_drewN | apply Kd.R_drew)); exact HO_5.out) hb); have n1_ := Aside0.mk (Kd.N_elder' (by (with_reducible repeat (first | apply Kd.N_alloc | apply Kd.N_drewN | apply Kd.N_drew)); exact HO_6.out) (Kd.R_base (Kd.S_R ho0)) hb); have n2_ := Aside0.mk (Kd.V_elder' (by (with_reducible repeat (first | apply Kd.V_alloc | apply Kd.V_drewN | apply Kd.V_drew)); exact HO_9.out) (Kd.R_base (Kd.S_R ho0)) hb); have n3_ := Aside0.mk (Kd.V_elder' (by (with_reducible repeat (first | apply Kd.V_alloc | apply Kd.V_drewN | apply Kd.V_drew)); exact HO_10.out) (Kd.R_base (Kd.S_R ho0)) hb); have n4_ := Aside0.mk (Kd.N_lower (Kd.N_mono (ok' := fun k_ => some k_ ≠ (v144 : Value).ownBlock ∧ some k_ ≠ (.slice (some ad149) x6_1.length co21 : Value).ownBlock) (Kd.S_N (Kd.S_bound ho0)) (fun k_ hk_ => ⟨(Kd.fresh' (Kd.R_lt (by (with_reducible repeat (first | apply Kd.R_alloc | apply Kd.R_drewN | apply Kd.R_drew)); exact HO_5.out)) k_ hk_.2.1), (Kd.fresh' (Kd.N_lt (by (with_reducible repeat (first | apply Kd.N_alloc | apply Kd.N_drewN | apply Kd.N_drew)); exact HO_6.out)) k_ hk_.2.1)⟩)) (below_size (by repeat (first | (with_reducible first | exact HB.out | apply below_alloc | apply pw_below_drewN | apply below_drew1) | exact HB.out)))); have n5_ := Aside0.mk (below_step (by repeat (first | (with_reducible first | exact HB.out | apply below_alloc | apply pw_below_drewN | apply below_drew1) | exact HB.out)) hb); clear HO_5; clear HO_6; clear HO_9; clear HO_10; clear HB; have HO_5 := n0_; have HO_6 := n1_; have HO_9 := n2_; have HO_10 := n3_; have HO160 := n4_; have HB := n5_; clear n0_ n1_ n2_ n3_ n4_ n5_; (try clear hb); (try clear hb2); (try clear hk); (try clear hi); (try clear ho0))))
                                  (try subst hji18)
                                  go_roundg k2
                                  case measure => have := HK1.out; have := HK2.out; omega
                                  case rel => exact ⟨(x5_2), (t158), (wrap64 (x7_1 + 1)), (by first | rfl | (simp; done) | (simp [*]; done)), H', ⟨by have := HK1.out; have := HK2.out; omega⟩, ⟨by (with_reducible repeat (first | apply Kd.R_alloc | apply Kd.R_drewN | apply Kd.R_drew)); exact HO_5.out⟩, ⟨by (with_reducible repeat (first | apply Kd.N_alloc | apply Kd.N_drewN | apply Kd.N_drew)); exact Kd.N_mono HO160.out (fun _ hk => hk.1)⟩, ⟨by repeat (first | (with_reducible first | exact HB.out | apply below_alloc | apply pw_below_drewN | apply below_drew1) | exact HB.out)⟩⟩
                                · rw [if_neg c42] at H
                                  exact absurd H (by simp)
                              · rw [if_neg c41] at H
                                exact absurd H (by simp)
                      · rw [if_neg c20] at H
                        exact absurd H (by simp)
                    · rw [if_neg c19] at H
                      exact absurd H (by simp)
                  · rw [if_neg c17] at H
                    exact absurd H (by simp)
                · rw [if_neg c16] at H
                  exact absurd H (by simp)
              · rw [if_neg c14] at H
                have c14b0 : decide (x7_1 < (a0.size : Int)) = false := decide_eq_false c14
                clear c14
                simp only [Option.some.injEq, Prod.mk.injEq] at H
                obtain ⟨rfl, rfl⟩ := H
                have hcv46 := own_string (P := Tryd.prog) Tryd.underlying35 Tryd.underlying5 Tryd.underlying9 (Kd.own_of_R HO_5.out)
                go_wp2
                repeat (go_quiet (fail); try go_wp2)
                go_ret2
                exact ⟨by first | rfl | (simp only [Go.IntWalk.i64_left]; first | done | rfl) | (simp [errW_none, errW_some] <;> rfl) | (simp only [← hji4, ← hji6, ← hji7]; first | rfl | (simp [errW_none, errW_some] <;> rfl)) | (simp [*, errW_none, errW_some] <;> rfl), by repeat (first | (with_reducible first | exact HB.out | apply below_alloc | apply pw_below_drewN | apply below_drew1) | exact HB.out)⟩
        · rw [if_neg c9] at H
          exact absurd H (by simp)
      · rw [if_neg c8] at H
        exact absurd H (by simp)
    · rw [if_neg c5] at H
      exact absurd H (by simp)
  · replace c3 := Bool.eq_false_iff.mpr c3
    subst c3
    have H1 : (some ((⟨#[]⟩ : ByteArray), 1)) = some (r1, r2) := by rw [if_neg (show ¬ (false = true) by decide)] at H; exact H
    clear H
    have H := H1
    clear H1
    simp only [Option.some.injEq, Prod.mk.injEq] at H
    obtain ⟨rfl, rfl⟩ := H
    go_enter Tryd.func10, Tryd.ntmps10
    go_wp2_with (first | (go_at_call 32; (with_reducible refine (spec_IsFolds.calls k a0 false _ A2.out).mono ?_); rintro e w' ⟨rfl, ⟨nd, rfl⟩⟩; (try first | exact ⟨rfl, _, World.drewN_drewN _ _ _⟩ | exact ⟨rfl, _, Eq.trans (World.drewN_drewN _ _ _) (congrArg (World.drewN _) (Nat.add_assoc _ _ _))⟩)))
    repeat (go_quiet (first | (go_at_call 32; (with_reducible refine (spec_IsFolds.calls k a0 false _ A2.out).mono ?_); rintro e w' ⟨rfl, ⟨nd, rfl⟩⟩; (try first | exact ⟨rfl, _, World.drewN_drewN _ _ _⟩ | exact ⟨rfl, _, Eq.trans (World.drewN_drewN _ _ _) (congrArg (World.drewN _) (Nat.add_assoc _ _ _))⟩))); try go_wp2_with (first | (go_at_call 32; (with_reducible refine (spec_IsFolds.calls k a0 false _ A2.out).mono ?_); rintro e w' ⟨rfl, ⟨nd, rfl⟩⟩; (try first | exact ⟨rfl, _, World.drewN_drewN _ _ _⟩ | exact ⟨rfl, _, Eq.trans (World.drewN_drewN _ _ _) (congrArg (World.drewN _) (Nat.add_assoc _ _ _))⟩))))
    go_ret2
    exact ⟨by first | rfl | (simp only [Go.IntWalk.i64_left]; first | done | rfl) | (simp [errW_none, errW_some] <;> rfl) | (simp [*, errW_none, errW_some] <;> rfl), by repeat (first | (with_reducible first | exact HB.out | apply below_alloc | apply pw_below_drewN | apply below_drew1) | exact HB.out)⟩

-- NOT PRINTED: function 63 (strings_trimLeftByte)

-- NOT PRINTED: function 64 (strings_trimRightByte)

-- NOT PRINTED: function 65 (strings_makeASCIISet)

-- NOT PRINTED: function 74 (strings_asciiSet_contains)

-- NOT PRINTED: function 66 (strings_trimLeftASCII)

-- NOT PRINTED: function 67 (strings_trimRightASCII)

-- NOT PRINTED: function 81 (utf8_decodeRuneInStringSlow)

-- NOT PRINTED: function 75 (utf8_DecodeRuneInString)

-- NOT PRINTED: function 111 (bytealg_IndexByteString)

-- NOT PRINTED: function 100 (stringslite_IndexByte)

-- NOT PRINTED: function 90 (strings_IndexByte)

-- NOT PRINTED: function 91 (utf8_ValidRune)

-- NOT PRINTED: function 92 (bytealg_Cutover)

-- NOT PRINTED: function 93 (bytealg_IndexString)

-- NOT PRINTED: function 82 (strings_IndexRune)

-- NOT PRINTED: function 76 (strings_ContainsRune)

-- NOT PRINTED: function 68 (strings_trimLeftUnicode)

-- NOT PRINTED: function 83 (utf8_RuneStart)

-- NOT PRINTED: function 77 (utf8_DecodeLastRuneInString)

-- NOT PRINTED: function 69 (strings_trimRightUnicode)

-- NOT PRINTED: function 53 (strings_Trim)

/-! ### impl_IsFolds -/
def lay_trim_ren : Go.Shelf.Ren := ⟨fun | 160 => 53 | 232 => 64 | 231 => 63 | 227 => 65 | 234 => 67 | 233 => 66 | 236 => 69 | 235 => 68 | 228 => 74 | 271 => 77 | 151 => 76 | 197 => 75 | 120 => 83 | 152 => 82 | 260 => 81 | 137 => 90 | 119 => 91 | 224 => 92 | 225 => 93 | 217 => 100 | 266 => 111 | n => n, fun | 9 => 9 | 4 => 4 | 3 => 3 | 5 => 5 | 117 => 73 | 116 => 72 | 0 => 0 | 124 => 76 | 21 => 21 | 105 => 99 | 46 => 38 | 119 => 114 | 139 => 123 | 138 => 122 | n => n, fun | 3 => 0 | 4 => 1 | n => n⟩
theorem lay_trim : Go.Proofs.Lays.n160 Tryd.prog lay_trim_ren := {
  mixed := by kernel_rfl
  f119 := Tryd.func91.trans (congrArg some (by kernel_rfl))
  f120 := Tryd.func83.trans (congrArg some (by kernel_rfl))
  f137 := Tryd.func90.trans (congrArg some (by kernel_rfl))
  f151 := Tryd.func76.trans (congrArg some (by kernel_rfl))
  f152 := Tryd.func82.trans (congrArg some (by kernel_rfl))
  f160 := Tryd.func53.trans (congrArg some (by kernel_rfl))
  f197 := Tryd.func75.trans (congrArg some (by kernel_rfl))
  f217 := Tryd.func100.trans (congrArg some (by kernel_rfl))
  f224 := Tryd.func92.trans (congrArg some (by kernel_rfl))
  f225 := Tryd.func93.trans (congrArg some (by kernel_rfl))
  f227 := Tryd.func65.trans (congrArg some (by kernel_rfl))
  f228 := Tryd.func74.trans (congrArg some (by kernel_rfl))
  f231 := Tryd.func63.trans (congrArg some (by kernel_rfl))
  f232 := Tryd.func64.trans (congrArg some (by kernel_rfl))
  f233 := Tryd.func66.trans (congrArg some (by kernel_rfl))
  f234 := Tryd.func67.trans (congrArg some (by kernel_rfl))
  f235 := Tryd.func68.trans (congrArg some (by kernel_rfl))
  f236 := Tryd.func69.trans (congrArg some (by kernel_rfl))
  f260 := Tryd.func81.trans (congrArg some (by kernel_rfl))
  f266 := Tryd.func111.trans (congrArg some (by kernel_rfl))
  f271 := Tryd.func77.trans (congrArg some (by kernel_rfl))
  t0 := Tryd.underlying0
  a0 := Tryd.isAgg0
  z0 := Tryd.sizeOf0
  v0 := Tryd.zeroValue0
  t3 := Tryd.underlying3
  a3 := Tryd.isAgg3
  z3 := Tryd.sizeOf3
  v3 := Tryd.zeroValue3
  t4 := Tryd.underlying4
  a4 := Tryd.isAgg4
  z4 := Tryd.sizeOf4
  v4 := Tryd.zeroValue4
  t5 := Tryd.underlying5
  a5 := Tryd.isAgg5
  z5 := Tryd.sizeOf5
  v5 := Tryd.zeroValue5
  t9 := Tryd.underlying9
  a9 := Tryd.isAgg9
  z9 := Tryd.sizeOf9
  v9 := Tryd.zeroValue9
  t21 := Tryd.underlying21
  a21 := Tryd.isAgg21
  z21 := Tryd.sizeOf21
  v21 := Tryd.zeroValue21
  t46 := Tryd.underlying38
  a46 := Tryd.isAgg38
  z46 := Tryd.sizeOf38
  v46 := Tryd.zeroValue38
  t105 := Tryd.underlying99
  a105 := Tryd.isAgg99
  z105 := Tryd.sizeOf99
  v105 := Tryd.zeroValue99
  t116 := Tryd.underlying72
  a116 := Tryd.isAgg72
  z116 := Tryd.sizeOf72
  t117 := Tryd.underlying73
  a117 := Tryd.isAgg73
  z117 := Tryd.sizeOf73
  v117 := Tryd.zeroValue73
  t119 := Tryd.underlying114
  a119 := Tryd.isAgg114
  z119 := Tryd.sizeOf114
  t124 := Tryd.underlying76
  a124 := Tryd.isAgg76
  z124 := Tryd.sizeOf76
  v124 := Tryd.zeroValue76
  t138 := Tryd.underlying122
  a138 := Tryd.isAgg122
  z138 := Tryd.sizeOf122
  v138 := Tryd.zeroValue122
  t139 := Tryd.underlying123
  a139 := Tryd.isAgg123
  z139 := Tryd.sizeOf123
  v139 := Tryd.zeroValue123
  g3 := by kernel_rfl
  g4 := by kernel_rfl }
def impl_IsFolds.f (a0 : ByteArray) : Option Bool := if (a0.size : Int) ≤ 6 then some (decide (Go.Lib.trimS a0.data.toList [76, 82] = [])) else some false
set_option maxHeartbeats 1000000 in
theorem impl_IsFolds.calls (a0 : ByteArray) (r : Bool) (w : World) (h : impl_IsFolds.f a0 = some r) :
    Calls Tryd.prog 31 #[.string a0] w fun e w' => e = .returned (.bool r) ∧ Below w.heap.size w w' := by
  unfold impl_IsFolds.f at h
  by_cases c : (a0.size : Int) ≤ 6
  · rw [if_pos c] at h
    have hr := Option.some.inj h
    clear h
    have hcon := fun W => Go.Proofs.Any.strings_Trim_laid lay_trim (by kernel_rfl) a0 ⟨#[76, 82]⟩ W (by omega) (by decide) (Go.Proofs.ascii_of_all (by decide))
    change ∀ W, Calls Tryd.prog 53 #[.string a0, .string ⟨#[76, 82]⟩] W (fun e w' => e = .returned (.string ⟨(Go.Lib.trimS a0.data.toList [76, 82]).toArray⟩) ∧ Below W.heap.size W w') at hcon
    generalize Go.Lib.trimS a0.data.toList [76, 82] = t at hcon hr
    have c1 : decide ((a0.size : Int) ≤ 6) = true := decide_eq_true c
    have HR := Aside0.mk hr
    clear hr
    go_enter Tryd.func31, Tryd.ntmps31
    go_wp2_with (go_at_call 53; (with_reducible refine (hcon _).mono ?_); rintro e w' ⟨rfl, hB⟩)
    all_goals go_ret
    all_goals rw [← HR.out]
    all_goals (first | exact ⟨by cases t <;> rfl, hB⟩ | (refine ⟨?_, hB⟩; cases t <;> simp_all) | trace_state)
  · rw [if_neg c] at h
    obtain rfl := Option.some.inj h
    have c1 : decide ((a0.size : Int) ≤ 6) = false := decide_eq_false c
    go_enter Tryd.func31, Tryd.ntmps31
    go_wp2
    go_ret
    exact ⟨rfl, Below.refl _ _⟩

/-! ### slices_Grow_int64_int64 -/
def grow_lays_ren : Go.Shelf.Ren := ⟨fun | 4 => 70 | n => n, fun | 22 => 30 | 25 => 2 | 3 => 3 | 4 => 4 | 9 => 9 | 20 => 20 | 0 => 0 | n => n, fun | n => n⟩
theorem grow_lays : Go.Proofs.Lays8.n4 Tryd.prog grow_lays_ren := {
  mixed := by kernel_rfl
  f4 := ⟨Tryd.f70.name, by decide, Tryd.func70.trans (congrArg some (by kernel_rfl))⟩
  t0 := Tryd.underlying0
  a0 := Tryd.isAgg0
  z0 := Tryd.sizeOf0
  v0 := Tryd.zeroValue0
  t3 := Tryd.underlying3
  a3 := Tryd.isAgg3
  z3 := Tryd.sizeOf3
  v3 := Tryd.zeroValue3
  t4 := Tryd.underlying4
  a4 := Tryd.isAgg4
  z4 := Tryd.sizeOf4
  v4 := Tryd.zeroValue4
  t9 := Tryd.underlying9
  a9 := Tryd.isAgg9
  z9 := Tryd.sizeOf9
  v9 := Tryd.zeroValue9
  t20 := Tryd.underlying20
  a20 := Tryd.isAgg20
  z20 := Tryd.sizeOf20
  v20 := Tryd.zeroValue20
  t22 := Tryd.underlying30
  a22 := Tryd.isAgg30
  z22 := Tryd.sizeOf30
  v22 := Tryd.zeroValue30 }
def slices_Grow_int64_int64.f (l0 : List Int) (a1 : Int) : Option (List Int) := if l0 = [] then (if 0 ≤ a1 then (if a1 ≤ 1000000 then some [] else none) else none) else none
set_option maxHeartbeats 4000000 in
set_option maxRecDepth 100000 in
theorem slices_Grow_int64_int64.calls (P0_ : Nat → Prop) (u_ : Value) (l0 : List Int) (a1 : Int) (r : List Int) (w0 w : World) (hB : Below w0.heap.size w0 w) (ho0 : Kd.R (Kd.int .i64) 2 w w0.heap.size P0_ u_ l0) (h : slices_Grow_int64_int64.f l0 a1 = some r) :
    Calls Tryd.prog 70 #[u_, .int .i64 a1] w fun e w' => ∃ v0_ : Value, e = .returned (v0_) ∧ Kd.R (Kd.int .i64) 2 w' w0.heap.size (fun k_ => (P0_ k_ ∨ w.heap.size ≤ k_)) v0_ r ∧ Below w0.heap.size w0 w' ∧ Kept w w' (fun k_ => P0_ k_) := by
  unfold slices_Grow_int64_int64.f at h
  by_cases c1 : l0 = []
  · rw [if_pos c1] at h
    by_cases c2 : 0 ≤ a1
    · rw [if_pos c2] at h
      by_cases c3 : a1 ≤ 1000000
      · rw [if_pos c3] at h
        subst c1
        obtain rfl := Option.some.inj h
        clear h
        obtain ⟨n, rfl⟩ := Int.eq_ofNat_of_zero_le c2
        have hw := hB.size
        obtain ⟨i0, hi0, hz0, hz1, hz2⟩ := info_parts (show (Tryd.prog.info? 2).map (fun i => (i.zero, i.size, i.bytes)) = some (some (.int .i64 0), 1, 8) by kernel_rfl)
        have key : ∀ (base : Option Addr) (c : Nat) (cs : List Value), u_ = .slice base 0 c → c ≤ maxLen → cs.length = c → (base = none → c = 0) → (∀ a, base = some a → ∀ j v, cs[j]? = some v → w.cell? (a.add j) = some v) → Calls Tryd.prog 70 #[u_, .int .i64 (n : Int)] w fun e w' => ∃ v0_ : Value, e = .returned (v0_) ∧ Kd.R (Kd.int .i64) 2 w' w0.heap.size (fun k_ => (P0_ k_ ∨ w.heap.size ≤ k_)) v0_ [] ∧ Below w0.heap.size w0 w' ∧ Kept w w' (fun k_ => P0_ k_) := by
          intro base c cs hu hmx hcl hnil hcs
          subst hu
          by_cases hr : 0 + n ≤ c
          · have hcon := Go.Proofs.Any8.slices_Grow_room grow_lays base 0 c n w (Nat.zero_le _) (by simpa [maxLen] using hmx) (by omega) hr
            change Calls Tryd.prog 70 _ _ _ at hcon
            refine hcon.mono ?_
            rintro e w' ⟨rfl, rfl⟩
            exact ⟨_, rfl, Kd.R_mono ho0 (fun _ hk => .inl hk), hB, Kept.refl _ _⟩
          · have hcon := Go.Proofs.Any8.slices_Grow_grow grow_lays i0 (.int .i64 0) hi0 hz0 (by omega) base 0 c n cs w (Nat.zero_le _) (by omega) (by rw [hz2]; omega) (by omega) (by rw [hz1, hcl]; omega) hnil hcs
            change Calls Tryd.prog 70 _ _ _ at hcon
            refine hcon.mono ?_
            rintro e w' ⟨rfl, rfl⟩
            have hge := grownCap_ge w (0 + n) c 2
            have hle := grownCap_le_maxLen w (0 + n) c 2 (by unfold maxLen; omega)
            refine ⟨_, rfl, Kd.R_of_own ⟨by simp [encs], .inr ⟨w.heap.size, _, _, rfl, hw, heap_alloc_new _ _, Nat.zero_le _, hle, ?_, by simp [encs]⟩⟩ (fun k hk => .inr ?_), (hB.drew).alloc hw _, (Kept.refl w _).below (((Below.refl _ _).drew).alloc (Nat.le_refl _) _)⟩
            · rw [Array.size_append, Array.size_append, size_zeroCells, size_zeroCells, List.size_toArray, hcl]
              show c + (0 + n - c) * 1 + (grownCap w (0 + n) c 2 - (0 + n)) * 1 = grownCap w (0 + n) c 2 * 1
              omega
            · simp [Value.ownBlock] at hk
              omega
        obtain ⟨_, ho⟩ := Kd.own_of_R ho0
        rcases ho with ⟨hv, _⟩ | ⟨g, cap, cur, hv, hg, hh, hn, hm, hsz, _⟩
        · exact key none 0 [] hv (Nat.zero_le _) rfl (fun _ => rfl) (fun a ha => by cases ha)
        · refine key (some ⟨g, 0, none⟩) cap cur.toList hv hm (by simp [hsz]) (fun ha => by cases ha) ?_
          intro a ha j v hj
          injection ha with ha
          subst ha
          have e : (⟨g, 0, none⟩ : Addr).add j = ⟨g, j, none⟩ := by
            unfold Addr.add
            split
            · rename_i h0
              rw [h0]
            · simp
          rw [e]
          simp only [World.cell?, hh]
          simpa using hj
      · rw [if_neg c3] at h
        exact absurd h (by simp)
    · rw [if_neg c2] at h
      exact absurd h (by simp)
  · rw [if_neg c1] at h
    exact absurd h (by simp)

end Go.Proofs.YtjlklieoibhblaaDoor.QFnCreases
