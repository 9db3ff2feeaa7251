-- Written by own_print.py of this session's repo over the kit's print (its output, turned at some places).
import Derived.Test.YtkpidjmhdagkfaaGreatDoorQFnExactIsRightFormx0
import Derived.Test.YtkpidjmhdagkfaaGreatDoorQFnExactIsRightFormx11
namespace Go.Proofs.YtkpidjmhdagkfaaGreatDoor.QFnExactIsRightForm
open Go.RowKit Go.Proofs.YtkpidjmhdagkfaaGreatDoorW.PrintWords Go.Proofs.YtkpidjmhdagkfaaGreatDoorW.PrintLast Go.Proofs.YtkpidjmhdagkfaaGreatDoorW.PrintMore
attribute [local go_sem] max2_int min2_int max_two min_two max_three min_three max_four min_four   -- for this text's walks alone
set_option linter.unusedVariables false
set_option linter.unusedSimpArgs false

/-! ### impl_foldSheet: function 44 -/
mutual
def impl_foldSheet.l0 : Nat → Int → ByteArray → List (List (List (S64))) → Int → Int → Option ((List (S64)))
 | 0, _, _, _, _, _ => none
 | k + 1, x0, x2, x7, x14, x15 => if x15 < x14 then (impl_foldSheet.l1 k x0 x2 x7 x15 (([] : List (List (S64)))) x14 x15 x0 0) else (impl_foldSheet.l2 k x2 x7 (x2.size : Int) 0)
def impl_foldSheet.l1 : Nat → Int → ByteArray → List (List (List (S64))) → Int → List (List (S64)) → Int → Int → Int → Int → Option ((List (S64)))
 | 0, _, _, _, _, _, _, _, _, _ => none
 | k + 1, x0, x2, x7, x8, x9, x14, x15, x19, x20 => if x20 < x19 then (if x9.length < 5864062014805 then (impl_foldSheet.l1 k x0 x2 x7 x8 (x9 ++ [(([(⟨x20, x8, false, false⟩ : S64)] : List (S64)))]) x14 x15 x19 (wrap64 (x20 + 1))) else (none)) else (if x7.length < 5864062014805 then (impl_foldSheet.l0 k x0 x2 (x7 ++ [x9]) x14 (wrap64 (x15 + 1))) else (none))
def impl_foldSheet.l2 : Nat → ByteArray → List (List (List (S64))) → Int → Int → Option ((List (S64)))
 | 0, _, _, _, _ => none
 | k + 1, x2, x7, x37, x38 => if x38 < x37 then (if 0 ≤ x38 then (if x38 < (x2.size : Int) then (if (bt x2 x38) = 84 then (if (bt x2 x38) = 76 then ((impl_halved.f k x7 true true).bind fun t357 => (impl_foldSheet.l2 k x2 t357 x37 (wrap64 (x38 + 1)))) else ((impl_halved.f k x7 true ((bt x2 x38) == 84)).bind fun t360 => (impl_foldSheet.l2 k x2 t360 x37 (wrap64 (x38 + 1))))) else (if (bt x2 x38) = 76 then ((impl_halved.f k x7 ((bt x2 x38) == 66) true).bind fun t363 => (impl_foldSheet.l2 k x2 t363 x37 (wrap64 (x38 + 1)))) else ((impl_halved.f k x7 ((bt x2 x38) == 66) ((bt x2 x38) == 84)).bind fun t366 => (impl_foldSheet.l2 k x2 t366 x37 (wrap64 (x38 + 1)))))) else (none)) else (none)) else (if 0 < (x7.length : Int) then (if 0 < ((rd_L4 x7 0).length : Int) then (some (rd_L3 (rd_L4 x7 0) 0)) else (none)) else (none))
end
def impl_foldSheet.f (k : Nat) (a0 : Int) (a1 : Int) (a2 : ByteArray) : Option ((List (S64))) := impl_foldSheet.l0 k a0 a2 (([] : List (List (List (S64))))) a1 0
theorem impl_foldSheet.mono_l : ∀ k, (∀ y0 y1 y2 y3 y4, LeO (impl_foldSheet.l0 k y0 y1 y2 y3 y4) (impl_foldSheet.l0 (k + 1) y0 y1 y2 y3 y4)) ∧ (∀ y0 y1 y2 y3 y4 y5 y6 y7 y8, LeO (impl_foldSheet.l1 k y0 y1 y2 y3 y4 y5 y6 y7 y8) (impl_foldSheet.l1 (k + 1) y0 y1 y2 y3 y4 y5 y6 y7 y8)) ∧ (∀ y0 y1 y2 y3, LeO (impl_foldSheet.l2 k y0 y1 y2 y3) (impl_foldSheet.l2 (k + 1) y0 y1 y2 y3))
 | 0 => ⟨fun _ _ _ _ _ r h => by simp [impl_foldSheet.l0] at h, fun _ _ _ _ _ _ _ _ _ r h => by simp [impl_foldSheet.l1] at h, fun _ _ _ _ r h => by simp [impl_foldSheet.l2] at h⟩
 | k + 1 => by
  obtain ⟨ih0, ih1, ih2⟩ := impl_foldSheet.mono_l k
  refine ⟨?_, ?_, ?_⟩
  ·intro y0 y1 y2 y3 y4
   unfold impl_foldSheet.l0
   repeat' first
   | (with_reducible exact ih0 _ _ _ _ _)
   | (with_reducible exact ih1 _ _ _ _ _ _ _ _ _)
   | (with_reducible exact ih2 _ _ _ _)
   | (with_reducible exact impl_halved.mono _ _ _ _)
   | (with_reducible exact LeO.refl _)
   | (with_reducible exact LeO.none _)
   | (with_reducible refine LeO.ite ?_ ?_)
   | (with_reducible refine LeO.bind ?_ (fun _ => ?_))
   | exact ih0 _ _ _ _ _
   | exact ih1 _ _ _ _ _ _ _ _ _
   | exact ih2 _ _ _ _
   | exact impl_halved.mono _ _ _ _
   | exact LeO.none _
   | refine LeO.ite ?_ ?_
   | refine LeO.bind ?_ (fun _ => ?_)
  ·intro y0 y1 y2 y3 y4 y5 y6 y7 y8
   unfold impl_foldSheet.l1
   repeat' first
   | (with_reducible exact ih0 _ _ _ _ _)
   | (with_reducible exact ih1 _ _ _ _ _ _ _ _ _)
   | (with_reducible exact ih2 _ _ _ _)
   | (with_reducible exact impl_halved.mono _ _ _ _)
   | (with_reducible exact LeO.refl _)
   | (with_reducible exact LeO.none _)
   | (with_reducible refine LeO.ite ?_ ?_)
   | (with_reducible refine LeO.bind ?_ (fun _ => ?_))
   | exact ih0 _ _ _ _ _
   | exact ih1 _ _ _ _ _ _ _ _ _
   | exact ih2 _ _ _ _
   | exact impl_halved.mono _ _ _ _
   | exact LeO.none _
   | refine LeO.ite ?_ ?_
   | refine LeO.bind ?_ (fun _ => ?_)
  ·intro y0 y1 y2 y3
   unfold impl_foldSheet.l2
   repeat' first
   | (with_reducible exact ih0 _ _ _ _ _)
   | (with_reducible exact ih1 _ _ _ _ _ _ _ _ _)
   | (with_reducible exact ih2 _ _ _ _)
   | (with_reducible exact impl_halved.mono _ _ _ _)
   | (with_reducible exact LeO.refl _)
   | (with_reducible exact LeO.none _)
   | (with_reducible refine LeO.ite ?_ ?_)
   | (with_reducible refine LeO.bind ?_ (fun _ => ?_))
   | exact ih0 _ _ _ _ _
   | exact ih1 _ _ _ _ _ _ _ _ _
   | exact ih2 _ _ _ _
   | exact impl_halved.mono _ _ _ _
   | exact LeO.none _
   | refine LeO.ite ?_ ?_
   | refine LeO.bind ?_ (fun _ => ?_)
theorem impl_foldSheet.mono : ∀ a0 a1 a2 k, LeO (impl_foldSheet.f k a0 a1 a2) (impl_foldSheet.f (k + 1) a0 a1 a2) := by
 intro a0 a1 a2 k
 obtain ⟨ih0, ih1, ih2⟩ := impl_foldSheet.mono_l k
 unfold impl_foldSheet.f
 repeat' first
   | (with_reducible exact ih0 _ _ _ _ _)
   | (with_reducible exact ih1 _ _ _ _ _ _ _ _ _)
   | (with_reducible exact ih2 _ _ _ _)
   | (with_reducible exact impl_halved.mono _ _ _ _)
   | (with_reducible exact LeO.refl _)
   | (with_reducible exact LeO.none _)
   | (with_reducible refine LeO.ite ?_ ?_)
   | (with_reducible refine LeO.bind ?_ (fun _ => ?_))
   | exact ih0 _ _ _ _ _
   | exact ih1 _ _ _ _ _ _ _ _ _
   | exact ih2 _ _ _ _
   | exact impl_halved.mono _ _ _ _
   | exact LeO.none _
   | refine LeO.ite ?_ ?_
   | refine LeO.bind ?_ (fun _ => ?_)
set_option maxHeartbeats 8000000 in
set_option maxRecDepth 100000 in
theorem impl_foldSheet.calls (k : Nat) (a0 : Int) (a1 : Int) (a2 : ByteArray) (r : List (S64)) (w : World) (h : impl_foldSheet.f k a0 a1 a2 = some r) :
  Calls Tryz.prog 44 #[.int .i64 a0, .int .i64 a1, .string a2] w fun e w' => ∃ v0_ : Value, e = .returned (v0_) ∧ Kd.R k64 64 w' w.heap.size (fun _ => True) v0_ r ∧ Below w.heap.size w w' := by
 have hu64 := Tryz.underlying64
 have HB := a_ (Below.refl w.heap.size w)
 have H : (impl_foldSheet.l0 k a0 a2 (([] : List (List (List (S64))))) a1 0) = some r := h
 clear h
 obtain ⟨y342, hy342⟩ : ∃ y_ : List (List (List (S64))), y_ = (([] : List (List (List (S64))))) := ⟨_, rfl⟩
 replace H : (impl_foldSheet.l0 k a0 a2 y342 a1 0) = some r := rh_ hy342 H
 have Ny342 := Aside0.mk hy342
 clear hy342
 have H' := Aside0.mk H
 clear H
 go_enter Tryz.func44, Tryz.ntmps44
 go_wp2_with (first | ((with_reducible refine gate_dst (N := 13) rfl ?_); refine Kd.R_lit (Kd.slice 61 (Kd.slice 64 k64)) _ 96 ?hg (N := 13) ?hd (xs := ([] : List (List (List (S64))))) (inner := []) (ok := fun _ => True) (okp := fun _ => True) ?hr ?hp (fun _ hk => hk) trivial (Below.refl _ _) (Nat.le_refl _) (by simp) ?_; (case hd => rfl); (case hg => rfl); (case hr => first | (go_simp; done) | (go_simp; rfl)); (case hp => exact (Reps.none _ _)); intro v343 w4 ho5 hb hg_ hnew_; clear hg_ hnew_; (first | rw [← Ny342.out] at ho5 | (simp only [Int.reduceToNat] at ho5; rw [← Ny342.out] at ho5)); have HO344 := a_ (Kd.R_lower ho5 (below_size z32_)); replace HB := a_ (below_step z32_ hb); clear hb ho5))
 go_loopg [7, 15] k (fun kq v7 v15 w' => ∃ (x7_1 : List (List (List (S64)))) (x15_1 : Int), v15 = .int .i64 x15_1 ∧ Aside0 (impl_foldSheet.l0 kq a0 a2 x7_1 a1 x15_1 = some r) ∧ Aside0 (kq ≤ k) ∧ Aside0 (Kd.R (Kd.slice 61 (Kd.slice 64 k64)) 96 w' w.heap.size (fun _ => True) v7 x7_1) ∧ Aside0 (Below w.heap.size w w'))
 case atStart => exact ⟨(y342), (0), z76_, H', ⟨Nat.le_refl _⟩, ⟨by (with_reducible repeat (first | apply Kd.R_alloc | apply Kd.R_drewN | apply Kd.R_drew)); exact HO344.out⟩, ⟨z32_⟩⟩
 case round =>
  clear H'
  obtain ⟨x7_1, x15_1, rfl, HA, HK1, HO_7, HB⟩ := hrel
  cases gk with
  | zero => exact absurd HA.out (by simp [impl_foldSheet.l0])
  | succ k1 =>
   have H := HA.out
   clear HA
   simp only [impl_foldSheet.l0] at H
   by_cases c6 : x15_1 < a1
   ·rw [if_pos c6] at H
    have c6b0 : decide (x15_1 < a1) = true := decide_eq_true c6
    clear c6
    obtain ⟨y345, hy345⟩ : ∃ y_ : List (List (S64)), y_ = (([] : List (List (S64)))) := ⟨_, rfl⟩
    replace H : (impl_foldSheet.l1 k1 a0 a2 x7_1 x15_1 y345 a1 x15_1 a0 0) = some r := rh_ hy345 H
    have Ny345 := Aside0.mk hy345
    clear hy345
    have H' := Aside0.mk H
    clear H
    go_wp2_with (first | ((with_reducible refine gate_dst (N := 18) rfl ?_); refine Kd.S_lit (Kd.slice 64 k64) _ 61 ?hg (N := 18) ?hd (xs := ([] : List (List (S64)))) (inner := []) (ok := fun _ => True) (okp := fun _ => True) ?hr ?hp (fun _ hk => hk) trivial (Below.refl _ _) (Nat.le_refl _) (by simp) ?_; (case hd => rfl); (case hg => rfl); (case hr => first | (go_simp; done) | (go_simp; rfl)); (case hp => exact (Reps.none _ _)); intro v346 w7 ho8 hb hg_ hnew_; clear hg_ hnew_; (first | rw [← Ny345.out] at ho8 | (simp only [Int.reduceToNat] at ho8; rw [← Ny345.out] at ho8)); replace HO_7 := a_ (Kd.R_elder' (ra_ HO_7.out) (Kd.S_base ho8) hb); have HO347 := a_ (Kd.S_lower ho8 (below_size z32_)); replace HB := a_ (below_step z32_ hb); clear hb ho8))
    go_loopg [9, 20] k1 (fun kq v9 v20 w' => ∃ (x9_2 : List (List (S64))) (x20_2 : Int), v20 = .int .i64 x20_2 ∧ Aside0 (impl_foldSheet.l1 kq a0 a2 x7_1 x15_1 x9_2 a1 x15_1 a0 x20_2 = some r) ∧ Aside0 (kq ≤ k1) ∧ Aside0 (Kd.R (Kd.slice 61 (Kd.slice 64 k64)) 96 w' w.heap.size (fun k_ => some k_ ≠ (v9 : Value).ownBlock) u7 x7_1) ∧ Aside0 (Kd.S (Kd.slice 64 k64) 61 w' w.heap.size (fun _ => True) v9 x9_2) ∧ Aside0 (Below w.heap.size w w'))
    case atStart => exact ⟨(y345), (0), z76_, H', ⟨Nat.le_refl _⟩, ⟨by (with_reducible repeat (first | apply Kd.R_alloc | apply Kd.R_drewN | apply Kd.R_drew)); exact Kd.R_mono HO_7.out (fun _ hk => hk.2)⟩, ⟨by (with_reducible repeat (first | apply Kd.S_alloc | apply Kd.S_drewN | apply Kd.S_drew)); exact HO347.out⟩, ⟨z32_⟩⟩
    case round =>
     clear H'
     try clear c6b0
     obtain ⟨x9_2, x20_2, rfl, HA, HK2, HO_7, HO_9, HB⟩ := hrel
     cases gk with
     | zero => exact absurd HA.out (by simp [impl_foldSheet.l1])
     | succ k2 =>
      have H := HA.out
      clear HA
      simp only [impl_foldSheet.l1] at H
      by_cases c9 : x20_2 < a0
      ·rw [if_pos c9] at H
       have c9b0 : decide (x20_2 < a0) = true := decide_eq_true c9
       clear c9
       obtain ⟨y348, hy348⟩ : ∃ y_ : List (S64), y_ = (([(⟨x20_2, x15_1, false, false⟩ : S64)] : List (S64))) := ⟨_, rfl⟩
       replace H : (if x9_2.length < 5864062014805 then (impl_foldSheet.l1 k2 a0 a2 x7_1 x15_1 (x9_2 ++ [y348]) a1 x15_1 a0 (wrap64 (x20_2 + 1))) else (none)) = some r := rh_ hy348 H
       have Ny348 := Aside0.mk hy348
       clear hy348
       by_cases c10 : x9_2.length < 5864062014805
       ·rw [if_pos c10] at H
        have LMc10 := Aside0.mk c10
        clear c10
        obtain ⟨y351, hy351⟩ : ∃ y_ : List (List (S64)), y_ = (x9_2 ++ [y348]) := ⟨_, rfl⟩
        replace H : (impl_foldSheet.l1 k2 a0 a2 x7_1 x15_1 y351 a1 x15_1 a0 (wrap64 (x20_2 + 1))) = some r := rh_ hy351 H
        have Ny351 := Aside0.mk hy351
        clear hy351
        have H' := Aside0.mk H
        clear H
        go_wp2_with (first | ((with_reducible refine gate_dst (N := 27) rfl ?_); refine Kd.R_lit k64 _ 64 ?hg (N := 27) ?hd (xs := ([(⟨x20_2, x15_1, false, false⟩ : S64)] : List (S64))) (inner := [.int .i64 x20_2, .int .i64 x15_1, .bool false, .bool false]) (ok := fun _ => True) (okp := fun _ => True) ?hr ?hp (fun _ hk => hk) trivial (Below.refl _ _) (Nat.le_refl _) (by simp) ?_; (case hd => rfl); (case hg => rfl); (case hr => first | (go_simp; done) | (go_simp; rfl)); (case hp => exact (Reps.c4 (show Kd.M k64 _ _ _ (⟨x20_2, x15_1, false, false⟩ : S64) [.int .i64 x20_2, .int .i64 x15_1, .bool false, .bool false] from (k64_mkM _ _ _ (⟨x20_2, x15_1, false, false⟩ : S64) )) (Reps.none _ _))); intro v349 w11 ho12 hb hg_ hnew_; clear hg_ hnew_; (first | rw [← Ny348.out] at ho12 | (simp only [Int.reduceToNat] at ho12; rw [← Ny348.out] at ho12)); replace HO_7 := a_ (Kd.R_elder' (ra_ HO_7.out) (Kd.R_base ho12) hb); replace HO_9 := a_ (Kd.S_elder' (by (with_reducible repeat (first | apply Kd.S_alloc | apply Kd.S_drewN | apply Kd.S_drew)); exact HO_9.out) (Kd.R_base ho12) hb); have HO350 := a_ (Kd.R_lower ho12 (below_size z32_)); replace HB := a_ (below_step z32_ hb); clear hb ho12; obtain ⟨Ao14, co14, eo14⟩ := Kd.R_slice HO350.out; subst eo14) | ((with_reducible refine gate_builtin (b := .append) (xs := #[.tmp 23, .tmp 28]) rfl ?_); at_builtin; refine Kd.S_append (Kd.slice 64 k64) (w0 := w) w.heap.size rfl (.tmp 23) (.tmp 28) 96 61 (.slice none 0 0) 24 rfl Tryz.underlying96 info61 rfl (by decide) (by omega) u9 x9_2 y348 [.slice Ao14 y348.length co14] (fun _ => True) (fun k_ => some k_ = (.slice Ao14 y348.length co14 : Value).ownBlock) rfl rfl ?aP (fun k_ hk_ => ((Kd.R_mono (ok' := fun k_ => ((fun _ => True)) k_ ∧ some k_ ≠ (u9 : Value).ownBlock) (Kd.R_apart' (HO350.out) (Kd.S_typed HO_9.out) (by decide)) (fun k_ hk => ⟨trivial, hk.2⟩))).1 k_ hk_.symm) ?aF ?aO ?aB ?aS ?aL ?_; (case aP => exact Kd.M_row (Kd.R_mono (Kd.R_tight rfl (Kd.R_mono (ok' := fun k_ => ((fun _ => True)) k_ ∧ some k_ ≠ (u9 : Value).ownBlock) (Kd.R_apart' (HO350.out) (Kd.S_typed HO_9.out) (by decide)) (fun k_ hk => ⟨trivial, hk.2⟩))) (fun _ h_ => h_))); (case aB => exact z32_); (case aF => exact (fun _ _ => trivial)); (case aO => exact (by (with_reducible repeat (first | apply Kd.S_alloc | apply Kd.S_drewN | apply Kd.S_drew)); exact Kd.S_mono HO_9.out (fun k_ hk => ⟨trivial, fun e_ => hk.2 e_⟩))); (case aS => exact (below_size z32_)); (case aL => have := LMc10.out; omega); intro v352 w13 ho hb hg hat; rw [← Ny351.out] at ho; replace HO_7 := a_ (Kd.R_after (ok := (fun k_ => nb_ k_ Ao14 y348.length co14)) (rc_ (h := by exact Kd.R_mono HO_7.out (fun _ hk => ⟨hk.2, hk.1⟩))) hg hat); replace HB := a_ (hb); have HO353 := a_ (ho); clear HO350; clear HO_9; clear ho hb hg hat))
        go_roundg k2
        case measure => have := HK1.out; have := HK2.out; omega
        case rel => exact ⟨(y351), (wrap64 (x20_2 + 1)), z76_, H', ⟨z77_⟩, ⟨by (with_reducible repeat (first | apply Kd.R_alloc | apply Kd.R_drewN | apply Kd.R_drew)); exact Kd.R_mono HO_7.out (fun _ hk => hk.2)⟩, ⟨by (with_reducible repeat (first | apply Kd.S_alloc | apply Kd.S_drewN | apply Kd.S_drew)); exact HO353.out⟩, ⟨z32_⟩⟩
       ·rw [if_neg c10] at H
        exact absurd H (by simp)
      ·rw [if_neg c9] at H
       have c9b0 : decide (x20_2 < a0) = false := decide_eq_false c9
       clear c9
       by_cases c15 : x7_1.length < 5864062014805
       ·rw [if_pos c15] at H
        have LMc15 := Aside0.mk c15
        clear c15
        obtain ⟨y354, hy354⟩ : ∃ y_ : List (List (List (S64))), y_ = (x7_1 ++ [x9_2]) := ⟨_, rfl⟩
        replace H : (impl_foldSheet.l0 k2 a0 a2 y354 a1 (wrap64 (x15_1 + 1))) = some r := rh_ hy354 H
        have Ny354 := Aside0.mk hy354
        clear hy354
        have H' := Aside0.mk H
        clear H
        obtain ⟨Ao17, co17, eo17⟩ := Kd.S_slice HO_9.out
        subst eo17
        go_wp2_with (first | ((with_reducible refine gate_builtin (b := .append) (xs := #[.tmp 31, .tmp 33]) rfl ?_); at_builtin; refine Kd.R_append (Kd.slice 61 (Kd.slice 64 k64)) (w0 := w) w.heap.size rfl (.tmp 31) (.tmp 33) 95 96 (.slice none 0 0) 24 rfl Tryz.underlying95 info96 rfl (by decide) (by omega) u7 x7_1 x9_2 [.slice Ao17 x9_2.length co17] (fun _ => True) (fun k_ => ((fun _ => True)) k_ ∧ some k_ ≠ (u7 : Value).ownBlock) rfl rfl ?aP (fun _ hk => hk) ?aF ?aO ?aB ?aS ?aL ?_; (case aP => exact Kd.M_row (Kd.R_mono (Kd.R_apart' ((Kd.S_R HO_9.out)) (Kd.R_typed HO_7.out) (by decide)) (fun k_ hk => ⟨trivial, hk.2⟩))); (case aB => exact z32_); (case aF => exact (fun _ _ => trivial)); (case aO => exact (rc_ (h := by exact Kd.R_mono HO_7.out (fun _ hk => trivial)))); (case aS => exact (below_size z32_)); (case aL => have := LMc15.out; omega); intro v355 w16 ho hb hg hat; rw [← Ny354.out] at ho; replace HB := a_ (hb); have HO356 := a_ (ho); clear HO_7; clear HO_9; clear ho hb hg hat))
        go_roundg k2
        case measure => have := HK1.out; have := HK2.out; omega
        case rel => exact ⟨(y354), (wrap64 (x15_1 + 1)), z76_, H', ⟨z77_⟩, ⟨by (with_reducible repeat (first | apply Kd.R_alloc | apply Kd.R_drewN | apply Kd.R_drew)); exact HO356.out⟩, ⟨z32_⟩⟩
       ·rw [if_neg c15] at H
        exact absurd H (by simp)
   ·rw [if_neg c6] at H
    have c6b0 : decide (x15_1 < a1) = false := decide_eq_false c6
    clear c6
    have H' := Aside0.mk H
    clear H
    go_wp2
    go_loopg [7, 38] k1 (fun kq v7 v38 w' => ∃ (x7_2 : List (List (List (S64)))) (x38_2 : Int), v38 = .int .i64 x38_2 ∧ Aside0 (impl_foldSheet.l2 kq a2 x7_2 (a2.size : Int) x38_2 = some r) ∧ Aside0 (kq ≤ k1) ∧ Aside0 (Kd.R (Kd.slice 61 (Kd.slice 64 k64)) 96 w' w.heap.size (fun _ => True) v7 x7_2) ∧ Aside0 (Below w.heap.size w w'))
    case atStart => exact ⟨(x7_1), (0), z76_, H', ⟨Nat.le_refl _⟩, ⟨by (with_reducible repeat (first | apply Kd.R_alloc | apply Kd.R_drewN | apply Kd.R_drew)); exact HO_7.out⟩, ⟨z32_⟩⟩
    case round =>
     clear H'
     try clear c6b0
     obtain ⟨x7_2, x38_2, rfl, HA, HK2, HO_7, HB⟩ := hrel
     cases gk with
     | zero => exact absurd HA.out (by simp [impl_foldSheet.l2])
     | succ k2 =>
      have H := HA.out
      clear HA
      simp only [impl_foldSheet.l2] at H
      by_cases c18 : x38_2 < (a2.size : Int)
      ·rw [if_pos c18] at H
       have c18b0 : decide (x38_2 < (a2.size : Int)) = true := decide_eq_true c18
       clear c18
       by_cases c19 : 0 ≤ x38_2
       ·rw [if_pos c19] at H
        have c19b0 : decide (0 ≤ x38_2) = true := decide_eq_true c19
        clear c19
        by_cases c20 : x38_2 < (a2.size : Int)
        ·rw [if_pos c20] at H
         have c20b0 : decide (x38_2 < (a2.size : Int)) = true := decide_eq_true c20
         clear c20
         by_cases c22 : (bt a2 x38_2) = 84
         ·rw [if_pos c22] at H
          have c22b0 : ((bt a2 x38_2) == 84) = true := beq_iff_eq.mpr c22
          (try simp only [c22b0] at H)
          have c22b1 : ((bt a2 x38_2) != 84) = false := bne_eq_false_iff_eq.mpr c22
          clear c22
          by_cases c23 : (bt a2 x38_2) = 76
          ·rw [if_pos c23] at H
           have c23b0 : ((bt a2 x38_2) == 76) = true := beq_iff_eq.mpr c23
           (try simp only [c23b0] at H)
           have c23b1 : ((bt a2 x38_2) != 76) = false := bne_eq_false_iff_eq.mpr c23
           clear c23
           replace H := Option.bind_eq_some_iff.mp H
           obtain ⟨t357, A240, H⟩ := H
           replace H : (impl_foldSheet.l2 k2 a2 t357 (a2.size : Int) (wrap64 (x38_2 + 1))) = some r := H
           have A24 := Aside0.mk A240
           clear A240
           have H' := Aside0.mk H
           clear H
           have p21 : 0 ≤ (x38_2 : Int) := of_decide_eq_true z75_
           have q21 : x38_2 < (a2.size : Int) := of_decide_eq_true z75_
           have hx21 := bt_at a2 x38_2
           replace p21 := eq_true p21
           replace q21 := eq_true q21
           obtain ⟨Ao25, co25, eo25⟩ := Kd.R_slice HO_7.out
           subst eo25
           go_wp2_with (first | ((with_reducible refine gate_callee (f := 81) rfl ?_); refine goesL_ (some 57) rfl rfl Tryz.func81 (by kernel_rfl) rfl #[.slice Ao25 x7_2.length co25, .bool true, .bool true] rfl z34_ ?_; (with_reducible refine (impl_halved.calls k2 _ _ x7_2 true true t357 _ ?side1 ?side2 A24.out).mono ?_); (case side1 => exact z15_); (case side2 => exact (Kd.R_reads' HO_7.out).2.1); rintro e w26 ⟨v358, rfl, ho0, hb⟩; refine ⟨_, rfl, ?_⟩; have HO359 := a_ (Kd.R_lower (Kd.R_new' ho0 (Kd.R_lt (ra_ HO_7.out))) (below_size z32_)); replace HO_7 := a_ (Kd.R_elder' (ra_ HO_7.out) (Kd.R_base ho0) hb); replace HB := a_ (below_step z32_ hb); (try clear hb); (try clear hb2); (try clear hk); (try clear hi); (try clear ho0)))
           go_roundg k2
           case measure => have := HK1.out; have := HK2.out; omega
           case rel => exact ⟨(t357), (wrap64 (x38_2 + 1)), z76_, H', ⟨z77_⟩, ⟨by (with_reducible repeat (first | apply Kd.R_alloc | apply Kd.R_drewN | apply Kd.R_drew)); exact Kd.R_mono HO359.out (fun _ hk => trivial)⟩, ⟨z32_⟩⟩
          ·rw [if_neg c23] at H
           have c23b0 : ((bt a2 x38_2) == 76) = false := beq_eq_false_iff_ne.mpr c23
           (try simp only [c23b0] at H)
           have c23b1 : ((bt a2 x38_2) != 76) = true := bne_iff_ne.mpr c23
           replace H := Option.bind_eq_some_iff.mp H
           obtain ⟨t360, A270, H⟩ := H
           replace H : (impl_foldSheet.l2 k2 a2 t360 (a2.size : Int) (wrap64 (x38_2 + 1))) = some r := H
           have A27 := Aside0.mk A270
           clear A270
           have H' := Aside0.mk H
           clear H
           have p21 : 0 ≤ (x38_2 : Int) := of_decide_eq_true z75_
           have q21 : x38_2 < (a2.size : Int) := of_decide_eq_true z75_
           have hx21 := bt_at a2 x38_2
           replace p21 := eq_true p21
           replace q21 := eq_true q21
           obtain ⟨Ao28, co28, eo28⟩ := Kd.R_slice HO_7.out
           subst eo28
           go_wp2_with (first | ((with_reducible refine gate_callee (f := 81) rfl ?_); refine goesL_ (some 57) rfl rfl Tryz.func81 (by kernel_rfl) rfl #[.slice Ao28 x7_2.length co28, .bool true, .bool true] rfl z34_ ?_; (with_reducible refine (impl_halved.calls k2 _ _ x7_2 true true t360 _ ?side1 ?side2 A27.out).mono ?_); (case side1 => exact z15_); (case side2 => exact (Kd.R_reads' HO_7.out).2.1); rintro e w29 ⟨v361, rfl, ho0, hb⟩; refine ⟨_, rfl, ?_⟩; have HO362 := a_ (Kd.R_lower (Kd.R_new' ho0 (Kd.R_lt (ra_ HO_7.out))) (below_size z32_)); replace HO_7 := a_ (Kd.R_elder' (ra_ HO_7.out) (Kd.R_base ho0) hb); replace HB := a_ (below_step z32_ hb); (try clear hb); (try clear hb2); (try clear hk); (try clear hi); (try clear ho0)))
           go_roundg k2
           case measure => have := HK1.out; have := HK2.out; omega
           case rel => exact ⟨(t360), (wrap64 (x38_2 + 1)), z76_, H', ⟨z77_⟩, ⟨by (with_reducible repeat (first | apply Kd.R_alloc | apply Kd.R_drewN | apply Kd.R_drew)); exact Kd.R_mono HO362.out (fun _ hk => trivial)⟩, ⟨z32_⟩⟩
         ·rw [if_neg c22] at H
          have c22b0 : ((bt a2 x38_2) == 84) = false := beq_eq_false_iff_ne.mpr c22
          (try simp only [c22b0] at H)
          have c22b1 : ((bt a2 x38_2) != 84) = true := bne_iff_ne.mpr c22
          by_cases c30 : (bt a2 x38_2) = 76
          ·rw [if_pos c30] at H
           have c30b0 : ((bt a2 x38_2) == 76) = true := beq_iff_eq.mpr c30
           (try simp only [c30b0] at H)
           have c30b1 : ((bt a2 x38_2) != 76) = false := bne_eq_false_iff_eq.mpr c30
           clear c30
           replace H := Option.bind_eq_some_iff.mp H
           obtain ⟨t363, A310, H⟩ := H
           replace H : (impl_foldSheet.l2 k2 a2 t363 (a2.size : Int) (wrap64 (x38_2 + 1))) = some r := H
           have A31 := Aside0.mk A310
           clear A310
           have H' := Aside0.mk H
           clear H
           have p21 : 0 ≤ (x38_2 : Int) := of_decide_eq_true z75_
           have q21 : x38_2 < (a2.size : Int) := of_decide_eq_true z75_
           have hx21 := bt_at a2 x38_2
           replace p21 := eq_true p21
           replace q21 := eq_true q21
           obtain ⟨Ao32, co32, eo32⟩ := Kd.R_slice HO_7.out
           subst eo32
           go_wp2_with (first | ((with_reducible refine gate_callee (f := 81) rfl ?_); refine goesL_ (some 57) rfl rfl Tryz.func81 (by kernel_rfl) rfl #[.slice Ao32 x7_2.length co32, .bool ((bt a2 x38_2) == 66), .bool true] rfl z34_ ?_; (with_reducible refine (impl_halved.calls k2 _ _ x7_2 ((bt a2 x38_2) == 66) true t363 _ ?side1 ?side2 A31.out).mono ?_); (case side1 => exact z15_); (case side2 => exact (Kd.R_reads' HO_7.out).2.1); rintro e w33 ⟨v364, rfl, ho0, hb⟩; refine ⟨_, rfl, ?_⟩; have HO365 := a_ (Kd.R_lower (Kd.R_new' ho0 (Kd.R_lt (ra_ HO_7.out))) (below_size z32_)); replace HO_7 := a_ (Kd.R_elder' (ra_ HO_7.out) (Kd.R_base ho0) hb); replace HB := a_ (below_step z32_ hb); (try clear hb); (try clear hb2); (try clear hk); (try clear hi); (try clear ho0)))
           go_roundg k2
           case measure => have := HK1.out; have := HK2.out; omega
           case rel => exact ⟨(t363), (wrap64 (x38_2 + 1)), z76_, H', ⟨z77_⟩, ⟨by (with_reducible repeat (first | apply Kd.R_alloc | apply Kd.R_drewN | apply Kd.R_drew)); exact Kd.R_mono HO365.out (fun _ hk => trivial)⟩, ⟨z32_⟩⟩
          ·rw [if_neg c30] at H
           have c30b0 : ((bt a2 x38_2) == 76) = false := beq_eq_false_iff_ne.mpr c30
           (try simp only [c30b0] at H)
           have c30b1 : ((bt a2 x38_2) != 76) = true := bne_iff_ne.mpr c30
           replace H := Option.bind_eq_some_iff.mp H
           obtain ⟨t366, A340, H⟩ := H
           replace H : (impl_foldSheet.l2 k2 a2 t366 (a2.size : Int) (wrap64 (x38_2 + 1))) = some r := H
           have A34 := Aside0.mk A340
           clear A340
           have H' := Aside0.mk H
           clear H
           have p21 : 0 ≤ (x38_2 : Int) := of_decide_eq_true z75_
           have q21 : x38_2 < (a2.size : Int) := of_decide_eq_true z75_
           have hx21 := bt_at a2 x38_2
           replace p21 := eq_true p21
           replace q21 := eq_true q21
           obtain ⟨Ao35, co35, eo35⟩ := Kd.R_slice HO_7.out
           subst eo35
           go_wp2_with (first | ((with_reducible refine gate_callee (f := 81) rfl ?_); refine goesL_ (some 57) rfl rfl Tryz.func81 (by kernel_rfl) rfl #[.slice Ao35 x7_2.length co35, .bool ((bt a2 x38_2) == 66), .bool false] rfl z34_ ?_; (with_reducible refine (impl_halved.calls k2 _ _ x7_2 ((bt a2 x38_2) == 66) false t366 _ ?side1 ?side2 A34.out).mono ?_); (case side1 => exact z15_); (case side2 => exact (Kd.R_reads' HO_7.out).2.1); rintro e w36 ⟨v367, rfl, ho0, hb⟩; refine ⟨_, rfl, ?_⟩; have HO368 := a_ (Kd.R_lower (Kd.R_new' ho0 (Kd.R_lt (ra_ HO_7.out))) (below_size z32_)); replace HO_7 := a_ (Kd.R_elder' (ra_ HO_7.out) (Kd.R_base ho0) hb); replace HB := a_ (below_step z32_ hb); (try clear hb); (try clear hb2); (try clear hk); (try clear hi); (try clear ho0)))
           go_roundg k2
           case measure => have := HK1.out; have := HK2.out; omega
           case rel => exact ⟨(t366), (wrap64 (x38_2 + 1)), z76_, H', ⟨z77_⟩, ⟨by (with_reducible repeat (first | apply Kd.R_alloc | apply Kd.R_drewN | apply Kd.R_drew)); exact Kd.R_mono HO368.out (fun _ hk => trivial)⟩, ⟨z32_⟩⟩
        ·rw [if_neg c20] at H
         exact absurd H (by simp)
       ·rw [if_neg c19] at H
        exact absurd H (by simp)
      ·rw [if_neg c18] at H
       have c18b0 : decide (x38_2 < (a2.size : Int)) = false := decide_eq_false c18
       clear c18
       by_cases c37 : 0 < (x7_2.length : Int)
       ·rw [if_pos c37] at H
        have c37b0 : decide (0 < (x7_2.length : Int)) = true := decide_eq_true c37
        have c37b1 : decide (0 < x7_2.length) = true := decide_eq_true (by omega)
        clear c37
        by_cases c38 : 0 < ((rd_L4 x7_2 0).length : Int)
        ·rw [if_pos c38] at H
         have c38b0 : decide (0 < ((rd_L4 x7_2 0).length : Int)) = true := decide_eq_true c38
         have c38b1 : decide (0 < (rd_L4 x7_2 0).length) = true := decide_eq_true (by omega)
         clear c38
         obtain rfl := Option.some.inj H
         obtain ⟨Ao39, co39, eo39⟩ := Kd.R_slice HO_7.out
         subst eo39
         have p369 : 0 ≤ (0 : Int) := (by omega)
         have q369 : 0 < (x7_2.length : Int) := of_decide_eq_true z75_
         obtain ⟨ad369, A369_0, c369_0, e369, hx369_0, hl369_0, hi369_0⟩ := at_L4 (Kd.R_reads' HO_7.out).2.2 0 p369 q369
         cases e369
         obtain ⟨ce369, hce369, hMe369, hcc369⟩ := Kd.R_get HO_7.out [] 0 p369 (by first | exact q369 | exact of_decide_eq_true z75_ | (have e_ := (Kd.R_reads' HO_7.out).1; omega))
         obtain ⟨ve369_0, rfl, ge369_0⟩ := hMe369
         have hv369_0 := hcc369 0 _ rfl
         rw [Nat.add_zero, show ((Kd.slice 61 (Kd.slice 64 k64))).sz = 1 from rfl, Nat.mul_one] at hv369_0
         replace hv369_0 := Option.some.inj (hv369_0.symm.trans hx369_0)
         rw [hv369_0] at ge369_0
         have HL369_0 := a_ (show Kd.R (Kd.slice 64 k64) 61 _ _ _ _ (rd_L4 x7_2 0) from ge369_0)
         clear hv369_0 ge369_0
         clear hcc369 hce369
         have qi369 : (0 < x7_2.length) = True := eq_true (by omega)
         (try rw [show ((0 : Int)).toNat = 0 from rfl] at hx369_0)
         (try rw [Addr.add_zero'] at hx369_0)
         have HR369_0 := Aside0.mk hi369_0
         have HC369_0 := Aside0.mk hl369_0
         clear hi369_0 hl369_0
         replace p369 := eq_true p369
         replace q369 := eq_true q369
         have p370 : 0 ≤ (0 : Int) := (by omega)
         have q370 : 0 < ((rd_L4 x7_2 0).length : Int) := of_decide_eq_true z75_
         obtain ⟨ad370, A370_0, c370_0, e370, hx370_0, hl370_0, hi370_0⟩ := at_L3 (by repeat (first | (with_reducible exact HR369_0.out) | (with_reducible refine Kd.C_alloc ?_ _) | (with_reducible refine Kd.C_drewN ?_ _) | (with_reducible refine Kd.C_drew ?_) | exact HR369_0.out)) 0 p370 q370
         cases e370
         obtain ⟨ce370, hce370, hMe370, hcc370⟩ := Kd.R_get HL369_0.out [] 0 p370 (by first | exact q370 | exact of_decide_eq_true z75_ | (have e_ := (Kd.R_reads' HL369_0.out).1; omega))
         obtain ⟨ve370_0, rfl, ge370_0⟩ := hMe370
         have hv370_0 := hcc370 0 _ rfl
         rw [Nat.add_zero, show ((Kd.slice 64 k64)).sz = 1 from rfl, Nat.mul_one] at hv370_0
         replace hv370_0 := Option.some.inj (hv370_0.symm.trans hx370_0)
         rw [hv370_0] at ge370_0
         have HL370_0 := a_ (show Kd.R k64 64 _ _ _ _ (rd_L3 (rd_L4 x7_2 0) 0) from ge370_0)
         clear hv370_0 ge370_0
         clear hcc370 hce370
         have qi370 : (0 < (rd_L4 x7_2 0).length) = True := eq_true (by omega)
         (try rw [show ((0 : Int)).toNat = 0 from rfl] at hx370_0)
         (try rw [Addr.add_zero'] at hx370_0)
         have HR370_0 := Aside0.mk hi370_0
         have HC370_0 := Aside0.mk hl370_0
         clear hi370_0 hl370_0
         replace p370 := eq_true p370
         replace q370 := eq_true q370
         go_wp2
         go_ret
         exact ⟨_, z33_, by (with_reducible repeat (first | apply Kd.R_alloc | apply Kd.R_drewN | apply Kd.R_drew)); exact Kd.R_mono HL370_0.out (fun _ hk => trivial), z32_⟩
        ·rw [if_neg c38] at H
         exact absurd H (by simp)
       ·rw [if_neg c37] at H
        exact absurd H (by simp)

/-! ### impl_downLeaf: function 45 -/
def impl_downLeaf.f (a0_0 : Int) (a0_1 : Int) (a0_2 : Bool) (a0_3 : Bool) : Option (Bool) := some (a0_2 != a0_3)
set_option maxHeartbeats 8000000 in
set_option maxRecDepth 100000 in
theorem impl_downLeaf.calls (a0_0 : Int) (a0_1 : Int) (a0_2 : Bool) (a0_3 : Bool) (r : Bool) (w : World) (h : impl_downLeaf.f a0_0 a0_1 a0_2 a0_3 = some r) :
  Calls Tryz.prog 45 #[.agg #[.int .i64 a0_0, .int .i64 a0_1, .bool a0_2, .bool a0_3]] w fun e w' => e = .returned (.bool r) ∧ Below w.heap.size w w' := by
 have hu64 := Tryz.underlying64
 have HB := a_ (Below.refl w.heap.size w)
 have H : (some (a0_2 != a0_3)) = some r := h
 clear h
 obtain rfl := Option.some.inj H
 go_enter Tryz.func45, Tryz.ntmps45
 go_wp2_with (first | ((with_reducible refine gate_dst (N := 1) rfl ?_); refine box_event ?hg (N := 1) ?hd (cs := #[.int .i64 a0_0, .int .i64 a0_1, .bool a0_2, .bool a0_3]) (t := 64) ?hr ?_; (case hd => rfl); (case hg => rfl); (case hr => first | (go_simp; done) | (go_simp; rfl)); intro gb371 hg w2 hbox hb; have BK371 := a_ (hbox); have GW371 := a_ ((z31_ : w.heap.size ≤ gb371)); have GE371 := a_ ((z31_ : w.heap.size ≤ gb371)); replace HB := a_ (below_step z32_ hb); clear hb hbox hg; obtain ⟨hcz3_0, hcz3_1, hcz3_2, hcz3_3, hfz3_0, hfz3_1, hfz3_2, hfz3_3⟩ := cz4_ (w := w2) BK371.out))
 go_ret
 exact ⟨z33_, by repeat (first | (with_reducible first | exact HB.out | apply below_alloc | apply pw_below_drewN | apply below_drew1 | refine below_set ?_ GE371.out) | exact HB.out)⟩

/-! ### impl_frontPlace: function 46 -/
def impl_frontPlace.f (a0 : Int) (a1 : Int) (a2 : Int) : Option (Int) := some (wrap64 ((wrap64 (a2 * a0)) + a1))
set_option maxHeartbeats 8000000 in
set_option maxRecDepth 100000 in
theorem impl_frontPlace.calls (a0 : Int) (a1 : Int) (a2 : Int) (r : Int) (w : World) (h : impl_frontPlace.f a0 a1 a2 = some r) :
  Calls Tryz.prog 46 #[.int .i64 a0, .int .i64 a1, .int .i64 a2] w fun e w' => e = .returned (.int .i64 r) ∧ Drawn0 w w' := by
 have H : (some (wrap64 ((wrap64 (a2 * a0)) + a1))) = some r := h
 clear h
 obtain rfl := Option.some.inj H
 go_enter Tryz.func46, Tryz.ntmps46
 go_wp2
 go_ret
 exact ⟨z65_, z71_⟩

/-! ### impl_backPlace: function 47 -/
def impl_backPlace.f (a0 : Int) (a1 : Int) (a2 : Int) : Option (Int) := some (wrap64 ((wrap64 ((wrap64 ((wrap64 (a2 * a0)) + a0)) - 1)) - a1))
set_option maxHeartbeats 8000000 in
set_option maxRecDepth 100000 in
theorem impl_backPlace.calls (a0 : Int) (a1 : Int) (a2 : Int) (r : Int) (w : World) (h : impl_backPlace.f a0 a1 a2 = some r) :
  Calls Tryz.prog 47 #[.int .i64 a0, .int .i64 a1, .int .i64 a2] w fun e w' => e = .returned (.int .i64 r) ∧ Drawn0 w w' := by
 have H : (some (wrap64 ((wrap64 ((wrap64 ((wrap64 (a2 * a0)) + a0)) - 1)) - a1))) = some r := h
 clear h
 obtain rfl := Option.some.inj H
 go_enter Tryz.func47, Tryz.ntmps47
 go_wp2
 go_ret
 exact ⟨z65_, z71_⟩

/-! ### impl_toInt: function 48 -/
def impl_toInt.f (a0 : Bool) : Option (Int) := if a0 = true then (some 1) else (some 0)
set_option maxHeartbeats 8000000 in
set_option maxRecDepth 100000 in
theorem impl_toInt.calls (a0 : Bool) (r : Int) (w : World) (h : impl_toInt.f a0 = some r) :
  Calls Tryz.prog 48 #[.bool a0] w fun e w' => e = .returned (.int .i64 r) ∧ Drawn0 w w' := by
 have H : (if a0 = true then (some 1) else (some 0)) = some r := h
 clear h
 by_cases c2 : a0 = true
 ·subst c2
  have H1 : (some 1) = some r := by rw [if_pos rfl] at H; exact H
  clear H
  have H := H1
  clear H1
  obtain rfl := Option.some.inj H
  go_enter Tryz.func48, Tryz.ntmps48
  go_wp2
  go_ret
  exact ⟨z65_, z71_⟩
 ·replace c2 := Bool.eq_false_iff.mpr c2
  subst c2
  have H1 : (some 0) = some r := by rw [if_neg (show ¬ (false = true) by decide)] at H; exact H
  clear H
  have H := H1
  clear H1
  obtain rfl := Option.some.inj H
  go_enter Tryz.func48, Tryz.ntmps48
  go_wp2
  go_ret
  exact ⟨z65_, z71_⟩

/-! ### impl_readForm: function 70 -/
mutual
def impl_readForm.l0 : Nat → List Int → List (S64) → Int → Int → Int → Int → List Int → List Int → List Int → Option (List Int)
 | 0, _, _, _, _, _, _, _, _, _ => none
 | k + 1, x5, x17, x18, x19, x373000, x373001, x373002, x373003, x373004 => if x19 < x18 then (if 0 ≤ x19 then (if x19 < (x17.length : Int) then ((impl_frontPlace.f x373000 ((rd_T64 x17 x19).f0) ((rd_T64 x17 x19).f1)).bind fun t381 => (if 0 ≤ t381 then (if t381 < (x373002.length : Int) then ((impl_backPlace.f x373000 ((rd_T64 x17 x19).f0) ((rd_T64 x17 x19).f1)).bind fun t383 => (if 0 ≤ t383 then (if t383 < (x373003.length : Int) then ((impl_downLeaf.f ((rd_T64 x17 x19).f0) ((rd_T64 x17 x19).f1) ((rd_T64 x17 x19).f2) ((rd_T64 x17 x19).f3)).bind fun t385 => (if t385 = true then (impl_readForm.j1 k x5 t381 (rd x373003 t383) (rd x373002 t381) x17 x18 x19 x373000 x373001 x373002 x373003 x373004 ((rd_T64 x17 x19).f0) ((rd_T64 x17 x19).f1) ((rd_T64 x17 x19).f2) ((rd_T64 x17 x19).f3)) else (impl_readForm.j1 k x5 t381 (rd x373002 t381) (rd x373003 t383) x17 x18 x19 x373000 x373001 x373002 x373003 x373004 ((rd_T64 x17 x19).f0) ((rd_T64 x17 x19).f1) ((rd_T64 x17 x19).f2) ((rd_T64 x17 x19).f3)))) else (none)) else (none))) else (none)) else (none))) else (none)) else (none)) else (some x5)
def impl_readForm.j1 : Nat → List Int → Int → Int → Int → List (S64) → Int → Int → Int → Int → List Int → List Int → List Int → Int → Int → Bool → Bool → Option (List Int)
 | 0, _, _, _, _, _, _, _, _, _, _, _, _, _, _, _, _ => none
 | k + 1, x5, x8, x9, x10, x17, x18, x19, x373000, x373001, x373002, x373003, x373004, x381000, x381001, x381002, x381003 => if 0 ≤ x8 then (if x8 < (x373004.length : Int) then ((impl_toInt.f x381003).bind fun t387 => (if (rd x373004 x8) = t387 then ((some (([x9, x10] : List Int) : List Int)).bind fun y388 => (if x5.length + y388.length < 17592186044416 then (impl_readForm.l0 k (x5 ++ y388) x17 x18 (wrap64 (x19 + 1)) x373000 x373001 x373002 x373003 x373004) else (none))) else ((some (([wrap64 (-x9), wrap64 (-x10)] : List Int) : List Int)).bind fun y394 => (if x5.length + y394.length < 17592186044416 then (impl_readForm.l0 k (x5 ++ y394) x17 x18 (wrap64 (x19 + 1)) x373000 x373001 x373002 x373003 x373004) else (none))))) else (none)) else (none)
end
def impl_readForm.f (k : Nat) (a0_0 : Int) (a0_1 : Int) (l0_2 : List Int) (l0_3 : List Int) (l0_4 : List Int) (a1 : ByteArray) : Option (List Int) := (impl_foldSheet.f k a0_0 a0_1 a1).bind fun t376 => (impl_readForm.l0 k (([] : List Int)) t376 (t376.length : Int) 0 a0_0 a0_1 l0_2 l0_3 l0_4)
theorem impl_readForm.mono_l : ∀ k, (∀ y0 y1 y2 y3 y4 y5 y6 y7 y8, LeO (impl_readForm.l0 k y0 y1 y2 y3 y4 y5 y6 y7 y8) (impl_readForm.l0 (k + 1) y0 y1 y2 y3 y4 y5 y6 y7 y8)) ∧ (∀ y0 y1 y2 y3 y4 y5 y6 y7 y8 y9 y10 y11 y12 y13 y14 y15, LeO (impl_readForm.j1 k y0 y1 y2 y3 y4 y5 y6 y7 y8 y9 y10 y11 y12 y13 y14 y15) (impl_readForm.j1 (k + 1) y0 y1 y2 y3 y4 y5 y6 y7 y8 y9 y10 y11 y12 y13 y14 y15))
 | 0 => ⟨fun _ _ _ _ _ _ _ _ _ r h => by simp [impl_readForm.l0] at h, fun _ _ _ _ _ _ _ _ _ _ _ _ _ _ _ _ r h => by simp [impl_readForm.j1] at h⟩
 | k + 1 => by
  obtain ⟨ih0, ih1⟩ := impl_readForm.mono_l k
  refine ⟨?_, ?_⟩
  ·intro y0 y1 y2 y3 y4 y5 y6 y7 y8
   unfold impl_readForm.l0
   repeat' first
   | (with_reducible exact ih0 _ _ _ _ _ _ _ _ _)
   | (with_reducible exact ih1 _ _ _ _ _ _ _ _ _ _ _ _ _ _ _ _)
   | (with_reducible exact impl_foldSheet.mono _ _ _ _)
   | (with_reducible exact LeO.refl _)
   | (with_reducible exact LeO.none _)
   | (with_reducible refine LeO.ite ?_ ?_)
   | (with_reducible refine LeO.bind ?_ (fun _ => ?_))
   | exact ih0 _ _ _ _ _ _ _ _ _
   | exact ih1 _ _ _ _ _ _ _ _ _ _ _ _ _ _ _ _
   | exact impl_foldSheet.mono _ _ _ _
   | exact LeO.none _
   | refine LeO.ite ?_ ?_
   | refine LeO.bind ?_ (fun _ => ?_)
  ·intro y0 y1 y2 y3 y4 y5 y6 y7 y8 y9 y10 y11 y12 y13 y14 y15
   unfold impl_readForm.j1
   repeat' first
   | (with_reducible exact ih0 _ _ _ _ _ _ _ _ _)
   | (with_reducible exact ih1 _ _ _ _ _ _ _ _ _ _ _ _ _ _ _ _)
   | (with_reducible exact impl_foldSheet.mono _ _ _ _)
   | (with_reducible exact LeO.refl _)
   | (with_reducible exact LeO.none _)
   | (with_reducible refine LeO.ite ?_ ?_)
   | (with_reducible refine LeO.bind ?_ (fun _ => ?_))
   | exact ih0 _ _ _ _ _ _ _ _ _
   | exact ih1 _ _ _ _ _ _ _ _ _ _ _ _ _ _ _ _
   | exact impl_foldSheet.mono _ _ _ _
   | exact LeO.none _
   | refine LeO.ite ?_ ?_
   | refine LeO.bind ?_ (fun _ => ?_)
theorem impl_readForm.mono : ∀ a0 a1 a2 a3 a4 a5 k, LeO (impl_readForm.f k a0 a1 a2 a3 a4 a5) (impl_readForm.f (k + 1) a0 a1 a2 a3 a4 a5) := by
 intro a0 a1 a2 a3 a4 a5 k
 obtain ⟨ih0, ih1⟩ := impl_readForm.mono_l k
 unfold impl_readForm.f
 repeat' first
   | (with_reducible exact ih0 _ _ _ _ _ _ _ _ _)
   | (with_reducible exact ih1 _ _ _ _ _ _ _ _ _ _ _ _ _ _ _ _)
   | (with_reducible exact impl_foldSheet.mono _ _ _ _)
   | (with_reducible exact LeO.refl _)
   | (with_reducible exact LeO.none _)
   | (with_reducible refine LeO.ite ?_ ?_)
   | (with_reducible refine LeO.bind ?_ (fun _ => ?_))
   | exact ih0 _ _ _ _ _ _ _ _ _
   | exact ih1 _ _ _ _ _ _ _ _ _ _ _ _ _ _ _ _
   | exact impl_foldSheet.mono _ _ _ _
   | exact LeO.none _
   | refine LeO.ite ?_ ?_
   | refine LeO.bind ?_ (fun _ => ?_)
set_option maxHeartbeats 8000000 in
set_option maxRecDepth 100000 in
theorem impl_readForm.calls (k : Nat) (a0_0 : Int) (a0_1 : Int) (A0_2 : Option Addr) (c0_2 : Nat) (l0_2 : List Int) (A0_3 : Option Addr) (c0_3 : Nat) (l0_3 : List Int) (A0_4 : Option Addr) (c0_4 : Nat) (l0_4 : List Int) (a1 : ByteArray) (r : List Int) (w : World) (hr0_2 : Kd.C (Kd.int .i64) w A0_2 l0_2.length l0_2) (hc0_2 : l0_2.length ≤ c0_2) (hr0_3 : Kd.C (Kd.int .i64) w A0_3 l0_3.length l0_3) (hc0_3 : l0_3.length ≤ c0_3) (hr0_4 : Kd.C (Kd.int .i64) w A0_4 l0_4.length l0_4) (hc0_4 : l0_4.length ≤ c0_4) (h : impl_readForm.f k a0_0 a0_1 l0_2 l0_3 l0_4 a1 = some r) :
  Calls Tryz.prog 70 #[.agg #[.int .i64 a0_0, .int .i64 a0_1, .slice A0_2 l0_2.length c0_2, .slice A0_3 l0_3.length c0_3, .slice A0_4 l0_4.length c0_4], .string a1] w fun e w' => ∃ v0_ : Value, e = .returned (v0_) ∧ Kd.R (Kd.int .i64) 2 w' w.heap.size (fun _ => True) v0_ r ∧ Below w.heap.size w w' := by
 have hu28 := Tryz.underlying28
 have hu64 := Tryz.underlying64
 have HR0_2 := Aside0.mk hr0_2
 have HC0_2 := Aside0.mk hc0_2
 clear hr0_2 hc0_2
 have HR0_3 := Aside0.mk hr0_3
 have HC0_3 := Aside0.mk hc0_3
 clear hr0_3 hc0_3
 have HR0_4 := Aside0.mk hr0_4
 have HC0_4 := Aside0.mk hc0_4
 clear hr0_4 hc0_4
 have HB := a_ (Below.refl w.heap.size w)
 have H : ((impl_foldSheet.f k a0_0 a0_1 a1).bind fun t376 => (impl_readForm.l0 k (([] : List Int)) t376 (t376.length : Int) 0 a0_0 a0_1 l0_2 l0_3 l0_4)) = some r := h
 clear h
 obtain ⟨y373, hy373⟩ : ∃ y_ : List Int, y_ = (([] : List Int)) := ⟨_, rfl⟩
 replace H : ((impl_foldSheet.f k a0_0 a0_1 a1).bind fun t376 => (impl_readForm.l0 k y373 t376 (t376.length : Int) 0 a0_0 a0_1 l0_2 l0_3 l0_4)) = some r := rh_ hy373 H
 have Ny373 := Aside0.mk hy373
 clear hy373
 replace H := Option.bind_eq_some_iff.mp H
 obtain ⟨t376, A30, H⟩ := H
 replace H : (impl_readForm.l0 k y373 t376 (t376.length : Int) 0 a0_0 a0_1 l0_2 l0_3 l0_4) = some r := H
 have A3 := Aside0.mk A30
 clear A30
 have H' := Aside0.mk H
 clear H
 go_enter Tryz.func70, Tryz.ntmps70
 go_wp2_with (first | ((with_reducible refine gate_dst (N := 2) rfl ?_); refine box_event ?hg (N := 2) ?hd (cs := #[.int .i64 a0_0, .int .i64 a0_1, .slice A0_2 l0_2.length c0_2, .slice A0_3 l0_3.length c0_3, .slice A0_4 l0_4.length c0_4]) (t := 28) ?hr ?_; (case hd => rfl); (case hg => rfl); (case hr => first | (go_simp; done) | (go_simp; rfl)); intro gb372 hg w4 hbox hb; have BK372 := a_ (hbox); have GW372 := a_ ((z31_ : w.heap.size ≤ gb372)); have GE372 := a_ ((z31_ : w.heap.size ≤ gb372)); replace HB := a_ (below_step z32_ hb); clear hb hbox hg) | ((with_reducible refine gate_dst (N := 11) rfl ?_); refine Kd.R_lit (Kd.int .i64) _ 2 ?hg (N := 11) ?hd (xs := ([] : List Int)) (inner := []) (ok := fun _ => True) (okp := fun _ => True) ?hr ?hp (fun _ hk => hk) trivial (Below.refl _ _) (Nat.le_refl _) (by simp) ?_; (case hd => rfl); (case hg => rfl); (case hr => first | (go_simp; done) | (go_simp; rfl)); (case hp => exact (Reps.none _ _)); intro v374 w5 ho6 hb hg_ hnew_; clear hg_ hnew_; (first | rw [← Ny373.out] at ho6 | (simp only [Int.reduceToNat] at ho6; rw [← Ny373.out] at ho6)); have HO375 := a_ (Kd.R_lower ho6 (below_size z26_)); replace BK372 := a_ (blk_below (g := gb372) (rb_ BK372.out) hb); replace HB := a_ (below_step z26_ hb); clear hb ho6; obtain ⟨hcz7_0, hcz7_1, hcz7_2, hcz7_3, hcz7_4, hfz7_0, hfz7_1, hfz7_2, hfz7_3, hfz7_4⟩ := cz5_ (w := w5) BK372.out) | (go_at_call 44; (with_reducible refine (impl_foldSheet.calls k a0_0 a0_1 a1 t376 _ A3.out).mono ?_); rintro e w8 ⟨v377, rfl, ho0, hb⟩; replace HO375 := a_ (Kd.R_below (ra_ HO375.out) hb); have HO378 := a_ (Kd.R_lower ho0 (below_size z26_)); replace BK372 := a_ (blk_below (g := gb372) (rb_ BK372.out) hb); replace HB := a_ (below_step z26_ hb); (try clear hb); (try clear hb2); (try clear hk); (try clear hi); (try clear ho0); obtain ⟨Ao9, co9, eo9⟩ := Kd.R_slice HO378.out; subst eo9))
 repeat (go_quiet (first | ((with_reducible refine gate_dst (N := 2) rfl ?_); refine box_event ?hg (N := 2) ?hd (cs := #[.int .i64 a0_0, .int .i64 a0_1, .slice A0_2 l0_2.length c0_2, .slice A0_3 l0_3.length c0_3, .slice A0_4 l0_4.length c0_4]) (t := 28) ?hr ?_; (case hd => rfl); (case hg => rfl); (case hr => first | (go_simp; done) | (go_simp; rfl)); intro gb372 hg w4 hbox hb; have BK372 := a_ (hbox); have GW372 := a_ ((z31_ : w.heap.size ≤ gb372)); have GE372 := a_ ((z31_ : w.heap.size ≤ gb372)); replace HB := a_ (below_step z32_ hb); clear hb hbox hg) | ((with_reducible refine gate_dst (N := 11) rfl ?_); refine Kd.R_lit (Kd.int .i64) _ 2 ?hg (N := 11) ?hd (xs := ([] : List Int)) (inner := []) (ok := fun _ => True) (okp := fun _ => True) ?hr ?hp (fun _ hk => hk) trivial (Below.refl _ _) (Nat.le_refl _) (by simp) ?_; (case hd => rfl); (case hg => rfl); (case hr => first | (go_simp; done) | (go_simp; rfl)); (case hp => exact (Reps.none _ _)); intro v374 w5 ho6 hb hg_ hnew_; clear hg_ hnew_; (first | rw [← Ny373.out] at ho6 | (simp only [Int.reduceToNat] at ho6; rw [← Ny373.out] at ho6)); have HO375 := a_ (Kd.R_lower ho6 (below_size z26_)); replace BK372 := a_ (blk_below (g := gb372) (rb_ BK372.out) hb); replace HB := a_ (below_step z26_ hb); clear hb ho6; obtain ⟨hcz7_0, hcz7_1, hcz7_2, hcz7_3, hcz7_4, hfz7_0, hfz7_1, hfz7_2, hfz7_3, hfz7_4⟩ := cz5_ (w := w5) BK372.out) | (go_at_call 44; (with_reducible refine (impl_foldSheet.calls k a0_0 a0_1 a1 t376 _ A3.out).mono ?_); rintro e w8 ⟨v377, rfl, ho0, hb⟩; replace HO375 := a_ (Kd.R_below (ra_ HO375.out) hb); have HO378 := a_ (Kd.R_lower ho0 (below_size z26_)); replace BK372 := a_ (blk_below (g := gb372) (rb_ BK372.out) hb); replace HB := a_ (below_step z26_ hb); (try clear hb); (try clear hb2); (try clear hk); (try clear hi); (try clear ho0); obtain ⟨Ao9, co9, eo9⟩ := Kd.R_slice HO378.out; subst eo9)); try go_wp2_with (first | ((with_reducible refine gate_dst (N := 2) rfl ?_); refine box_event ?hg (N := 2) ?hd (cs := #[.int .i64 a0_0, .int .i64 a0_1, .slice A0_2 l0_2.length c0_2, .slice A0_3 l0_3.length c0_3, .slice A0_4 l0_4.length c0_4]) (t := 28) ?hr ?_; (case hd => rfl); (case hg => rfl); (case hr => first | (go_simp; done) | (go_simp; rfl)); intro gb372 hg w4 hbox hb; have BK372 := a_ (hbox); have GW372 := a_ ((z31_ : w.heap.size ≤ gb372)); have GE372 := a_ ((z31_ : w.heap.size ≤ gb372)); replace HB := a_ (below_step z32_ hb); clear hb hbox hg) | ((with_reducible refine gate_dst (N := 11) rfl ?_); refine Kd.R_lit (Kd.int .i64) _ 2 ?hg (N := 11) ?hd (xs := ([] : List Int)) (inner := []) (ok := fun _ => True) (okp := fun _ => True) ?hr ?hp (fun _ hk => hk) trivial (Below.refl _ _) (Nat.le_refl _) (by simp) ?_; (case hd => rfl); (case hg => rfl); (case hr => first | (go_simp; done) | (go_simp; rfl)); (case hp => exact (Reps.none _ _)); intro v374 w5 ho6 hb hg_ hnew_; clear hg_ hnew_; (first | rw [← Ny373.out] at ho6 | (simp only [Int.reduceToNat] at ho6; rw [← Ny373.out] at ho6)); have HO375 := a_ (Kd.R_lower ho6 (below_size z26_)); replace BK372 := a_ (blk_below (g := gb372) (rb_ BK372.out) hb); replace HB := a_ (below_step z26_ hb); clear hb ho6; obtain ⟨hcz7_0, hcz7_1, hcz7_2, hcz7_3, hcz7_4, hfz7_0, hfz7_1, hfz7_2, hfz7_3, hfz7_4⟩ := cz5_ (w := w5) BK372.out) | (go_at_call 44; (with_reducible refine (impl_foldSheet.calls k a0_0 a0_1 a1 t376 _ A3.out).mono ?_); rintro e w8 ⟨v377, rfl, ho0, hb⟩; replace HO375 := a_ (Kd.R_below (ra_ HO375.out) hb); have HO378 := a_ (Kd.R_lower ho0 (below_size z26_)); replace BK372 := a_ (blk_below (g := gb372) (rb_ BK372.out) hb); replace HB := a_ (below_step z26_ hb); (try clear hb); (try clear hb2); (try clear hk); (try clear hi); (try clear ho0); obtain ⟨Ao9, co9, eo9⟩ := Kd.R_slice HO378.out; subst eo9)))
 go_loopg [5, 19] k (fun kq v5 v19 w' => ∃ (x5_1 : List Int) (x19_1 : Int), v19 = .int .i64 x19_1 ∧ Aside0 (impl_readForm.l0 kq x5_1 t376 (t376.length : Int) x19_1 a0_0 a0_1 l0_2 l0_3 l0_4 = some r) ∧ Aside0 (kq ≤ k) ∧ Aside0 (Kd.R (Kd.int .i64) 2 w' w.heap.size (fun _ => True) v5 x5_1) ∧ Aside0 (Kd.R k64 64 w' w.heap.size (fun _ => True) (.slice Ao9 t376.length co9) t376) ∧ Aside0 (w'.heap[gb372]? = some (.cells #[.int .i64 a0_0, .int .i64 a0_1, (.slice A0_2 l0_2.length c0_2), (.slice A0_3 l0_3.length c0_3), (.slice A0_4 l0_4.length c0_4)] 28 (0, 0))) ∧ Aside0 (Below w.heap.size w w'))
 case atStart => exact ⟨(y373), (0), z76_, H', ⟨Nat.le_refl _⟩, ⟨by (with_reducible repeat (first | apply Kd.R_alloc | apply Kd.R_drewN | apply Kd.R_drew)); exact HO375.out⟩, ⟨by (with_reducible repeat (first | apply Kd.R_alloc | apply Kd.R_drewN | apply Kd.R_drew)); exact HO378.out⟩, ⟨z56_⟩, ⟨z26_⟩⟩
 case round =>
  clear H'
  try clear hcz7_0 hcz7_1 hcz7_2 hcz7_3 hcz7_4; try clear hfz7_0 hfz7_1 hfz7_2 hfz7_3 hfz7_4
  obtain ⟨x5_1, x19_1, rfl, HA, HK1, HO_5, HO_17, BK372, HB⟩ := hrel
  cases gk with
  | zero => exact absurd HA.out (by simp [impl_readForm.l0])
  | succ k1 =>
   have H := HA.out
   clear HA
   simp only [impl_readForm.l0] at H
   by_cases c10 : x19_1 < (t376.length : Int)
   ·rw [if_pos c10] at H
    have c10b0 : decide (x19_1 < (t376.length : Int)) = true := decide_eq_true c10
    clear c10
    by_cases c11 : 0 ≤ x19_1
    ·rw [if_pos c11] at H
     have c11b0 : decide (0 ≤ x19_1) = true := decide_eq_true c11
     clear c11
     by_cases c12 : x19_1 < (t376.length : Int)
     ·rw [if_pos c12] at H
      have c12b0 : decide (x19_1 < (t376.length : Int)) = true := decide_eq_true c12
      clear c12
      replace H := Option.bind_eq_some_iff.mp H
      obtain ⟨t381, A130, H⟩ := H
      replace H : (if 0 ≤ t381 then (if t381 < (l0_2.length : Int) then ((impl_backPlace.f a0_0 ((rd_T64 t376 x19_1).f0) ((rd_T64 t376 x19_1).f1)).bind fun t383 => (if 0 ≤ t383 then (if t383 < (l0_3.length : Int) then ((impl_downLeaf.f ((rd_T64 t376 x19_1).f0) ((rd_T64 t376 x19_1).f1) ((rd_T64 t376 x19_1).f2) ((rd_T64 t376 x19_1).f3)).bind fun t385 => (if t385 = true then (impl_readForm.j1 k1 x5_1 t381 (rd l0_3 t383) (rd l0_2 t381) t376 (t376.length : Int) x19_1 a0_0 a0_1 l0_2 l0_3 l0_4 ((rd_T64 t376 x19_1).f0) ((rd_T64 t376 x19_1).f1) ((rd_T64 t376 x19_1).f2) ((rd_T64 t376 x19_1).f3)) else (impl_readForm.j1 k1 x5_1 t381 (rd l0_2 t381) (rd l0_3 t383) t376 (t376.length : Int) x19_1 a0_0 a0_1 l0_2 l0_3 l0_4 ((rd_T64 t376 x19_1).f0) ((rd_T64 t376 x19_1).f1) ((rd_T64 t376 x19_1).f2) ((rd_T64 t376 x19_1).f3)))) else (none)) else (none))) else (none)) else (none)) = some r := H
      have A13 := Aside0.mk A130
      clear A130
      by_cases c14 : 0 ≤ t381
      ·rw [if_pos c14] at H
       have c14b0 : decide (0 ≤ t381) = true := decide_eq_true c14
       clear c14
       by_cases c15 : t381 < (l0_2.length : Int)
       ·rw [if_pos c15] at H
        have c15b0 : decide (t381 < (l0_2.length : Int)) = true := decide_eq_true c15
        clear c15
        replace H := Option.bind_eq_some_iff.mp H
        obtain ⟨t383, A160, H⟩ := H
        replace H : (if 0 ≤ t383 then (if t383 < (l0_3.length : Int) then ((impl_downLeaf.f ((rd_T64 t376 x19_1).f0) ((rd_T64 t376 x19_1).f1) ((rd_T64 t376 x19_1).f2) ((rd_T64 t376 x19_1).f3)).bind fun t385 => (if t385 = true then (impl_readForm.j1 k1 x5_1 t381 (rd l0_3 t383) (rd l0_2 t381) t376 (t376.length : Int) x19_1 a0_0 a0_1 l0_2 l0_3 l0_4 ((rd_T64 t376 x19_1).f0) ((rd_T64 t376 x19_1).f1) ((rd_T64 t376 x19_1).f2) ((rd_T64 t376 x19_1).f3)) else (impl_readForm.j1 k1 x5_1 t381 (rd l0_2 t381) (rd l0_3 t383) t376 (t376.length : Int) x19_1 a0_0 a0_1 l0_2 l0_3 l0_4 ((rd_T64 t376 x19_1).f0) ((rd_T64 t376 x19_1).f1) ((rd_T64 t376 x19_1).f2) ((rd_T64 t376 x19_1).f3)))) else (none)) else (none)) = some r := H
        have A16 := Aside0.mk A160
        clear A160
        by_cases c17 : 0 ≤ t383
        ·rw [if_pos c17] at H
         have c17b0 : decide (0 ≤ t383) = true := decide_eq_true c17
         clear c17
         by_cases c18 : t383 < (l0_3.length : Int)
         ·rw [if_pos c18] at H
          have c18b0 : decide (t383 < (l0_3.length : Int)) = true := decide_eq_true c18
          clear c18
          replace H := Option.bind_eq_some_iff.mp H
          obtain ⟨t385, A190, H⟩ := H
          replace H : (if t385 = true then (impl_readForm.j1 k1 x5_1 t381 (rd l0_3 t383) (rd l0_2 t381) t376 (t376.length : Int) x19_1 a0_0 a0_1 l0_2 l0_3 l0_4 ((rd_T64 t376 x19_1).f0) ((rd_T64 t376 x19_1).f1) ((rd_T64 t376 x19_1).f2) ((rd_T64 t376 x19_1).f3)) else (impl_readForm.j1 k1 x5_1 t381 (rd l0_2 t381) (rd l0_3 t383) t376 (t376.length : Int) x19_1 a0_0 a0_1 l0_2 l0_3 l0_4 ((rd_T64 t376 x19_1).f0) ((rd_T64 t376 x19_1).f1) ((rd_T64 t376 x19_1).f2) ((rd_T64 t376 x19_1).f3))) = some r := H
          have A19 := Aside0.mk A190
          clear A190
          have HC20 := Aside0.mk H
          clear H
          have p379 : 0 ≤ (x19_1 : Int) := of_decide_eq_true z75_
          have q379 : x19_1 < (t376.length : Int) := of_decide_eq_true z75_
          obtain ⟨ad379, e379, hx379_0, hx379_1, hx379_2, hx379_3⟩ := at_T64 (Kd.R_reads' HO_17.out).2.2 x19_1 p379 q379
          cases e379
          replace p379 := eq_true p379
          replace q379 := eq_true q379
          go_upto_if 47 with (first | ((with_reducible refine gate_dst (N := 7) rfl ?_); refine box_event ?hg (N := 7) ?hd (cs := #[.int .i64 0, .int .i64 0, .bool false, .bool false]) (t := 64) ?hr ?_; (case hd => rfl); (case hg => rfl); (case hr => first | (go_simp; done) | (go_simp; rfl)); intro gb380 hg w21 hbox hb; replace HO_5 := a_ (Kd.R_below (ra_ HO_5.out) hb); replace HO_17 := a_ (Kd.R_below (Kd.R_elderB (ra_ HO_17.out) gb380 (Nat.le_of_eq hg.symm)) hb); have BK380 := a_ (hbox); have GW380 := a_ ((z11_ : w.heap.size ≤ gb380)); have GE380 := a_ ((z11_ : w.heap.size ≤ gb380)); replace HB := a_ (below_step z26_ hb); have NB372_380 := a_ ((by rw [hg]; exact Nat.ne_of_lt (blk_lt (g := gb372) (rb_ BK372.out)) : gb372 ≠ gb380)); have NB380_372 := a_ ((by rw [hg]; exact Nat.ne_of_gt (blk_lt (g := gb372) (rb_ BK372.out)) : gb380 ≠ gb372)); replace BK372 := a_ (blk_below (g := gb372) (rb_ BK372.out) hb); clear hb hbox hg; have hnb22 := NB380_372.out; have hnc22 := NB372_380.out; obtain ⟨hcz23_0, hcz23_1, hcz23_2, hcz23_3, hfz23_0, hfz23_1, hfz23_2, hfz23_3⟩ := cz4_ (w := w21) BK380.out; obtain ⟨hcz24_0, hcz24_1, hcz24_2, hcz24_3, hcz24_4, hfz24_0, hfz24_1, hfz24_2, hfz24_3, hfz24_4⟩ := cz5_ (w := w21) BK372.out) | (go_at_call 46; (with_reducible refine (impl_frontPlace.calls a0_0 ((rd_T64 t376 x19_1).f0) ((rd_T64 t376 x19_1).f1) t381 _ A13.out).mono ?_); rintro e w' ⟨rfl, ⟨nd, rfl⟩⟩; (try first | exact ⟨rfl, _, World.drewN_drewN _ _ _⟩ | exact ⟨rfl, _, Eq.trans (World.drewN_drewN _ _ _) (congrArg (World.drewN _) (Nat.add_assoc _ _ _))⟩); have p382 : 0 ≤ (t381 : Int) := of_decide_eq_true z75_; have q382 : t381 < (l0_2.length : Int) := of_decide_eq_true z75_; obtain ⟨ad382, e382, hx382_0⟩ := Kd.at_int HR0_2.out t381 p382 q382; cases e382; have hn382_0 : ad382.block ≠ gb380 := Nat.ne_of_lt (Nat.lt_of_lt_of_le z68_ GW380.out); have hn382_1 : ad382.block ≠ gb380 := Nat.ne_of_lt (Nat.lt_of_lt_of_le z68_ GW380.out); have hn382_2 : ad382.block ≠ gb380 := Nat.ne_of_lt (Nat.lt_of_lt_of_le z68_ GW380.out); have hn382_3 : ad382.block ≠ gb380 := Nat.ne_of_lt (Nat.lt_of_lt_of_le z68_ GW380.out); replace hx382_0 := (HB.out.cell (World.block_lt_of_cell? _ _ hx382_0)).trans hx382_0; replace hx382_0 := (cell_far (p := ⟨gb380, 0, none⟩) z45_ (.int .i64 ((rd_T64 t376 x19_1).f0))).trans hx382_0; replace hx382_0 := (cell_far (p := ⟨gb380, 1, none⟩) z46_ (.int .i64 ((rd_T64 t376 x19_1).f1))).trans hx382_0; replace hx382_0 := (cell_far (p := ⟨gb380, 2, none⟩) z47_ (.bool ((rd_T64 t376 x19_1).f2))).trans hx382_0; replace hx382_0 := (cell_far (p := ⟨gb380, 3, none⟩) z48_ (.bool ((rd_T64 t376 x19_1).f3))).trans hx382_0; (try have hy382_0 := fun (n_ : Nat) => (show ((((((w21.drewN n_).setCell ⟨gb380, 0, none⟩ (.int .i64 ((rd_T64 t376 x19_1).f0))).setCell ⟨gb380, 1, none⟩ (.int .i64 ((rd_T64 t376 x19_1).f1))).setCell ⟨gb380, 2, none⟩ (.bool ((rd_T64 t376 x19_1).f2))).setCell ⟨gb380, 3, none⟩ (.bool ((rd_T64 t376 x19_1).f3)))).cell? _ = some _ from hx382_0)); clear hn382_0; clear hn382_1; clear hn382_2; clear hn382_3; replace p382 := eq_true p382; replace q382 := eq_true q382) | (go_at_call 47; (with_reducible refine (impl_backPlace.calls a0_0 ((rd_T64 t376 x19_1).f0) ((rd_T64 t376 x19_1).f1) t383 _ A16.out).mono ?_); rintro e w' ⟨rfl, ⟨nd, rfl⟩⟩; (try first | exact ⟨rfl, _, World.drewN_drewN _ _ _⟩ | exact ⟨rfl, _, Eq.trans (World.drewN_drewN _ _ _) (congrArg (World.drewN _) (Nat.add_assoc _ _ _))⟩); have p384 : 0 ≤ (t383 : Int) := of_decide_eq_true z75_; have q384 : t383 < (l0_3.length : Int) := of_decide_eq_true z75_; obtain ⟨ad384, e384, hx384_0⟩ := Kd.at_int HR0_3.out t383 p384 q384; cases e384; have hn384_0 : ad384.block ≠ gb380 := Nat.ne_of_lt (Nat.lt_of_lt_of_le z69_ GW380.out); have hn384_1 : ad384.block ≠ gb380 := Nat.ne_of_lt (Nat.lt_of_lt_of_le z69_ GW380.out); have hn384_2 : ad384.block ≠ gb380 := Nat.ne_of_lt (Nat.lt_of_lt_of_le z69_ GW380.out); have hn384_3 : ad384.block ≠ gb380 := Nat.ne_of_lt (Nat.lt_of_lt_of_le z69_ GW380.out); replace hx384_0 := (HB.out.cell (World.block_lt_of_cell? _ _ hx384_0)).trans hx384_0; replace hx384_0 := (cell_far (p := ⟨gb380, 0, none⟩) z49_ (.int .i64 ((rd_T64 t376 x19_1).f0))).trans hx384_0; replace hx384_0 := (cell_far (p := ⟨gb380, 1, none⟩) z50_ (.int .i64 ((rd_T64 t376 x19_1).f1))).trans hx384_0; replace hx384_0 := (cell_far (p := ⟨gb380, 2, none⟩) z51_ (.bool ((rd_T64 t376 x19_1).f2))).trans hx384_0; replace hx384_0 := (cell_far (p := ⟨gb380, 3, none⟩) z52_ (.bool ((rd_T64 t376 x19_1).f3))).trans hx384_0; (try have hy384_0 := fun (n_ : Nat) => (show ((((((w21.drewN n_).setCell ⟨gb380, 0, none⟩ (.int .i64 ((rd_T64 t376 x19_1).f0))).setCell ⟨gb380, 1, none⟩ (.int .i64 ((rd_T64 t376 x19_1).f1))).setCell ⟨gb380, 2, none⟩ (.bool ((rd_T64 t376 x19_1).f2))).setCell ⟨gb380, 3, none⟩ (.bool ((rd_T64 t376 x19_1).f3)))).cell? _ = some _ from hx384_0)); clear hn384_0; clear hn384_1; clear hn384_2; clear hn384_3; replace p384 := eq_true p384; replace q384 := eq_true q384) | (go_at_call 45; (with_reducible refine (impl_downLeaf.calls ((rd_T64 t376 x19_1).f0) ((rd_T64 t376 x19_1).f1) ((rd_T64 t376 x19_1).f2) ((rd_T64 t376 x19_1).f3) t385 _ A19.out).mono ?_); rintro e w25 ⟨rfl, hb⟩; replace HO_5 := a_ (Kd.R_below (rc_ (h := by exact Kd.R_mono (rt4_ HO_5.out BK380.out) (fun _ h_ => h_.1))) hb); replace HO_17 := a_ (Kd.R_below (rc_ (h := by exact Kd.R_mono (Kd.R_far (p := ⟨gb380, 3, none⟩) (Kd.R_far (p := ⟨gb380, 2, none⟩) (Kd.R_far (p := ⟨gb380, 1, none⟩) (Kd.R_far (p := ⟨gb380, 0, none⟩) (Kd.R_mono HO_17.out (fun k_ hk => (⟨hk, hk.2⟩ : _ ∧ k_ ≠ gb380))) (fun _ hk => hk.2) (.int .i64 ((rd_T64 t376 x19_1).f0))) (fun _ hk => hk.2) (.int .i64 ((rd_T64 t376 x19_1).f1))) (fun _ hk => hk.2) (.bool ((rd_T64 t376 x19_1).f2))) (fun _ hk => hk.2) (.bool ((rd_T64 t376 x19_1).f3))) (fun _ h_ => h_.1))) hb); replace BK372 := a_ (blk_below (g := gb372) (o := .cells #[.int .i64 a0_0, .int .i64 a0_1, .slice (some ad382) l0_2.length c0_2, .slice (some ad384) l0_3.length c0_3, .slice A0_4 l0_4.length c0_4] 28 (0, 0)) (rb2_ (h := by exact bf4_ NB372_380.out BK372.out)) hb); replace BK380 := a_ (blk_below (g := gb380) (o := .cells #[.int .i64 ((rd_T64 t376 x19_1).f0), .int .i64 ((rd_T64 t376 x19_1).f1), .bool ((rd_T64 t376 x19_1).f2), .bool ((rd_T64 t376 x19_1).f3)] 64 (0, 0)) (rb2_ (h := by exact bp4x4_ BK380.out)) hb); replace HB := a_ (below_step z7_ hb); (try clear hb); (try clear hb2); (try clear hk); (try clear hi)))
          repeat (go_quiet (first | ((with_reducible refine gate_dst (N := 7) rfl ?_); refine box_event ?hg (N := 7) ?hd (cs := #[.int .i64 0, .int .i64 0, .bool false, .bool false]) (t := 64) ?hr ?_; (case hd => rfl); (case hg => rfl); (case hr => first | (go_simp; done) | (go_simp; rfl)); intro gb380 hg w21 hbox hb; replace HO_5 := a_ (Kd.R_below (ra_ HO_5.out) hb); replace HO_17 := a_ (Kd.R_below (Kd.R_elderB (ra_ HO_17.out) gb380 (Nat.le_of_eq hg.symm)) hb); have BK380 := a_ (hbox); have GW380 := a_ ((z11_ : w.heap.size ≤ gb380)); have GE380 := a_ ((z11_ : w.heap.size ≤ gb380)); replace HB := a_ (below_step z26_ hb); have NB372_380 := a_ ((by rw [hg]; exact Nat.ne_of_lt (blk_lt (g := gb372) (rb_ BK372.out)) : gb372 ≠ gb380)); have NB380_372 := a_ ((by rw [hg]; exact Nat.ne_of_gt (blk_lt (g := gb372) (rb_ BK372.out)) : gb380 ≠ gb372)); replace BK372 := a_ (blk_below (g := gb372) (rb_ BK372.out) hb); clear hb hbox hg; have hnb22 := NB380_372.out; have hnc22 := NB372_380.out; obtain ⟨hcz23_0, hcz23_1, hcz23_2, hcz23_3, hfz23_0, hfz23_1, hfz23_2, hfz23_3⟩ := cz4_ (w := w21) BK380.out; obtain ⟨hcz24_0, hcz24_1, hcz24_2, hcz24_3, hcz24_4, hfz24_0, hfz24_1, hfz24_2, hfz24_3, hfz24_4⟩ := cz5_ (w := w21) BK372.out) | (go_at_call 46; (with_reducible refine (impl_frontPlace.calls a0_0 ((rd_T64 t376 x19_1).f0) ((rd_T64 t376 x19_1).f1) t381 _ A13.out).mono ?_); rintro e w' ⟨rfl, ⟨nd, rfl⟩⟩; (try first | exact ⟨rfl, _, World.drewN_drewN _ _ _⟩ | exact ⟨rfl, _, Eq.trans (World.drewN_drewN _ _ _) (congrArg (World.drewN _) (Nat.add_assoc _ _ _))⟩); have p382 : 0 ≤ (t381 : Int) := of_decide_eq_true z75_; have q382 : t381 < (l0_2.length : Int) := of_decide_eq_true z75_; obtain ⟨ad382, e382, hx382_0⟩ := Kd.at_int HR0_2.out t381 p382 q382; cases e382; have hn382_0 : ad382.block ≠ gb380 := Nat.ne_of_lt (Nat.lt_of_lt_of_le z68_ GW380.out); have hn382_1 : ad382.block ≠ gb380 := Nat.ne_of_lt (Nat.lt_of_lt_of_le z68_ GW380.out); have hn382_2 : ad382.block ≠ gb380 := Nat.ne_of_lt (Nat.lt_of_lt_of_le z68_ GW380.out); have hn382_3 : ad382.block ≠ gb380 := Nat.ne_of_lt (Nat.lt_of_lt_of_le z68_ GW380.out); replace hx382_0 := (HB.out.cell (World.block_lt_of_cell? _ _ hx382_0)).trans hx382_0; replace hx382_0 := (cell_far (p := ⟨gb380, 0, none⟩) z45_ (.int .i64 ((rd_T64 t376 x19_1).f0))).trans hx382_0; replace hx382_0 := (cell_far (p := ⟨gb380, 1, none⟩) z46_ (.int .i64 ((rd_T64 t376 x19_1).f1))).trans hx382_0; replace hx382_0 := (cell_far (p := ⟨gb380, 2, none⟩) z47_ (.bool ((rd_T64 t376 x19_1).f2))).trans hx382_0; replace hx382_0 := (cell_far (p := ⟨gb380, 3, none⟩) z48_ (.bool ((rd_T64 t376 x19_1).f3))).trans hx382_0; (try have hy382_0 := fun (n_ : Nat) => (show ((((((w21.drewN n_).setCell ⟨gb380, 0, none⟩ (.int .i64 ((rd_T64 t376 x19_1).f0))).setCell ⟨gb380, 1, none⟩ (.int .i64 ((rd_T64 t376 x19_1).f1))).setCell ⟨gb380, 2, none⟩ (.bool ((rd_T64 t376 x19_1).f2))).setCell ⟨gb380, 3, none⟩ (.bool ((rd_T64 t376 x19_1).f3)))).cell? _ = some _ from hx382_0)); clear hn382_0; clear hn382_1; clear hn382_2; clear hn382_3; replace p382 := eq_true p382; replace q382 := eq_true q382) | (go_at_call 47; (with_reducible refine (impl_backPlace.calls a0_0 ((rd_T64 t376 x19_1).f0) ((rd_T64 t376 x19_1).f1) t383 _ A16.out).mono ?_); rintro e w' ⟨rfl, ⟨nd, rfl⟩⟩; (try first | exact ⟨rfl, _, World.drewN_drewN _ _ _⟩ | exact ⟨rfl, _, Eq.trans (World.drewN_drewN _ _ _) (congrArg (World.drewN _) (Nat.add_assoc _ _ _))⟩); have p384 : 0 ≤ (t383 : Int) := of_decide_eq_true z75_; have q384 : t383 < (l0_3.length : Int) := of_decide_eq_true z75_; obtain ⟨ad384, e384, hx384_0⟩ := Kd.at_int HR0_3.out t383 p384 q384; cases e384; have hn384_0 : ad384.block ≠ gb380 := Nat.ne_of_lt (Nat.lt_of_lt_of_le z69_ GW380.out); have hn384_1 : ad384.block ≠ gb380 := Nat.ne_of_lt (Nat.lt_of_lt_of_le z69_ GW380.out); have hn384_2 : ad384.block ≠ gb380 := Nat.ne_of_lt (Nat.lt_of_lt_of_le z69_ GW380.out); have hn384_3 : ad384.block ≠ gb380 := Nat.ne_of_lt (Nat.lt_of_lt_of_le z69_ GW380.out); replace hx384_0 := (HB.out.cell (World.block_lt_of_cell? _ _ hx384_0)).trans hx384_0; replace hx384_0 := (cell_far (p := ⟨gb380, 0, none⟩) z49_ (.int .i64 ((rd_T64 t376 x19_1).f0))).trans hx384_0; replace hx384_0 := (cell_far (p := ⟨gb380, 1, none⟩) z50_ (.int .i64 ((rd_T64 t376 x19_1).f1))).trans hx384_0; replace hx384_0 := (cell_far (p := ⟨gb380, 2, none⟩) z51_ (.bool ((rd_T64 t376 x19_1).f2))).trans hx384_0; replace hx384_0 := (cell_far (p := ⟨gb380, 3, none⟩) z52_ (.bool ((rd_T64 t376 x19_1).f3))).trans hx384_0; (try have hy384_0 := fun (n_ : Nat) => (show ((((((w21.drewN n_).setCell ⟨gb380, 0, none⟩ (.int .i64 ((rd_T64 t376 x19_1).f0))).setCell ⟨gb380, 1, none⟩ (.int .i64 ((rd_T64 t376 x19_1).f1))).setCell ⟨gb380, 2, none⟩ (.bool ((rd_T64 t376 x19_1).f2))).setCell ⟨gb380, 3, none⟩ (.bool ((rd_T64 t376 x19_1).f3)))).cell? _ = some _ from hx384_0)); clear hn384_0; clear hn384_1; clear hn384_2; clear hn384_3; replace p384 := eq_true p384; replace q384 := eq_true q384) | (go_at_call 45; (with_reducible refine (impl_downLeaf.calls ((rd_T64 t376 x19_1).f0) ((rd_T64 t376 x19_1).f1) ((rd_T64 t376 x19_1).f2) ((rd_T64 t376 x19_1).f3) t385 _ A19.out).mono ?_); rintro e w25 ⟨rfl, hb⟩; replace HO_5 := a_ (Kd.R_below (rc_ (h := by exact Kd.R_mono (rt4_ HO_5.out BK380.out) (fun _ h_ => h_.1))) hb); replace HO_17 := a_ (Kd.R_below (rc_ (h := by exact Kd.R_mono (Kd.R_far (p := ⟨gb380, 3, none⟩) (Kd.R_far (p := ⟨gb380, 2, none⟩) (Kd.R_far (p := ⟨gb380, 1, none⟩) (Kd.R_far (p := ⟨gb380, 0, none⟩) (Kd.R_mono HO_17.out (fun k_ hk => (⟨hk, hk.2⟩ : _ ∧ k_ ≠ gb380))) (fun _ hk => hk.2) (.int .i64 ((rd_T64 t376 x19_1).f0))) (fun _ hk => hk.2) (.int .i64 ((rd_T64 t376 x19_1).f1))) (fun _ hk => hk.2) (.bool ((rd_T64 t376 x19_1).f2))) (fun _ hk => hk.2) (.bool ((rd_T64 t376 x19_1).f3))) (fun _ h_ => h_.1))) hb); replace BK372 := a_ (blk_below (g := gb372) (o := .cells #[.int .i64 a0_0, .int .i64 a0_1, .slice (some ad382) l0_2.length c0_2, .slice (some ad384) l0_3.length c0_3, .slice A0_4 l0_4.length c0_4] 28 (0, 0)) (rb2_ (h := by exact bf4_ NB372_380.out BK372.out)) hb); replace BK380 := a_ (blk_below (g := gb380) (o := .cells #[.int .i64 ((rd_T64 t376 x19_1).f0), .int .i64 ((rd_T64 t376 x19_1).f1), .bool ((rd_T64 t376 x19_1).f2), .bool ((rd_T64 t376 x19_1).f3)] 64 (0, 0)) (rb2_ (h := by exact bp4x4_ BK380.out)) hb); replace HB := a_ (below_step z7_ hb); (try clear hb); (try clear hb2); (try clear hk); (try clear hi))); go_upto_if 47 with (first | ((with_reducible refine gate_dst (N := 7) rfl ?_); refine box_event ?hg (N := 7) ?hd (cs := #[.int .i64 0, .int .i64 0, .bool false, .bool false]) (t := 64) ?hr ?_; (case hd => rfl); (case hg => rfl); (case hr => first | (go_simp; done) | (go_simp; rfl)); intro gb380 hg w21 hbox hb; replace HO_5 := a_ (Kd.R_below (ra_ HO_5.out) hb); replace HO_17 := a_ (Kd.R_below (Kd.R_elderB (ra_ HO_17.out) gb380 (Nat.le_of_eq hg.symm)) hb); have BK380 := a_ (hbox); have GW380 := a_ ((z11_ : w.heap.size ≤ gb380)); have GE380 := a_ ((z11_ : w.heap.size ≤ gb380)); replace HB := a_ (below_step z26_ hb); have NB372_380 := a_ ((by rw [hg]; exact Nat.ne_of_lt (blk_lt (g := gb372) (rb_ BK372.out)) : gb372 ≠ gb380)); have NB380_372 := a_ ((by rw [hg]; exact Nat.ne_of_gt (blk_lt (g := gb372) (rb_ BK372.out)) : gb380 ≠ gb372)); replace BK372 := a_ (blk_below (g := gb372) (rb_ BK372.out) hb); clear hb hbox hg; have hnb22 := NB380_372.out; have hnc22 := NB372_380.out; obtain ⟨hcz23_0, hcz23_1, hcz23_2, hcz23_3, hfz23_0, hfz23_1, hfz23_2, hfz23_3⟩ := cz4_ (w := w21) BK380.out; obtain ⟨hcz24_0, hcz24_1, hcz24_2, hcz24_3, hcz24_4, hfz24_0, hfz24_1, hfz24_2, hfz24_3, hfz24_4⟩ := cz5_ (w := w21) BK372.out) | (go_at_call 46; (with_reducible refine (impl_frontPlace.calls a0_0 ((rd_T64 t376 x19_1).f0) ((rd_T64 t376 x19_1).f1) t381 _ A13.out).mono ?_); rintro e w' ⟨rfl, ⟨nd, rfl⟩⟩; (try first | exact ⟨rfl, _, World.drewN_drewN _ _ _⟩ | exact ⟨rfl, _, Eq.trans (World.drewN_drewN _ _ _) (congrArg (World.drewN _) (Nat.add_assoc _ _ _))⟩); have p382 : 0 ≤ (t381 : Int) := of_decide_eq_true z75_; have q382 : t381 < (l0_2.length : Int) := of_decide_eq_true z75_; obtain ⟨ad382, e382, hx382_0⟩ := Kd.at_int HR0_2.out t381 p382 q382; cases e382; have hn382_0 : ad382.block ≠ gb380 := Nat.ne_of_lt (Nat.lt_of_lt_of_le z68_ GW380.out); have hn382_1 : ad382.block ≠ gb380 := Nat.ne_of_lt (Nat.lt_of_lt_of_le z68_ GW380.out); have hn382_2 : ad382.block ≠ gb380 := Nat.ne_of_lt (Nat.lt_of_lt_of_le z68_ GW380.out); have hn382_3 : ad382.block ≠ gb380 := Nat.ne_of_lt (Nat.lt_of_lt_of_le z68_ GW380.out); replace hx382_0 := (HB.out.cell (World.block_lt_of_cell? _ _ hx382_0)).trans hx382_0; replace hx382_0 := (cell_far (p := ⟨gb380, 0, none⟩) z45_ (.int .i64 ((rd_T64 t376 x19_1).f0))).trans hx382_0; replace hx382_0 := (cell_far (p := ⟨gb380, 1, none⟩) z46_ (.int .i64 ((rd_T64 t376 x19_1).f1))).trans hx382_0; replace hx382_0 := (cell_far (p := ⟨gb380, 2, none⟩) z47_ (.bool ((rd_T64 t376 x19_1).f2))).trans hx382_0; replace hx382_0 := (cell_far (p := ⟨gb380, 3, none⟩) z48_ (.bool ((rd_T64 t376 x19_1).f3))).trans hx382_0; (try have hy382_0 := fun (n_ : Nat) => (show ((((((w21.drewN n_).setCell ⟨gb380, 0, none⟩ (.int .i64 ((rd_T64 t376 x19_1).f0))).setCell ⟨gb380, 1, none⟩ (.int .i64 ((rd_T64 t376 x19_1).f1))).setCell ⟨gb380, 2, none⟩ (.bool ((rd_T64 t376 x19_1).f2))).setCell ⟨gb380, 3, none⟩ (.bool ((rd_T64 t376 x19_1).f3)))).cell? _ = some _ from hx382_0)); clear hn382_0; clear hn382_1; clear hn382_2; clear hn382_3; replace p382 := eq_true p382; replace q382 := eq_true q382) | (go_at_call 47; (with_reducible refine (impl_backPlace.calls a0_0 ((rd_T64 t376 x19_1).f0) ((rd_T64 t376 x19_1).f1) t383 _ A16.out).mono ?_); rintro e w' ⟨rfl, ⟨nd, rfl⟩⟩; (try first | exact ⟨rfl, _, World.drewN_drewN _ _ _⟩ | exact ⟨rfl, _, Eq.trans (World.drewN_drewN _ _ _) (congrArg (World.drewN _) (Nat.add_assoc _ _ _))⟩); have p384 : 0 ≤ (t383 : Int) := of_decide_eq_true z75_; have q384 : t383 < (l0_3.length : Int) := of_decide_eq_true z75_; obtain ⟨ad384, e384, hx384_0⟩ := Kd.at_int HR0_3.out t383 p384 q384; cases e384; have hn384_0 : ad384.block ≠ gb380 := Nat.ne_of_lt (Nat.lt_of_lt_of_le z69_ GW380.out); have hn384_1 : ad384.block ≠ gb380 := Nat.ne_of_lt (Nat.lt_of_lt_of_le z69_ GW380.out); have hn384_2 : ad384.block ≠ gb380 := Nat.ne_of_lt (Nat.lt_of_lt_of_le z69_ GW380.out); have hn384_3 : ad384.block ≠ gb380 := Nat.ne_of_lt (Nat.lt_of_lt_of_le z69_ GW380.out); replace hx384_0 := (HB.out.cell (World.block_lt_of_cell? _ _ hx384_0)).trans hx384_0; replace hx384_0 := (cell_far (p := ⟨gb380, 0, none⟩) z49_ (.int .i64 ((rd_T64 t376 x19_1).f0))).trans hx384_0; replace hx384_0 := (cell_far (p := ⟨gb380, 1, none⟩) z50_ (.int .i64 ((rd_T64 t376 x19_1).f1))).trans hx384_0; replace hx384_0 := (cell_far (p := ⟨gb380, 2, none⟩) z51_ (.bool ((rd_T64 t376 x19_1).f2))).trans hx384_0; replace hx384_0 := (cell_far (p := ⟨gb380, 3, none⟩) z52_ (.bool ((rd_T64 t376 x19_1).f3))).trans hx384_0; (try have hy384_0 := fun (n_ : Nat) => (show ((((((w21.drewN n_).setCell ⟨gb380, 0, none⟩ (.int .i64 ((rd_T64 t376 x19_1).f0))).setCell ⟨gb380, 1, none⟩ (.int .i64 ((rd_T64 t376 x19_1).f1))).setCell ⟨gb380, 2, none⟩ (.bool ((rd_T64 t376 x19_1).f2))).setCell ⟨gb380, 3, none⟩ (.bool ((rd_T64 t376 x19_1).f3)))).cell? _ = some _ from hx384_0)); clear hn384_0; clear hn384_1; clear hn384_2; clear hn384_3; replace p384 := eq_true p384; replace q384 := eq_true q384) | (go_at_call 45; (with_reducible refine (impl_downLeaf.calls ((rd_T64 t376 x19_1).f0) ((rd_T64 t376 x19_1).f1) ((rd_T64 t376 x19_1).f2) ((rd_T64 t376 x19_1).f3) t385 _ A19.out).mono ?_); rintro e w25 ⟨rfl, hb⟩; replace HO_5 := a_ (Kd.R_below (rc_ (h := by exact Kd.R_mono (rt4_ HO_5.out BK380.out) (fun _ h_ => h_.1))) hb); replace HO_17 := a_ (Kd.R_below (rc_ (h := by exact Kd.R_mono (Kd.R_far (p := ⟨gb380, 3, none⟩) (Kd.R_far (p := ⟨gb380, 2, none⟩) (Kd.R_far (p := ⟨gb380, 1, none⟩) (Kd.R_far (p := ⟨gb380, 0, none⟩) (Kd.R_mono HO_17.out (fun k_ hk => (⟨hk, hk.2⟩ : _ ∧ k_ ≠ gb380))) (fun _ hk => hk.2) (.int .i64 ((rd_T64 t376 x19_1).f0))) (fun _ hk => hk.2) (.int .i64 ((rd_T64 t376 x19_1).f1))) (fun _ hk => hk.2) (.bool ((rd_T64 t376 x19_1).f2))) (fun _ hk => hk.2) (.bool ((rd_T64 t376 x19_1).f3))) (fun _ h_ => h_.1))) hb); replace BK372 := a_ (blk_below (g := gb372) (o := .cells #[.int .i64 a0_0, .int .i64 a0_1, .slice (some ad382) l0_2.length c0_2, .slice (some ad384) l0_3.length c0_3, .slice A0_4 l0_4.length c0_4] 28 (0, 0)) (rb2_ (h := by exact bf4_ NB372_380.out BK372.out)) hb); replace BK380 := a_ (blk_below (g := gb380) (o := .cells #[.int .i64 ((rd_T64 t376 x19_1).f0), .int .i64 ((rd_T64 t376 x19_1).f1), .bool ((rd_T64 t376 x19_1).f2), .bool ((rd_T64 t376 x19_1).f3)] 64 (0, 0)) (rb2_ (h := by exact bp4x4_ BK380.out)) hb); replace HB := a_ (below_step z7_ hb); (try clear hb); (try clear hb2); (try clear hk); (try clear hi))))
          (try simp only [Act.put, List.setIfInBounds_toArray, List.set_cons_zero, List.set_cons_succ])
          go_cut [9, 10] (fun v9 v10 wc => ∃ (kq : Nat) (x9_19 : Int) (x10_19 : Int), v9 = .int .i64 x9_19 ∧ v10 = .int .i64 x10_19 ∧ Aside0 (impl_readForm.j1 kq x5_1 t381 x9_19 x10_19 t376 (t376.length : Int) x19_1 a0_0 a0_1 l0_2 l0_3 l0_4 ((rd_T64 t376 x19_1).f0) ((rd_T64 t376 x19_1).f1) ((rd_T64 t376 x19_1).f2) ((rd_T64 t376 x19_1).f3) = some r) ∧ Aside0 (kq ≤ k1) ∧ Aside0 (Kd.R (Kd.int .i64) 2 wc w.heap.size (fun _ => True) u5 x5_1) ∧ Aside0 (Kd.R k64 64 wc w.heap.size (fun k_ => k_ ≠ gb380) (.slice (some ad379) t376.length co9) t376) ∧ Aside0 (wc.heap[gb372]? = some (.cells #[.int .i64 a0_0, .int .i64 a0_1, (.slice (some ad382) l0_2.length c0_2), (.slice (some ad384) l0_3.length c0_3), (.slice A0_4 l0_4.length c0_4)] 28 (0, 0))) ∧ Aside0 (wc.heap[gb380]? = some (.cells #[.int .i64 ((rd_T64 t376 x19_1).f0), .int .i64 ((rd_T64 t376 x19_1).f1), .bool ((rd_T64 t376 x19_1).f2), .bool ((rd_T64 t376 x19_1).f3)] 64 (0, 0))) ∧ Aside0 (Below w.heap.size w wc))
          case first =>
           have H := HC20.out
           clear HC20
           by_cases c26 : t385 = true
           ·subst c26
            have H1 : (impl_readForm.j1 k1 x5_1 t381 (rd l0_3 t383) (rd l0_2 t381) t376 (t376.length : Int) x19_1 a0_0 a0_1 l0_2 l0_3 l0_4 ((rd_T64 t376 x19_1).f0) ((rd_T64 t376 x19_1).f1) ((rd_T64 t376 x19_1).f2) ((rd_T64 t376 x19_1).f3)) = some r := by rw [if_pos rfl] at H; exact H
            clear H
            have H := H1
            clear H1
            have H' := Aside0.mk H
            clear H
            go_wp2
            repeat (go_quiet (fail); try go_wp2)
            go_meet
            case rel => exact ⟨_, (rd l0_3 t383), (rd l0_2 t381), z76_, z76_, H', ⟨z74_⟩, ⟨z62_⟩, ⟨by (with_reducible repeat (first | apply Kd.R_alloc | apply Kd.R_drewN | apply Kd.R_drew)); exact Kd.R_mono HO_17.out (fun _ hk => hk.2)⟩, ⟨z56_⟩, ⟨by (with_reducible repeat (first | refine blk_drewN ?_ _ | refine blk_drew ?_ | refine blk_alloc ?_ _)); exact BK380.out⟩, ⟨z7_⟩⟩
           ·replace c26 := Bool.eq_false_iff.mpr c26
            subst c26
            have H1 : (impl_readForm.j1 k1 x5_1 t381 (rd l0_2 t381) (rd l0_3 t383) t376 (t376.length : Int) x19_1 a0_0 a0_1 l0_2 l0_3 l0_4 ((rd_T64 t376 x19_1).f0) ((rd_T64 t376 x19_1).f1) ((rd_T64 t376 x19_1).f2) ((rd_T64 t376 x19_1).f3)) = some r := by rw [if_neg (show ¬ (false = true) by decide)] at H; exact H
            clear H
            have H := H1
            clear H1
            have H' := Aside0.mk H
            clear H
            go_wp2
            repeat (go_quiet (fail); try go_wp2)
            go_meet
            case rel => exact ⟨_, (rd l0_2 t381), (rd l0_3 t383), z76_, z76_, H', ⟨z74_⟩, ⟨z62_⟩, ⟨by (with_reducible repeat (first | apply Kd.R_alloc | apply Kd.R_drewN | apply Kd.R_drew)); exact Kd.R_mono HO_17.out (fun _ hk => hk.2)⟩, ⟨z56_⟩, ⟨by (with_reducible repeat (first | refine blk_drewN ?_ _ | refine blk_drew ?_ | refine blk_alloc ?_ _)); exact BK380.out⟩, ⟨z7_⟩⟩
          case rest =>
           clear HC20; try clear c10b0; try clear c11b0; try clear c12b0; try clear c14b0; try clear c15b0; try clear c17b0; try clear c18b0; try clear hcz23_0 hcz23_1 hcz23_2 hcz23_3; try clear hcz24_0 hcz24_1 hcz24_2 hcz24_3 hcz24_4; try clear hfz23_0 hfz23_1 hfz23_2 hfz23_3; try clear hfz24_0 hfz24_1 hfz24_2 hfz24_3 hfz24_4; try clear hx379_0; try clear hx379_1; try clear hx379_2; try clear hx379_3; try clear hx382_0; try clear hx384_0; try clear p379; try clear p382; try clear p384; try clear q379; try clear q382; try clear q384
           obtain ⟨kq, x9_19, x10_19, rfl, rfl, HA, HJ19, HO_5, HO_17, BK372, BK380, HB⟩ := hcut
           cases kq with
           | zero => exact absurd HA.out (by simp [impl_readForm.j1])
           | succ kj19 =>
            have H := HA.out
            clear HA
            simp only [impl_readForm.j1] at H
            by_cases c27 : 0 ≤ t381
            ·rw [if_pos c27] at H
             have c27b0 : decide (0 ≤ t381) = true := decide_eq_true c27
             clear c27
             by_cases c28 : t381 < (l0_4.length : Int)
             ·rw [if_pos c28] at H
              have c28b0 : decide (t381 < (l0_4.length : Int)) = true := decide_eq_true c28
              clear c28
              replace H := Option.bind_eq_some_iff.mp H
              obtain ⟨t387, A290, H⟩ := H
              replace H : (if (rd l0_4 t381) = t387 then ((some (([x9_19, x10_19] : List Int) : List Int)).bind fun y388 => (if x5_1.length + y388.length < 17592186044416 then (impl_readForm.l0 kj19 (x5_1 ++ y388) t376 (t376.length : Int) (wrap64 (x19_1 + 1)) a0_0 a0_1 l0_2 l0_3 l0_4) else (none))) else ((some (([wrap64 (-x9_19), wrap64 (-x10_19)] : List Int) : List Int)).bind fun y394 => (if x5_1.length + y394.length < 17592186044416 then (impl_readForm.l0 kj19 (x5_1 ++ y394) t376 (t376.length : Int) (wrap64 (x19_1 + 1)) a0_0 a0_1 l0_2 l0_3 l0_4) else (none)))) = some r := H
              have A29 := Aside0.mk A290
              clear A290
              by_cases c30 : (rd l0_4 t381) = t387
              ·rw [if_pos c30] at H
               have c30b0 : ((rd l0_4 t381) == t387) = true := beq_iff_eq.mpr c30
               have c30b1 : ((rd l0_4 t381) != t387) = false := bne_eq_false_iff_eq.mpr c30
               clear c30
               obtain ⟨y388, hy388⟩ : ∃ y_ : List Int, y_ = (([x9_19, x10_19] : List Int)) := ⟨_, rfl⟩
               replace H : (if x5_1.length + y388.length < 17592186044416 then (impl_readForm.l0 kj19 (x5_1 ++ y388) t376 (t376.length : Int) (wrap64 (x19_1 + 1)) a0_0 a0_1 l0_2 l0_3 l0_4) else (none)) = some r := rh_ hy388 H
               have Ny388 := Aside0.mk hy388
               clear hy388
               by_cases c31 : x5_1.length + y388.length < 17592186044416
               ·rw [if_pos c31] at H
                have LMc31 := Aside0.mk c31
                clear c31
                obtain ⟨y391, hy391⟩ : ∃ y_ : List Int, y_ = (x5_1 ++ y388) := ⟨_, rfl⟩
                replace H : (impl_readForm.l0 kj19 y391 t376 (t376.length : Int) (wrap64 (x19_1 + 1)) a0_0 a0_1 l0_2 l0_3 l0_4) = some r := rh_ hy391 H
                have Ny391 := Aside0.mk hy391
                clear hy391
                have H' := Aside0.mk H
                clear H
                have hnb32 := NB372_380.out
                have hnc32 := NB380_372.out
                obtain ⟨hcz33_0, hcz33_1, hcz33_2, hcz33_3, hcz33_4, hfz33_0, hfz33_1, hfz33_2, hfz33_3, hfz33_4⟩ := cz5_ (w := wc) BK372.out
                have p386 : 0 ≤ (t381 : Int) := of_decide_eq_true z75_
                have q386 : t381 < (l0_4.length : Int) := of_decide_eq_true z75_
                obtain ⟨ad386, e386, hx386_0⟩ := Kd.at_int HR0_4.out t381 p386 q386
                cases e386
                replace hx386_0 := (HB.out.cell (World.block_lt_of_cell? _ _ hx386_0)).trans hx386_0
                replace p386 := eq_true p386
                replace q386 := eq_true q386
                obtain ⟨hcz34_0, hcz34_1, hcz34_2, hcz34_3, hfz34_0, hfz34_1, hfz34_2, hfz34_3⟩ := cz4_ (w := wc) BK380.out
                go_wp2_with (first | (go_at_call 48; (with_reducible refine (impl_toInt.calls ((rd_T64 t376 x19_1).f3) t387 _ A29.out).mono ?_); rintro e w' ⟨rfl, ⟨nd, rfl⟩⟩; (try first | exact ⟨rfl, _, World.drewN_drewN _ _ _⟩ | exact ⟨rfl, _, Eq.trans (World.drewN_drewN _ _ _) (congrArg (World.drewN _) (Nat.add_assoc _ _ _))⟩)) | ((with_reducible refine gate_dst (N := 66) rfl ?_); refine Kd.R_lit (Kd.int .i64) _ 2 ?hg (N := 66) ?hd (xs := ([x9_19, x10_19] : List Int)) (inner := [.int .i64 x9_19, .int .i64 x10_19]) (ok := fun _ => True) (okp := fun _ => True) ?hr ?hp (fun _ hk => hk) trivial (Below.refl _ _) (Nat.le_refl _) (by simp) ?_; (case hd => rfl); (case hg => rfl); (case hr => first | (go_simp; done) | (go_simp; rfl)); (case hp => exact (Reps.one (show Kd.M (Kd.int .i64) _ _ _ x9_19 [.int .i64 x9_19] from rfl) (Reps.one (show Kd.M (Kd.int .i64) _ _ _ x10_19 [.int .i64 x10_19] from rfl) (Reps.none _ _)))); intro v389 w35 ho36 hb hg_ hnew_; clear hg_ hnew_; (first | rw [← Ny388.out] at ho36 | (simp only [Int.reduceToNat] at ho36; rw [← Ny388.out] at ho36)); replace HO_17 := a_ (Kd.R_below (ra_ HO_17.out) hb); have HO390 := a_ (Kd.R_lower (Kd.R_new' ho36 (Kd.R_lt (ra_ HO_5.out))) (below_size z7_)); replace HO_5 := a_ (Kd.R_elder' (ra_ HO_5.out) (Kd.R_base ho36) hb); replace BK372 := a_ (blk_below (g := gb372) (rb_ BK372.out) hb); replace BK380 := a_ (blk_below (g := gb380) (rb_ BK380.out) hb); replace HB := a_ (below_step z7_ hb); clear hb ho36; obtain ⟨Ao38, co38, eo38⟩ := Kd.R_slice HO390.out; subst eo38) | ((with_reducible refine gate_builtin (b := .append) (xs := #[.tmp 63, .tmp 66]) rfl ?_); at_builtin; refine Kd.R_append_rows (Kd.int .i64) (w0 := w) w.heap.size rfl (.tmp 63) (.tmp 66) 22 2 (.int .i64 0) 8 rfl Tryz.underlying22 info2 rfl (by decide) (by omega) u5 x5_1 y388 _ _ _ (fun k_ => nb_ k_ Ao38 y388.length co38) (fun _ => False) rfl rfl ?aO ?aR (fun _ _ h => h) (fun _ h => h.elim) ?aF ?aB ?aS ?aL ?_; (case aR => repeat (first | exact (Kd.R_reads' HO390.out).2.2 | (with_reducible refine Kd.C_alloc ?_ _) | (with_reducible refine Kd.C_drewN ?_ _) | (with_reducible refine Kd.C_drew ?_))); (case aB => exact z7_); (case aF => exact (fun k_ hk => Kd.fresh' (Kd.R_lt (ra_ HO390.out)) k_ hk)); (case aO => exact (rc_ (h := by exact Kd.R_mono HO_5.out (fun _ hk => hk.2)))); (case aS => exact (below_size z7_)); (case aL => have := LMc31.out; omega); intro v392 w37 ho hb hg hat; rw [← Ny391.out] at ho; replace HO_17 := a_ (Kd.R_over' (ra_ HO_17.out) (Kd.R_typed (ra_ HO_5.out)) (by decide) hg); replace BK372 := a_ (blk_grown (g := gb372) (rb_ BK372.out) hg (Kd.R_ne HO_5.out BK372.out (by decide))); replace BK380 := a_ (blk_grown (g := gb380) (rb_ BK380.out) hg (Kd.R_ne HO_5.out BK380.out (by decide))); replace HO390 := a_ (Kd.R_after (ok := (fun _ => True)) (ra_ HO390.out) hg hat); replace HB := a_ (hb); have HO393 := a_ (ho); clear HO_5; clear ho hb hg hat))
                repeat (go_quiet (first | (go_at_call 48; (with_reducible refine (impl_toInt.calls ((rd_T64 t376 x19_1).f3) t387 _ A29.out).mono ?_); rintro e w' ⟨rfl, ⟨nd, rfl⟩⟩; (try first | exact ⟨rfl, _, World.drewN_drewN _ _ _⟩ | exact ⟨rfl, _, Eq.trans (World.drewN_drewN _ _ _) (congrArg (World.drewN _) (Nat.add_assoc _ _ _))⟩)) | ((with_reducible refine gate_dst (N := 66) rfl ?_); refine Kd.R_lit (Kd.int .i64) _ 2 ?hg (N := 66) ?hd (xs := ([x9_19, x10_19] : List Int)) (inner := [.int .i64 x9_19, .int .i64 x10_19]) (ok := fun _ => True) (okp := fun _ => True) ?hr ?hp (fun _ hk => hk) trivial (Below.refl _ _) (Nat.le_refl _) (by simp) ?_; (case hd => rfl); (case hg => rfl); (case hr => first | (go_simp; done) | (go_simp; rfl)); (case hp => exact (Reps.one (show Kd.M (Kd.int .i64) _ _ _ x9_19 [.int .i64 x9_19] from rfl) (Reps.one (show Kd.M (Kd.int .i64) _ _ _ x10_19 [.int .i64 x10_19] from rfl) (Reps.none _ _)))); intro v389 w35 ho36 hb hg_ hnew_; clear hg_ hnew_; (first | rw [← Ny388.out] at ho36 | (simp only [Int.reduceToNat] at ho36; rw [← Ny388.out] at ho36)); replace HO_17 := a_ (Kd.R_below (ra_ HO_17.out) hb); have HO390 := a_ (Kd.R_lower (Kd.R_new' ho36 (Kd.R_lt (ra_ HO_5.out))) (below_size z7_)); replace HO_5 := a_ (Kd.R_elder' (ra_ HO_5.out) (Kd.R_base ho36) hb); replace BK372 := a_ (blk_below (g := gb372) (rb_ BK372.out) hb); replace BK380 := a_ (blk_below (g := gb380) (rb_ BK380.out) hb); replace HB := a_ (below_step z7_ hb); clear hb ho36; obtain ⟨Ao38, co38, eo38⟩ := Kd.R_slice HO390.out; subst eo38) | ((with_reducible refine gate_builtin (b := .append) (xs := #[.tmp 63, .tmp 66]) rfl ?_); at_builtin; refine Kd.R_append_rows (Kd.int .i64) (w0 := w) w.heap.size rfl (.tmp 63) (.tmp 66) 22 2 (.int .i64 0) 8 rfl Tryz.underlying22 info2 rfl (by decide) (by omega) u5 x5_1 y388 _ _ _ (fun k_ => nb_ k_ Ao38 y388.length co38) (fun _ => False) rfl rfl ?aO ?aR (fun _ _ h => h) (fun _ h => h.elim) ?aF ?aB ?aS ?aL ?_; (case aR => repeat (first | exact (Kd.R_reads' HO390.out).2.2 | (with_reducible refine Kd.C_alloc ?_ _) | (with_reducible refine Kd.C_drewN ?_ _) | (with_reducible refine Kd.C_drew ?_))); (case aB => exact z7_); (case aF => exact (fun k_ hk => Kd.fresh' (Kd.R_lt (ra_ HO390.out)) k_ hk)); (case aO => exact (rc_ (h := by exact Kd.R_mono HO_5.out (fun _ hk => hk.2)))); (case aS => exact (below_size z7_)); (case aL => have := LMc31.out; omega); intro v392 w37 ho hb hg hat; rw [← Ny391.out] at ho; replace HO_17 := a_ (Kd.R_over' (ra_ HO_17.out) (Kd.R_typed (ra_ HO_5.out)) (by decide) hg); replace BK372 := a_ (blk_grown (g := gb372) (rb_ BK372.out) hg (Kd.R_ne HO_5.out BK372.out (by decide))); replace BK380 := a_ (blk_grown (g := gb380) (rb_ BK380.out) hg (Kd.R_ne HO_5.out BK380.out (by decide))); replace HO390 := a_ (Kd.R_after (ok := (fun _ => True)) (ra_ HO390.out) hg hat); replace HB := a_ (hb); have HO393 := a_ (ho); clear HO_5; clear ho hb hg hat)); try go_wp2_with (first | (go_at_call 48; (with_reducible refine (impl_toInt.calls ((rd_T64 t376 x19_1).f3) t387 _ A29.out).mono ?_); rintro e w' ⟨rfl, ⟨nd, rfl⟩⟩; (try first | exact ⟨rfl, _, World.drewN_drewN _ _ _⟩ | exact ⟨rfl, _, Eq.trans (World.drewN_drewN _ _ _) (congrArg (World.drewN _) (Nat.add_assoc _ _ _))⟩)) | ((with_reducible refine gate_dst (N := 66) rfl ?_); refine Kd.R_lit (Kd.int .i64) _ 2 ?hg (N := 66) ?hd (xs := ([x9_19, x10_19] : List Int)) (inner := [.int .i64 x9_19, .int .i64 x10_19]) (ok := fun _ => True) (okp := fun _ => True) ?hr ?hp (fun _ hk => hk) trivial (Below.refl _ _) (Nat.le_refl _) (by simp) ?_; (case hd => rfl); (case hg => rfl); (case hr => first | (go_simp; done) | (go_simp; rfl)); (case hp => exact (Reps.one (show Kd.M (Kd.int .i64) _ _ _ x9_19 [.int .i64 x9_19] from rfl) (Reps.one (show Kd.M (Kd.int .i64) _ _ _ x10_19 [.int .i64 x10_19] from rfl) (Reps.none _ _)))); intro v389 w35 ho36 hb hg_ hnew_; clear hg_ hnew_; (first | rw [← Ny388.out] at ho36 | (simp only [Int.reduceToNat] at ho36; rw [← Ny388.out] at ho36)); replace HO_17 := a_ (Kd.R_below (ra_ HO_17.out) hb); have HO390 := a_ (Kd.R_lower (Kd.R_new' ho36 (Kd.R_lt (ra_ HO_5.out))) (below_size z7_)); replace HO_5 := a_ (Kd.R_elder' (ra_ HO_5.out) (Kd.R_base ho36) hb); replace BK372 := a_ (blk_below (g := gb372) (rb_ BK372.out) hb); replace BK380 := a_ (blk_below (g := gb380) (rb_ BK380.out) hb); replace HB := a_ (below_step z7_ hb); clear hb ho36; obtain ⟨Ao38, co38, eo38⟩ := Kd.R_slice HO390.out; subst eo38) | ((with_reducible refine gate_builtin (b := .append) (xs := #[.tmp 63, .tmp 66]) rfl ?_); at_builtin; refine Kd.R_append_rows (Kd.int .i64) (w0 := w) w.heap.size rfl (.tmp 63) (.tmp 66) 22 2 (.int .i64 0) 8 rfl Tryz.underlying22 info2 rfl (by decide) (by omega) u5 x5_1 y388 _ _ _ (fun k_ => nb_ k_ Ao38 y388.length co38) (fun _ => False) rfl rfl ?aO ?aR (fun _ _ h => h) (fun _ h => h.elim) ?aF ?aB ?aS ?aL ?_; (case aR => repeat (first | exact (Kd.R_reads' HO390.out).2.2 | (with_reducible refine Kd.C_alloc ?_ _) | (with_reducible refine Kd.C_drewN ?_ _) | (with_reducible refine Kd.C_drew ?_))); (case aB => exact z7_); (case aF => exact (fun k_ hk => Kd.fresh' (Kd.R_lt (ra_ HO390.out)) k_ hk)); (case aO => exact (rc_ (h := by exact Kd.R_mono HO_5.out (fun _ hk => hk.2)))); (case aS => exact (below_size z7_)); (case aL => have := LMc31.out; omega); intro v392 w37 ho hb hg hat; rw [← Ny391.out] at ho; replace HO_17 := a_ (Kd.R_over' (ra_ HO_17.out) (Kd.R_typed (ra_ HO_5.out)) (by decide) hg); replace BK372 := a_ (blk_grown (g := gb372) (rb_ BK372.out) hg (Kd.R_ne HO_5.out BK372.out (by decide))); replace BK380 := a_ (blk_grown (g := gb380) (rb_ BK380.out) hg (Kd.R_ne HO_5.out BK380.out (by decide))); replace HO390 := a_ (Kd.R_after (ok := (fun _ => True)) (ra_ HO390.out) hg hat); replace HB := a_ (hb); have HO393 := a_ (ho); clear HO_5; clear ho hb hg hat)))
                go_roundg kj19
                case measure => have := HK1.out; have := HJ19.out; omega
                case rel => exact ⟨(y391), (wrap64 (x19_1 + 1)), z76_, H', ⟨by have := HK1.out; have := HJ19.out; omega⟩, ⟨by (with_reducible repeat (first | apply Kd.R_alloc | apply Kd.R_drewN | apply Kd.R_drew)); exact Kd.R_mono HO393.out (fun _ hk => trivial)⟩, ⟨by (with_reducible repeat (first | apply Kd.R_alloc | apply Kd.R_drewN | apply Kd.R_drew)); exact Kd.R_mono HO_17.out (fun _ hk => trivial)⟩, ⟨z56_⟩, ⟨z7_⟩⟩
               ·rw [if_neg c31] at H
                exact absurd H (by simp)
              ·rw [if_neg c30] at H
               have c30b0 : ((rd l0_4 t381) == t387) = false := beq_eq_false_iff_ne.mpr c30
               have c30b1 : ((rd l0_4 t381) != t387) = true := bne_iff_ne.mpr c30
               obtain ⟨y394, hy394⟩ : ∃ y_ : List Int, y_ = (([wrap64 (-x9_19), wrap64 (-x10_19)] : List Int)) := ⟨_, rfl⟩
               replace H : (if x5_1.length + y394.length < 17592186044416 then (impl_readForm.l0 kj19 (x5_1 ++ y394) t376 (t376.length : Int) (wrap64 (x19_1 + 1)) a0_0 a0_1 l0_2 l0_3 l0_4) else (none)) = some r := rh_ hy394 H
               have Ny394 := Aside0.mk hy394
               clear hy394
               by_cases c39 : x5_1.length + y394.length < 17592186044416
               ·rw [if_pos c39] at H
                have LMc39 := Aside0.mk c39
                clear c39
                obtain ⟨y397, hy397⟩ : ∃ y_ : List Int, y_ = (x5_1 ++ y394) := ⟨_, rfl⟩
                replace H : (impl_readForm.l0 kj19 y397 t376 (t376.length : Int) (wrap64 (x19_1 + 1)) a0_0 a0_1 l0_2 l0_3 l0_4) = some r := rh_ hy397 H
                have Ny397 := Aside0.mk hy397
                clear hy397
                have H' := Aside0.mk H
                clear H
                have hnb40 := NB372_380.out
                have hnc40 := NB380_372.out
                obtain ⟨hcz41_0, hcz41_1, hcz41_2, hcz41_3, hcz41_4, hfz41_0, hfz41_1, hfz41_2, hfz41_3, hfz41_4⟩ := cz5_ (w := wc) BK372.out
                have p386 : 0 ≤ (t381 : Int) := of_decide_eq_true z75_
                have q386 : t381 < (l0_4.length : Int) := of_decide_eq_true z75_
                obtain ⟨ad386, e386, hx386_0⟩ := Kd.at_int HR0_4.out t381 p386 q386
                cases e386
                replace hx386_0 := (HB.out.cell (World.block_lt_of_cell? _ _ hx386_0)).trans hx386_0
                replace p386 := eq_true p386
                replace q386 := eq_true q386
                obtain ⟨hcz42_0, hcz42_1, hcz42_2, hcz42_3, hfz42_0, hfz42_1, hfz42_2, hfz42_3⟩ := cz4_ (w := wc) BK380.out
                go_wp2_with (first | (go_at_call 48; (with_reducible refine (impl_toInt.calls ((rd_T64 t376 x19_1).f3) t387 _ A29.out).mono ?_); rintro e w' ⟨rfl, ⟨nd, rfl⟩⟩; (try first | exact ⟨rfl, _, World.drewN_drewN _ _ _⟩ | exact ⟨rfl, _, Eq.trans (World.drewN_drewN _ _ _) (congrArg (World.drewN _) (Nat.add_assoc _ _ _))⟩)) | ((with_reducible refine gate_dst (N := 66) rfl ?_); refine Kd.R_lit (Kd.int .i64) _ 2 ?hg (N := 66) ?hd (xs := ([wrap64 (-x9_19), wrap64 (-x10_19)] : List Int)) (inner := [.int .i64 (wrap64 (-x9_19)), .int .i64 (wrap64 (-x10_19))]) (ok := fun _ => True) (okp := fun _ => True) ?hr ?hp (fun _ hk => hk) trivial (Below.refl _ _) (Nat.le_refl _) (by simp) ?_; (case hd => rfl); (case hg => rfl); (case hr => first | (go_simp; done) | (go_simp; rfl)); (case hp => exact (Reps.one (show Kd.M (Kd.int .i64) _ _ _ (wrap64 (-x9_19)) [.int .i64 (wrap64 (-x9_19))] from rfl) (Reps.one (show Kd.M (Kd.int .i64) _ _ _ (wrap64 (-x10_19)) [.int .i64 (wrap64 (-x10_19))] from rfl) (Reps.none _ _)))); intro v395 w43 ho44 hb hg_ hnew_; clear hg_ hnew_; (first | rw [← Ny394.out] at ho44 | (simp only [Int.reduceToNat] at ho44; rw [← Ny394.out] at ho44)); replace HO_17 := a_ (Kd.R_below (ra_ HO_17.out) hb); have HO396 := a_ (Kd.R_lower (Kd.R_new' ho44 (Kd.R_lt (ra_ HO_5.out))) (below_size z7_)); replace HO_5 := a_ (Kd.R_elder' (ra_ HO_5.out) (Kd.R_base ho44) hb); replace BK372 := a_ (blk_below (g := gb372) (rb_ BK372.out) hb); replace BK380 := a_ (blk_below (g := gb380) (rb_ BK380.out) hb); replace HB := a_ (below_step z7_ hb); clear hb ho44; obtain ⟨Ao46, co46, eo46⟩ := Kd.R_slice HO396.out; subst eo46) | ((with_reducible refine gate_builtin (b := .append) (xs := #[.tmp 63, .tmp 66]) rfl ?_); at_builtin; refine Kd.R_append_rows (Kd.int .i64) (w0 := w) w.heap.size rfl (.tmp 63) (.tmp 66) 22 2 (.int .i64 0) 8 rfl Tryz.underlying22 info2 rfl (by decide) (by omega) u5 x5_1 y394 _ _ _ (fun k_ => nb_ k_ Ao46 y394.length co46) (fun _ => False) rfl rfl ?aO ?aR (fun _ _ h => h) (fun _ h => h.elim) ?aF ?aB ?aS ?aL ?_; (case aR => repeat (first | exact (Kd.R_reads' HO396.out).2.2 | (with_reducible refine Kd.C_alloc ?_ _) | (with_reducible refine Kd.C_drewN ?_ _) | (with_reducible refine Kd.C_drew ?_))); (case aB => exact z7_); (case aF => exact (fun k_ hk => Kd.fresh' (Kd.R_lt (ra_ HO396.out)) k_ hk)); (case aO => exact (rc_ (h := by exact Kd.R_mono HO_5.out (fun _ hk => hk.2)))); (case aS => exact (below_size z7_)); (case aL => have := LMc39.out; omega); intro v398 w45 ho hb hg hat; rw [← Ny397.out] at ho; replace HO_17 := a_ (Kd.R_over' (ra_ HO_17.out) (Kd.R_typed (ra_ HO_5.out)) (by decide) hg); replace BK372 := a_ (blk_grown (g := gb372) (rb_ BK372.out) hg (Kd.R_ne HO_5.out BK372.out (by decide))); replace BK380 := a_ (blk_grown (g := gb380) (rb_ BK380.out) hg (Kd.R_ne HO_5.out BK380.out (by decide))); replace HO396 := a_ (Kd.R_after (ok := (fun _ => True)) (ra_ HO396.out) hg hat); replace HB := a_ (hb); have HO399 := a_ (ho); clear HO_5; clear ho hb hg hat))
                repeat (go_quiet (first | (go_at_call 48; (with_reducible refine (impl_toInt.calls ((rd_T64 t376 x19_1).f3) t387 _ A29.out).mono ?_); rintro e w' ⟨rfl, ⟨nd, rfl⟩⟩; (try first | exact ⟨rfl, _, World.drewN_drewN _ _ _⟩ | exact ⟨rfl, _, Eq.trans (World.drewN_drewN _ _ _) (congrArg (World.drewN _) (Nat.add_assoc _ _ _))⟩)) | ((with_reducible refine gate_dst (N := 66) rfl ?_); refine Kd.R_lit (Kd.int .i64) _ 2 ?hg (N := 66) ?hd (xs := ([wrap64 (-x9_19), wrap64 (-x10_19)] : List Int)) (inner := [.int .i64 (wrap64 (-x9_19)), .int .i64 (wrap64 (-x10_19))]) (ok := fun _ => True) (okp := fun _ => True) ?hr ?hp (fun _ hk => hk) trivial (Below.refl _ _) (Nat.le_refl _) (by simp) ?_; (case hd => rfl); (case hg => rfl); (case hr => first | (go_simp; done) | (go_simp; rfl)); (case hp => exact (Reps.one (show Kd.M (Kd.int .i64) _ _ _ (wrap64 (-x9_19)) [.int .i64 (wrap64 (-x9_19))] from rfl) (Reps.one (show Kd.M (Kd.int .i64) _ _ _ (wrap64 (-x10_19)) [.int .i64 (wrap64 (-x10_19))] from rfl) (Reps.none _ _)))); intro v395 w43 ho44 hb hg_ hnew_; clear hg_ hnew_; (first | rw [← Ny394.out] at ho44 | (simp only [Int.reduceToNat] at ho44; rw [← Ny394.out] at ho44)); replace HO_17 := a_ (Kd.R_below (ra_ HO_17.out) hb); have HO396 := a_ (Kd.R_lower (Kd.R_new' ho44 (Kd.R_lt (ra_ HO_5.out))) (below_size z7_)); replace HO_5 := a_ (Kd.R_elder' (ra_ HO_5.out) (Kd.R_base ho44) hb); replace BK372 := a_ (blk_below (g := gb372) (rb_ BK372.out) hb); replace BK380 := a_ (blk_below (g := gb380) (rb_ BK380.out) hb); replace HB := a_ (below_step z7_ hb); clear hb ho44; obtain ⟨Ao46, co46, eo46⟩ := Kd.R_slice HO396.out; subst eo46) | ((with_reducible refine gate_builtin (b := .append) (xs := #[.tmp 63, .tmp 66]) rfl ?_); at_builtin; refine Kd.R_append_rows (Kd.int .i64) (w0 := w) w.heap.size rfl (.tmp 63) (.tmp 66) 22 2 (.int .i64 0) 8 rfl Tryz.underlying22 info2 rfl (by decide) (by omega) u5 x5_1 y394 _ _ _ (fun k_ => nb_ k_ Ao46 y394.length co46) (fun _ => False) rfl rfl ?aO ?aR (fun _ _ h => h) (fun _ h => h.elim) ?aF ?aB ?aS ?aL ?_; (case aR => repeat (first | exact (Kd.R_reads' HO396.out).2.2 | (with_reducible refine Kd.C_alloc ?_ _) | (with_reducible refine Kd.C_drewN ?_ _) | (with_reducible refine Kd.C_drew ?_))); (case aB => exact z7_); (case aF => exact (fun k_ hk => Kd.fresh' (Kd.R_lt (ra_ HO396.out)) k_ hk)); (case aO => exact (rc_ (h := by exact Kd.R_mono HO_5.out (fun _ hk => hk.2)))); (case aS => exact (below_size z7_)); (case aL => have := LMc39.out; omega); intro v398 w45 ho hb hg hat; rw [← Ny397.out] at ho; replace HO_17 := a_ (Kd.R_over' (ra_ HO_17.out) (Kd.R_typed (ra_ HO_5.out)) (by decide) hg); replace BK372 := a_ (blk_grown (g := gb372) (rb_ BK372.out) hg (Kd.R_ne HO_5.out BK372.out (by decide))); replace BK380 := a_ (blk_grown (g := gb380) (rb_ BK380.out) hg (Kd.R_ne HO_5.out BK380.out (by decide))); replace HO396 := a_ (Kd.R_after (ok := (fun _ => True)) (ra_ HO396.out) hg hat); replace HB := a_ (hb); have HO399 := a_ (ho); clear HO_5; clear ho hb hg hat)); try go_wp2_with (first | (go_at_call 48; (with_reducible refine (impl_toInt.calls ((rd_T64 t376 x19_1).f3) t387 _ A29.out).mono ?_); rintro e w' ⟨rfl, ⟨nd, rfl⟩⟩; (try first | exact ⟨rfl, _, World.drewN_drewN _ _ _⟩ | exact ⟨rfl, _, Eq.trans (World.drewN_drewN _ _ _) (congrArg (World.drewN _) (Nat.add_assoc _ _ _))⟩)) | ((with_reducible refine gate_dst (N := 66) rfl ?_); refine Kd.R_lit (Kd.int .i64) _ 2 ?hg (N := 66) ?hd (xs := ([wrap64 (-x9_19), wrap64 (-x10_19)] : List Int)) (inner := [.int .i64 (wrap64 (-x9_19)), .int .i64 (wrap64 (-x10_19))]) (ok := fun _ => True) (okp := fun _ => True) ?hr ?hp (fun _ hk => hk) trivial (Below.refl _ _) (Nat.le_refl _) (by simp) ?_; (case hd => rfl); (case hg => rfl); (case hr => first | (go_simp; done) | (go_simp; rfl)); (case hp => exact (Reps.one (show Kd.M (Kd.int .i64) _ _ _ (wrap64 (-x9_19)) [.int .i64 (wrap64 (-x9_19))] from rfl) (Reps.one (show Kd.M (Kd.int .i64) _ _ _ (wrap64 (-x10_19)) [.int .i64 (wrap64 (-x10_19))] from rfl) (Reps.none _ _)))); intro v395 w43 ho44 hb hg_ hnew_; clear hg_ hnew_; (first | rw [← Ny394.out] at ho44 | (simp only [Int.reduceToNat] at ho44; rw [← Ny394.out] at ho44)); replace HO_17 := a_ (Kd.R_below (ra_ HO_17.out) hb); have HO396 := a_ (Kd.R_lower (Kd.R_new' ho44 (Kd.R_lt (ra_ HO_5.out))) (below_size z7_)); replace HO_5 := a_ (Kd.R_elder' (ra_ HO_5.out) (Kd.R_base ho44) hb); replace BK372 := a_ (blk_below (g := gb372) (rb_ BK372.out) hb); replace BK380 := a_ (blk_below (g := gb380) (rb_ BK380.out) hb); replace HB := a_ (below_step z7_ hb); clear hb ho44; obtain ⟨Ao46, co46, eo46⟩ := Kd.R_slice HO396.out; subst eo46) | ((with_reducible refine gate_builtin (b := .append) (xs := #[.tmp 63, .tmp 66]) rfl ?_); at_builtin; refine Kd.R_append_rows (Kd.int .i64) (w0 := w) w.heap.size rfl (.tmp 63) (.tmp 66) 22 2 (.int .i64 0) 8 rfl Tryz.underlying22 info2 rfl (by decide) (by omega) u5 x5_1 y394 _ _ _ (fun k_ => nb_ k_ Ao46 y394.length co46) (fun _ => False) rfl rfl ?aO ?aR (fun _ _ h => h) (fun _ h => h.elim) ?aF ?aB ?aS ?aL ?_; (case aR => repeat (first | exact (Kd.R_reads' HO396.out).2.2 | (with_reducible refine Kd.C_alloc ?_ _) | (with_reducible refine Kd.C_drewN ?_ _) | (with_reducible refine Kd.C_drew ?_))); (case aB => exact z7_); (case aF => exact (fun k_ hk => Kd.fresh' (Kd.R_lt (ra_ HO396.out)) k_ hk)); (case aO => exact (rc_ (h := by exact Kd.R_mono HO_5.out (fun _ hk => hk.2)))); (case aS => exact (below_size z7_)); (case aL => have := LMc39.out; omega); intro v398 w45 ho hb hg hat; rw [← Ny397.out] at ho; replace HO_17 := a_ (Kd.R_over' (ra_ HO_17.out) (Kd.R_typed (ra_ HO_5.out)) (by decide) hg); replace BK372 := a_ (blk_grown (g := gb372) (rb_ BK372.out) hg (Kd.R_ne HO_5.out BK372.out (by decide))); replace BK380 := a_ (blk_grown (g := gb380) (rb_ BK380.out) hg (Kd.R_ne HO_5.out BK380.out (by decide))); replace HO396 := a_ (Kd.R_after (ok := (fun _ => True)) (ra_ HO396.out) hg hat); replace HB := a_ (hb); have HO399 := a_ (ho); clear HO_5; clear ho hb hg hat)))
                try (have hw3_ := Go.IntWalk.i64_left (-x9_19); have hw4_ := Go.IntWalk.i64_left (-x10_19); (go_quiet (first | (go_at_call 48; (with_reducible refine (impl_toInt.calls ((rd_T64 t376 x19_1).f3) t387 _ A29.out).mono ?_); rintro e w' ⟨rfl, ⟨nd, rfl⟩⟩; (try first | exact ⟨rfl, _, World.drewN_drewN _ _ _⟩ | exact ⟨rfl, _, Eq.trans (World.drewN_drewN _ _ _) (congrArg (World.drewN _) (Nat.add_assoc _ _ _))⟩)) | ((with_reducible refine gate_dst (N := 66) rfl ?_); refine Kd.R_lit (Kd.int .i64) _ 2 ?hg (N := 66) ?hd (xs := ([wrap64 (-x9_19), wrap64 (-x10_19)] : List Int)) (inner := [.int .i64 (wrap64 (-x9_19)), .int .i64 (wrap64 (-x10_19))]) (ok := fun _ => True) (okp := fun _ => True) ?hr ?hp (fun _ hk => hk) trivial (Below.refl _ _) (Nat.le_refl _) (by simp) ?_; (case hd => rfl); (case hg => rfl); (case hr => first | (go_simp; done) | (go_simp; rfl)); (case hp => exact (Reps.one (show Kd.M (Kd.int .i64) _ _ _ (wrap64 (-x9_19)) [.int .i64 (wrap64 (-x9_19))] from rfl) (Reps.one (show Kd.M (Kd.int .i64) _ _ _ (wrap64 (-x10_19)) [.int .i64 (wrap64 (-x10_19))] from rfl) (Reps.none _ _)))); intro v395 w43 ho44 hb hg_ hnew_; clear hg_ hnew_; (first | rw [← Ny394.out] at ho44 | (simp only [Int.reduceToNat] at ho44; rw [← Ny394.out] at ho44)); replace HO_17 := a_ (Kd.R_below (ra_ HO_17.out) hb); have HO396 := a_ (Kd.R_lower (Kd.R_new' ho44 (Kd.R_lt (ra_ HO_5.out))) (below_size z7_)); replace HO_5 := a_ (Kd.R_elder' (ra_ HO_5.out) (Kd.R_base ho44) hb); replace BK372 := a_ (blk_below (g := gb372) (rb_ BK372.out) hb); replace BK380 := a_ (blk_below (g := gb380) (rb_ BK380.out) hb); replace HB := a_ (below_step z7_ hb); clear hb ho44; obtain ⟨Ao46, co46, eo46⟩ := Kd.R_slice HO396.out; subst eo46) | ((with_reducible refine gate_builtin (b := .append) (xs := #[.tmp 63, .tmp 66]) rfl ?_); at_builtin; refine Kd.R_append_rows (Kd.int .i64) (w0 := w) w.heap.size rfl (.tmp 63) (.tmp 66) 22 2 (.int .i64 0) 8 rfl Tryz.underlying22 info2 rfl (by decide) (by omega) u5 x5_1 y394 _ _ _ (fun k_ => nb_ k_ Ao46 y394.length co46) (fun _ => False) rfl rfl ?aO ?aR (fun _ _ h => h) (fun _ h => h.elim) ?aF ?aB ?aS ?aL ?_; (case aR => repeat (first | exact (Kd.R_reads' HO396.out).2.2 | (with_reducible refine Kd.C_alloc ?_ _) | (with_reducible refine Kd.C_drewN ?_ _) | (with_reducible refine Kd.C_drew ?_))); (case aB => exact z7_); (case aF => exact (fun k_ hk => Kd.fresh' (Kd.R_lt (ra_ HO396.out)) k_ hk)); (case aO => exact (rc_ (h := by exact Kd.R_mono HO_5.out (fun _ hk => hk.2)))); (case aS => exact (below_size z7_)); (case aL => have := LMc39.out; omega); intro v398 w45 ho hb hg hat; rw [← Ny397.out] at ho; replace HO_17 := a_ (Kd.R_over' (ra_ HO_17.out) (Kd.R_typed (ra_ HO_5.out)) (by decide) hg); replace BK372 := a_ (blk_grown (g := gb372) (rb_ BK372.out) hg (Kd.R_ne HO_5.out BK372.out (by decide))); replace BK380 := a_ (blk_grown (g := gb380) (rb_ BK380.out) hg (Kd.R_ne HO_5.out BK380.out (by decide))); replace HO396 := a_ (Kd.R_after (ok := (fun _ => True)) (ra_ HO396.out) hg hat); replace HB := a_ (hb); have HO399 := a_ (ho); clear HO_5; clear ho hb hg hat))); (try go_wp2_with (first | (go_at_call 48; (with_reducible refine (impl_toInt.calls ((rd_T64 t376 x19_1).f3) t387 _ A29.out).mono ?_); rintro e w' ⟨rfl, ⟨nd, rfl⟩⟩; (try first | exact ⟨rfl, _, World.drewN_drewN _ _ _⟩ | exact ⟨rfl, _, Eq.trans (World.drewN_drewN _ _ _) (congrArg (World.drewN _) (Nat.add_assoc _ _ _))⟩)) | ((with_reducible refine gate_dst (N := 66) rfl ?_); refine Kd.R_lit (Kd.int .i64) _ 2 ?hg (N := 66) ?hd (xs := ([wrap64 (-x9_19), wrap64 (-x10_19)] : List Int)) (inner := [.int .i64 (wrap64 (-x9_19)), .int .i64 (wrap64 (-x10_19))]) (ok := fun _ => True) (okp := fun _ => True) ?hr ?hp (fun _ hk => hk) trivial (Below.refl _ _) (Nat.le_refl _) (by simp) ?_; (case hd => rfl); (case hg => rfl); (case hr => first | (go_simp; done) | (go_simp; rfl)); (case hp => exact (Reps.one (show Kd.M (Kd.int .i64) _ _ _ (wrap64 (-x9_19)) [.int .i64 (wrap64 (-x9_19))] from rfl) (Reps.one (show Kd.M (Kd.int .i64) _ _ _ (wrap64 (-x10_19)) [.int .i64 (wrap64 (-x10_19))] from rfl) (Reps.none _ _)))); intro v395 w43 ho44 hb hg_ hnew_; clear hg_ hnew_; (first | rw [← Ny394.out] at ho44 | (simp only [Int.reduceToNat] at ho44; rw [← Ny394.out] at ho44)); replace HO_17 := a_ (Kd.R_below (ra_ HO_17.out) hb); have HO396 := a_ (Kd.R_lower (Kd.R_new' ho44 (Kd.R_lt (ra_ HO_5.out))) (below_size z7_)); replace HO_5 := a_ (Kd.R_elder' (ra_ HO_5.out) (Kd.R_base ho44) hb); replace BK372 := a_ (blk_below (g := gb372) (rb_ BK372.out) hb); replace BK380 := a_ (blk_below (g := gb380) (rb_ BK380.out) hb); replace HB := a_ (below_step z7_ hb); clear hb ho44; obtain ⟨Ao46, co46, eo46⟩ := Kd.R_slice HO396.out; subst eo46) | ((with_reducible refine gate_builtin (b := .append) (xs := #[.tmp 63, .tmp 66]) rfl ?_); at_builtin; refine Kd.R_append_rows (Kd.int .i64) (w0 := w) w.heap.size rfl (.tmp 63) (.tmp 66) 22 2 (.int .i64 0) 8 rfl Tryz.underlying22 info2 rfl (by decide) (by omega) u5 x5_1 y394 _ _ _ (fun k_ => nb_ k_ Ao46 y394.length co46) (fun _ => False) rfl rfl ?aO ?aR (fun _ _ h => h) (fun _ h => h.elim) ?aF ?aB ?aS ?aL ?_; (case aR => repeat (first | exact (Kd.R_reads' HO396.out).2.2 | (with_reducible refine Kd.C_alloc ?_ _) | (with_reducible refine Kd.C_drewN ?_ _) | (with_reducible refine Kd.C_drew ?_))); (case aB => exact z7_); (case aF => exact (fun k_ hk => Kd.fresh' (Kd.R_lt (ra_ HO396.out)) k_ hk)); (case aO => exact (rc_ (h := by exact Kd.R_mono HO_5.out (fun _ hk => hk.2)))); (case aS => exact (below_size z7_)); (case aL => have := LMc39.out; omega); intro v398 w45 ho hb hg hat; rw [← Ny397.out] at ho; replace HO_17 := a_ (Kd.R_over' (ra_ HO_17.out) (Kd.R_typed (ra_ HO_5.out)) (by decide) hg); replace BK372 := a_ (blk_grown (g := gb372) (rb_ BK372.out) hg (Kd.R_ne HO_5.out BK372.out (by decide))); replace BK380 := a_ (blk_grown (g := gb380) (rb_ BK380.out) hg (Kd.R_ne HO_5.out BK380.out (by decide))); replace HO396 := a_ (Kd.R_after (ok := (fun _ => True)) (ra_ HO396.out) hg hat); replace HB := a_ (hb); have HO399 := a_ (ho); clear HO_5; clear ho hb hg hat))))
                go_roundg kj19
                case measure => have := HK1.out; have := HJ19.out; omega
                case rel => exact ⟨(y397), (wrap64 (x19_1 + 1)), z76_, H', ⟨by have := HK1.out; have := HJ19.out; omega⟩, ⟨by (with_reducible repeat (first | apply Kd.R_alloc | apply Kd.R_drewN | apply Kd.R_drew)); exact Kd.R_mono HO399.out (fun _ hk => trivial)⟩, ⟨by (with_reducible repeat (first | apply Kd.R_alloc | apply Kd.R_drewN | apply Kd.R_drew)); exact Kd.R_mono HO_17.out (fun _ hk => trivial)⟩, ⟨z56_⟩, ⟨z7_⟩⟩
               ·rw [if_neg c39] at H
                exact absurd H (by simp)
             ·rw [if_neg c28] at H
              exact absurd H (by simp)
            ·rw [if_neg c27] at H
             exact absurd H (by simp)
         ·rw [if_neg c18] at H
          exact absurd H (by simp)
        ·rw [if_neg c17] at H
         exact absurd H (by simp)
       ·rw [if_neg c15] at H
        exact absurd H (by simp)
      ·rw [if_neg c14] at H
       exact absurd H (by simp)
     ·rw [if_neg c12] at H
      exact absurd H (by simp)
    ·rw [if_neg c11] at H
     exact absurd H (by simp)
   ·rw [if_neg c10] at H
    have c10b0 : decide (x19_1 < (t376.length : Int)) = false := decide_eq_false c10
    clear c10
    obtain rfl := Option.some.inj H
    go_wp2
    repeat (go_quiet (fail); try go_wp2)
    go_ret
    exact ⟨_, z33_, z62_, z26_⟩

end Go.Proofs.YtkpidjmhdagkfaaGreatDoor.QFnExactIsRightForm
-- halved
