-- Written by own_print.py of this session's repo over the kit's print (its output, turned at some places).
import Derived.Test.YtkpidjmhdagkfaaQFnExactSchemesForx0
import Derived.Test.YtkpidjmhdagkfaaQFnExactSchemesForx10
import Derived.Test.YtkpidjmhdagkfaaQFnExactSchemesForx12
namespace Go.Proofs.Ytkpidjmhdagkfaa.QFnExactSchemesFor
open Go.RowKit Go.Proofs.YtkpidjmhdagkfaaW.PrintWords Go.Proofs.YtkpidjmhdagkfaaW.PrintLast Go.Proofs.YtkpidjmhdagkfaaW.PrintMore
attribute [local go_sem] max2_int min2_int max_two min_two max_three min_three max_four min_four   -- for this text's walks alone
set_option linter.unusedVariables false
set_option linter.unusedSimpArgs false

/-! ### impl_foldSheet: function 90 -/
mutual
def impl_foldSheet.l0 : Nat → Int → ByteArray → List (List (List (S102))) → Int → Int → Option ((List (S102)))
 | 0, _, _, _, _, _ => none
 | k + 1, x0, x2, x7, x14, x15 => if x15 < x14 then (impl_foldSheet.l1 k x0 x2 x7 x15 (([] : List (List (S102)))) x14 x15 x0 0) else (impl_foldSheet.l2 k x2 x7 (x2.size : Int) 0)
def impl_foldSheet.l1 : Nat → Int → ByteArray → List (List (List (S102))) → Int → List (List (S102)) → Int → Int → Int → Int → Option ((List (S102)))
 | 0, _, _, _, _, _, _, _, _, _ => none
 | k + 1, x0, x2, x7, x8, x9, x14, x15, x19, x20 => if x20 < x19 then (if x9.length < 5864062014805 then (impl_foldSheet.l1 k x0 x2 x7 x8 (x9 ++ [(([(⟨x20, x8, false, false⟩ : S102)] : List (S102)))]) x14 x15 x19 (wrap64 (x20 + 1))) else (none)) else (if x7.length < 5864062014805 then (impl_foldSheet.l0 k x0 x2 (x7 ++ [x9]) x14 (wrap64 (x15 + 1))) else (none))
def impl_foldSheet.l2 : Nat → ByteArray → List (List (List (S102))) → Int → Int → Option ((List (S102)))
 | 0, _, _, _, _ => none
 | k + 1, x2, x7, x37, x38 => if x38 < x37 then (if 0 ≤ x38 then (if x38 < (x2.size : Int) then (if (bt x2 x38) = 84 then (if (bt x2 x38) = 76 then ((impl_halved.f k x7 true true).bind fun t418 => (impl_foldSheet.l2 k x2 t418 x37 (wrap64 (x38 + 1)))) else ((impl_halved.f k x7 true ((bt x2 x38) == 84)).bind fun t421 => (impl_foldSheet.l2 k x2 t421 x37 (wrap64 (x38 + 1))))) else (if (bt x2 x38) = 76 then ((impl_halved.f k x7 ((bt x2 x38) == 66) true).bind fun t424 => (impl_foldSheet.l2 k x2 t424 x37 (wrap64 (x38 + 1)))) else ((impl_halved.f k x7 ((bt x2 x38) == 66) ((bt x2 x38) == 84)).bind fun t427 => (impl_foldSheet.l2 k x2 t427 x37 (wrap64 (x38 + 1)))))) else (none)) else (none)) else (if 0 < (x7.length : Int) then (if 0 < ((rd_L5 x7 0).length : Int) then (some (rd_L4 (rd_L5 x7 0) 0)) else (none)) else (none))
end
def impl_foldSheet.f (k : Nat) (a0 : Int) (a1 : Int) (a2 : ByteArray) : Option ((List (S102))) := impl_foldSheet.l0 k a0 a2 (([] : List (List (List (S102))))) a1 0
theorem impl_foldSheet.mono_l : ∀ k, (∀ y0 y1 y2 y3 y4, LeO (impl_foldSheet.l0 k y0 y1 y2 y3 y4) (impl_foldSheet.l0 (k + 1) y0 y1 y2 y3 y4)) ∧ (∀ y0 y1 y2 y3 y4 y5 y6 y7 y8, LeO (impl_foldSheet.l1 k y0 y1 y2 y3 y4 y5 y6 y7 y8) (impl_foldSheet.l1 (k + 1) y0 y1 y2 y3 y4 y5 y6 y7 y8)) ∧ (∀ y0 y1 y2 y3, LeO (impl_foldSheet.l2 k y0 y1 y2 y3) (impl_foldSheet.l2 (k + 1) y0 y1 y2 y3))
 | 0 => ⟨fun _ _ _ _ _ r h => by simp [impl_foldSheet.l0] at h, fun _ _ _ _ _ _ _ _ _ r h => by simp [impl_foldSheet.l1] at h, fun _ _ _ _ r h => by simp [impl_foldSheet.l2] at h⟩
 | k + 1 => by
  obtain ⟨ih0, ih1, ih2⟩ := impl_foldSheet.mono_l k
  refine ⟨?_, ?_, ?_⟩
  ·intro y0 y1 y2 y3 y4
   unfold impl_foldSheet.l0
   repeat' first
   | (with_reducible exact ih0 _ _ _ _ _)
   | (with_reducible exact ih1 _ _ _ _ _ _ _ _ _)
   | (with_reducible exact ih2 _ _ _ _)
   | (with_reducible exact impl_halved.mono _ _ _ _)
   | (with_reducible exact LeO.refl _)
   | (with_reducible exact LeO.none _)
   | (with_reducible refine LeO.ite ?_ ?_)
   | (with_reducible refine LeO.bind ?_ (fun _ => ?_))
   | exact ih0 _ _ _ _ _
   | exact ih1 _ _ _ _ _ _ _ _ _
   | exact ih2 _ _ _ _
   | exact impl_halved.mono _ _ _ _
   | exact LeO.none _
   | refine LeO.ite ?_ ?_
   | refine LeO.bind ?_ (fun _ => ?_)
  ·intro y0 y1 y2 y3 y4 y5 y6 y7 y8
   unfold impl_foldSheet.l1
   repeat' first
   | (with_reducible exact ih0 _ _ _ _ _)
   | (with_reducible exact ih1 _ _ _ _ _ _ _ _ _)
   | (with_reducible exact ih2 _ _ _ _)
   | (with_reducible exact impl_halved.mono _ _ _ _)
   | (with_reducible exact LeO.refl _)
   | (with_reducible exact LeO.none _)
   | (with_reducible refine LeO.ite ?_ ?_)
   | (with_reducible refine LeO.bind ?_ (fun _ => ?_))
   | exact ih0 _ _ _ _ _
   | exact ih1 _ _ _ _ _ _ _ _ _
   | exact ih2 _ _ _ _
   | exact impl_halved.mono _ _ _ _
   | exact LeO.none _
   | refine LeO.ite ?_ ?_
   | refine LeO.bind ?_ (fun _ => ?_)
  ·intro y0 y1 y2 y3
   unfold impl_foldSheet.l2
   repeat' first
   | (with_reducible exact ih0 _ _ _ _ _)
   | (with_reducible exact ih1 _ _ _ _ _ _ _ _ _)
   | (with_reducible exact ih2 _ _ _ _)
   | (with_reducible exact impl_halved.mono _ _ _ _)
   | (with_reducible exact LeO.refl _)
   | (with_reducible exact LeO.none _)
   | (with_reducible refine LeO.ite ?_ ?_)
   | (with_reducible refine LeO.bind ?_ (fun _ => ?_))
   | exact ih0 _ _ _ _ _
   | exact ih1 _ _ _ _ _ _ _ _ _
   | exact ih2 _ _ _ _
   | exact impl_halved.mono _ _ _ _
   | exact LeO.none _
   | refine LeO.ite ?_ ?_
   | refine LeO.bind ?_ (fun _ => ?_)
theorem impl_foldSheet.mono : ∀ a0 a1 a2 k, LeO (impl_foldSheet.f k a0 a1 a2) (impl_foldSheet.f (k + 1) a0 a1 a2) := by
 intro a0 a1 a2 k
 obtain ⟨ih0, ih1, ih2⟩ := impl_foldSheet.mono_l k
 unfold impl_foldSheet.f
 repeat' first
   | (with_reducible exact ih0 _ _ _ _ _)
   | (with_reducible exact ih1 _ _ _ _ _ _ _ _ _)
   | (with_reducible exact ih2 _ _ _ _)
   | (with_reducible exact impl_halved.mono _ _ _ _)
   | (with_reducible exact LeO.refl _)
   | (with_reducible exact LeO.none _)
   | (with_reducible refine LeO.ite ?_ ?_)
   | (with_reducible refine LeO.bind ?_ (fun _ => ?_))
   | exact ih0 _ _ _ _ _
   | exact ih1 _ _ _ _ _ _ _ _ _
   | exact ih2 _ _ _ _
   | exact impl_halved.mono _ _ _ _
   | exact LeO.none _
   | refine LeO.ite ?_ ?_
   | refine LeO.bind ?_ (fun _ => ?_)
set_option maxHeartbeats 8000000 in
set_option maxRecDepth 100000 in
theorem impl_foldSheet.calls (k : Nat) (a0 : Int) (a1 : Int) (a2 : ByteArray) (r : List (S102)) (w : World) (h : impl_foldSheet.f k a0 a1 a2 = some r) :
  Calls Try.prog 90 #[.int .i64 a0, .int .i64 a1, .string a2] w fun e w' => ∃ v0_ : Value, e = .returned (v0_) ∧ Kd.R k102 102 w' w.heap.size (fun _ => True) v0_ r ∧ Below w.heap.size w w' := by
 have hu102 := Try.underlying102
 have HB := a_ (Below.refl w.heap.size w)
 have H : (impl_foldSheet.l0 k a0 a2 (([] : List (List (List (S102))))) a1 0) = some r := h
 clear h
 obtain ⟨y403, hy403⟩ : ∃ y_ : List (List (List (S102))), y_ = (([] : List (List (List (S102))))) := ⟨_, rfl⟩
 replace H : (impl_foldSheet.l0 k a0 a2 y403 a1 0) = some r := rh_ hy403 H
 have Ny403 := Aside0.mk hy403
 clear hy403
 have H' := Aside0.mk H
 clear H
 go_enter Try.func90, Try.ntmps90
 go_wp2_with (first | ((with_reducible refine gate_dst (N := 13) rfl ?_); refine Kd.R_lit (Kd.slice 99 (Kd.slice 102 k102)) _ 121 ?hg (N := 13) ?hd (xs := ([] : List (List (List (S102))))) (inner := []) (ok := fun _ => True) (okp := fun _ => True) ?hr ?hp (fun _ hk => hk) trivial (Below.refl _ _) (Nat.le_refl _) (by simp) ?_; (case hd => rfl); (case hg => rfl); (case hr => first | (go_simp; done) | (go_simp; rfl)); (case hp => exact (Reps.none _ _)); intro v404 w4 ho5 hb hg_ hnew_; clear hg_ hnew_; (first | rw [← Ny403.out] at ho5 | (simp only [Int.reduceToNat] at ho5; rw [← Ny403.out] at ho5)); have HO405 := a_ (Kd.R_lower ho5 (below_size z31_)); replace HB := a_ (below_step z31_ hb); clear hb ho5))
 go_loopg [7, 15] k (fun kq v7 v15 w' => ∃ (x7_1 : List (List (List (S102)))) (x15_1 : Int), v15 = .int .i64 x15_1 ∧ Aside0 (impl_foldSheet.l0 kq a0 a2 x7_1 a1 x15_1 = some r) ∧ Aside0 (kq ≤ k) ∧ Aside0 (Kd.R (Kd.slice 99 (Kd.slice 102 k102)) 121 w' w.heap.size (fun _ => True) v7 x7_1) ∧ Aside0 (Below w.heap.size w w'))
 case atStart => exact ⟨(y403), (0), z81_, H', ⟨Nat.le_refl _⟩, ⟨by (with_reducible repeat (first | apply Kd.R_alloc | apply Kd.R_drewN | apply Kd.R_drew)); exact HO405.out⟩, ⟨z31_⟩⟩
 case round =>
  clear H'
  obtain ⟨x7_1, x15_1, rfl, HA, HK1, HO_7, HB⟩ := hrel
  cases gk with
  | zero => exact absurd HA.out (by simp [impl_foldSheet.l0])
  | succ k1 =>
   have H := HA.out
   clear HA
   simp only [impl_foldSheet.l0] at H
   by_cases c6 : x15_1 < a1
   ·rw [if_pos c6] at H
    have c6b0 : decide (x15_1 < a1) = true := decide_eq_true c6
    clear c6
    obtain ⟨y406, hy406⟩ : ∃ y_ : List (List (S102)), y_ = (([] : List (List (S102)))) := ⟨_, rfl⟩
    replace H : (impl_foldSheet.l1 k1 a0 a2 x7_1 x15_1 y406 a1 x15_1 a0 0) = some r := rh_ hy406 H
    have Ny406 := Aside0.mk hy406
    clear hy406
    have H' := Aside0.mk H
    clear H
    go_wp2_with (first | ((with_reducible refine gate_dst (N := 18) rfl ?_); refine Kd.S_lit (Kd.slice 102 k102) _ 99 ?hg (N := 18) ?hd (xs := ([] : List (List (S102)))) (inner := []) (ok := fun _ => True) (okp := fun _ => True) ?hr ?hp (fun _ hk => hk) trivial (Below.refl _ _) (Nat.le_refl _) (by simp) ?_; (case hd => rfl); (case hg => rfl); (case hr => first | (go_simp; done) | (go_simp; rfl)); (case hp => exact (Reps.none _ _)); intro v407 w7 ho8 hb hg_ hnew_; clear hg_ hnew_; (first | rw [← Ny406.out] at ho8 | (simp only [Int.reduceToNat] at ho8; rw [← Ny406.out] at ho8)); replace HO_7 := a_ (Kd.R_elder' (ra_ HO_7.out) (Kd.S_base ho8) hb); have HO408 := a_ (Kd.S_lower ho8 (below_size z31_)); replace HB := a_ (below_step z31_ hb); clear hb ho8))
    go_loopg [9, 20] k1 (fun kq v9 v20 w' => ∃ (x9_2 : List (List (S102))) (x20_2 : Int), v20 = .int .i64 x20_2 ∧ Aside0 (impl_foldSheet.l1 kq a0 a2 x7_1 x15_1 x9_2 a1 x15_1 a0 x20_2 = some r) ∧ Aside0 (kq ≤ k1) ∧ Aside0 (Kd.R (Kd.slice 99 (Kd.slice 102 k102)) 121 w' w.heap.size (fun k_ => some k_ ≠ (v9 : Value).ownBlock) u7 x7_1) ∧ Aside0 (Kd.S (Kd.slice 102 k102) 99 w' w.heap.size (fun _ => True) v9 x9_2) ∧ Aside0 (Below w.heap.size w w'))
    case atStart => exact ⟨(y406), (0), z81_, H', ⟨Nat.le_refl _⟩, ⟨by (with_reducible repeat (first | apply Kd.R_alloc | apply Kd.R_drewN | apply Kd.R_drew)); exact Kd.R_mono HO_7.out (fun _ hk => hk.2)⟩, ⟨by (with_reducible repeat (first | apply Kd.S_alloc | apply Kd.S_drewN | apply Kd.S_drew)); exact HO408.out⟩, ⟨z31_⟩⟩
    case round =>
     clear H'
     try clear c6b0
     obtain ⟨x9_2, x20_2, rfl, HA, HK2, HO_7, HO_9, HB⟩ := hrel
     cases gk with
     | zero => exact absurd HA.out (by simp [impl_foldSheet.l1])
     | succ k2 =>
      have H := HA.out
      clear HA
      simp only [impl_foldSheet.l1] at H
      by_cases c9 : x20_2 < a0
      ·rw [if_pos c9] at H
       have c9b0 : decide (x20_2 < a0) = true := decide_eq_true c9
       clear c9
       obtain ⟨y409, hy409⟩ : ∃ y_ : List (S102), y_ = (([(⟨x20_2, x15_1, false, false⟩ : S102)] : List (S102))) := ⟨_, rfl⟩
       replace H : (if x9_2.length < 5864062014805 then (impl_foldSheet.l1 k2 a0 a2 x7_1 x15_1 (x9_2 ++ [y409]) a1 x15_1 a0 (wrap64 (x20_2 + 1))) else (none)) = some r := rh_ hy409 H
       have Ny409 := Aside0.mk hy409
       clear hy409
       by_cases c10 : x9_2.length < 5864062014805
       ·rw [if_pos c10] at H
        have LMc10 := Aside0.mk c10
        clear c10
        obtain ⟨y412, hy412⟩ : ∃ y_ : List (List (S102)), y_ = (x9_2 ++ [y409]) := ⟨_, rfl⟩
        replace H : (impl_foldSheet.l1 k2 a0 a2 x7_1 x15_1 y412 a1 x15_1 a0 (wrap64 (x20_2 + 1))) = some r := rh_ hy412 H
        have Ny412 := Aside0.mk hy412
        clear hy412
        have H' := Aside0.mk H
        clear H
        go_wp2_with (first | ((with_reducible refine gate_dst (N := 27) rfl ?_); refine Kd.R_lit k102 _ 102 ?hg (N := 27) ?hd (xs := ([(⟨x20_2, x15_1, false, false⟩ : S102)] : List (S102))) (inner := [.int .i64 x20_2, .int .i64 x15_1, .bool false, .bool false]) (ok := fun _ => True) (okp := fun _ => True) ?hr ?hp (fun _ hk => hk) trivial (Below.refl _ _) (Nat.le_refl _) (by simp) ?_; (case hd => rfl); (case hg => rfl); (case hr => first | (go_simp; done) | (go_simp; rfl)); (case hp => exact (Reps.c4 (show Kd.M k102 _ _ _ (⟨x20_2, x15_1, false, false⟩ : S102) [.int .i64 x20_2, .int .i64 x15_1, .bool false, .bool false] from (k102_mkM _ _ _ (⟨x20_2, x15_1, false, false⟩ : S102) )) (Reps.none _ _))); intro v410 w11 ho12 hb hg_ hnew_; clear hg_ hnew_; (first | rw [← Ny409.out] at ho12 | (simp only [Int.reduceToNat] at ho12; rw [← Ny409.out] at ho12)); replace HO_7 := a_ (Kd.R_elder' (ra_ HO_7.out) (Kd.R_base ho12) hb); replace HO_9 := a_ (Kd.S_elder' (by (with_reducible repeat (first | apply Kd.S_alloc | apply Kd.S_drewN | apply Kd.S_drew)); exact HO_9.out) (Kd.R_base ho12) hb); have HO411 := a_ (Kd.R_lower ho12 (below_size z31_)); replace HB := a_ (below_step z31_ hb); clear hb ho12; obtain ⟨Ao14, co14, eo14⟩ := Kd.R_slice HO411.out; subst eo14) | ((with_reducible refine gate_builtin (b := .append) (xs := #[.tmp 23, .tmp 28]) rfl ?_); at_builtin; refine Kd.S_append (Kd.slice 102 k102) (w0 := w) w.heap.size rfl (.tmp 23) (.tmp 28) 121 99 (.slice none 0 0) 24 rfl Try.underlying121 info99 rfl (by decide) (by omega) u9 x9_2 y409 [.slice Ao14 y409.length co14] (fun _ => True) (fun k_ => some k_ = (.slice Ao14 y409.length co14 : Value).ownBlock) rfl rfl ?aP (fun k_ hk_ => ((Kd.R_mono (ok' := fun k_ => ((fun _ => True)) k_ ∧ some k_ ≠ (u9 : Value).ownBlock) (Kd.R_apart' (HO411.out) (Kd.S_typed HO_9.out) (by decide)) (fun k_ hk => ⟨trivial, hk.2⟩))).1 k_ hk_.symm) ?aF ?aO ?aB ?aS ?aL ?_; (case aP => exact Kd.M_row (Kd.R_mono (Kd.R_tight rfl (Kd.R_mono (ok' := fun k_ => ((fun _ => True)) k_ ∧ some k_ ≠ (u9 : Value).ownBlock) (Kd.R_apart' (HO411.out) (Kd.S_typed HO_9.out) (by decide)) (fun k_ hk => ⟨trivial, hk.2⟩))) (fun _ h_ => h_))); (case aB => exact z31_); (case aF => exact (fun _ _ => trivial)); (case aO => exact (by (with_reducible repeat (first | apply Kd.S_alloc | apply Kd.S_drewN | apply Kd.S_drew)); exact Kd.S_mono HO_9.out (fun k_ hk => ⟨trivial, fun e_ => hk.2 e_⟩))); (case aS => exact (below_size z31_)); (case aL => have := LMc10.out; omega); intro v413 w13 ho hb hg hat; rw [← Ny412.out] at ho; replace HO_7 := a_ (Kd.R_after (ok := (fun k_ => nb_ k_ Ao14 y409.length co14)) (rc_ (h := by exact Kd.R_mono HO_7.out (fun _ hk => ⟨hk.2, hk.1⟩))) hg hat); replace HB := a_ (hb); have HO414 := a_ (ho); clear HO411; clear HO_9; clear ho hb hg hat))
        go_roundg k2
        case measure => have := HK1.out; have := HK2.out; omega
        case rel => exact ⟨(y412), (wrap64 (x20_2 + 1)), z81_, H', ⟨z83_⟩, ⟨by (with_reducible repeat (first | apply Kd.R_alloc | apply Kd.R_drewN | apply Kd.R_drew)); exact Kd.R_mono HO_7.out (fun _ hk => hk.2)⟩, ⟨by (with_reducible repeat (first | apply Kd.S_alloc | apply Kd.S_drewN | apply Kd.S_drew)); exact HO414.out⟩, ⟨z31_⟩⟩
       ·rw [if_neg c10] at H
        exact absurd H (by simp)
      ·rw [if_neg c9] at H
       have c9b0 : decide (x20_2 < a0) = false := decide_eq_false c9
       clear c9
       by_cases c15 : x7_1.length < 5864062014805
       ·rw [if_pos c15] at H
        have LMc15 := Aside0.mk c15
        clear c15
        obtain ⟨y415, hy415⟩ : ∃ y_ : List (List (List (S102))), y_ = (x7_1 ++ [x9_2]) := ⟨_, rfl⟩
        replace H : (impl_foldSheet.l0 k2 a0 a2 y415 a1 (wrap64 (x15_1 + 1))) = some r := rh_ hy415 H
        have Ny415 := Aside0.mk hy415
        clear hy415
        have H' := Aside0.mk H
        clear H
        obtain ⟨Ao17, co17, eo17⟩ := Kd.S_slice HO_9.out
        subst eo17
        go_wp2_with (first | ((with_reducible refine gate_builtin (b := .append) (xs := #[.tmp 31, .tmp 33]) rfl ?_); at_builtin; refine Kd.R_append (Kd.slice 99 (Kd.slice 102 k102)) (w0 := w) w.heap.size rfl (.tmp 31) (.tmp 33) 118 121 (.slice none 0 0) 24 rfl Try.underlying118 info121 rfl (by decide) (by omega) u7 x7_1 x9_2 [.slice Ao17 x9_2.length co17] (fun _ => True) (fun k_ => ((fun _ => True)) k_ ∧ some k_ ≠ (u7 : Value).ownBlock) rfl rfl ?aP (fun _ hk => hk) ?aF ?aO ?aB ?aS ?aL ?_; (case aP => exact Kd.M_row (Kd.R_mono (Kd.R_apart' ((Kd.S_R HO_9.out)) (Kd.R_typed HO_7.out) (by decide)) (fun k_ hk => ⟨trivial, hk.2⟩))); (case aB => exact z31_); (case aF => exact (fun _ _ => trivial)); (case aO => exact (rc_ (h := by exact Kd.R_mono HO_7.out (fun _ hk => trivial)))); (case aS => exact (below_size z31_)); (case aL => have := LMc15.out; omega); intro v416 w16 ho hb hg hat; rw [← Ny415.out] at ho; replace HB := a_ (hb); have HO417 := a_ (ho); clear HO_7; clear HO_9; clear ho hb hg hat))
        go_roundg k2
        case measure => have := HK1.out; have := HK2.out; omega
        case rel => exact ⟨(y415), (wrap64 (x15_1 + 1)), z81_, H', ⟨z83_⟩, ⟨by (with_reducible repeat (first | apply Kd.R_alloc | apply Kd.R_drewN | apply Kd.R_drew)); exact HO417.out⟩, ⟨z31_⟩⟩
       ·rw [if_neg c15] at H
        exact absurd H (by simp)
   ·rw [if_neg c6] at H
    have c6b0 : decide (x15_1 < a1) = false := decide_eq_false c6
    clear c6
    have H' := Aside0.mk H
    clear H
    go_wp2
    go_loopg [7, 38] k1 (fun kq v7 v38 w' => ∃ (x7_2 : List (List (List (S102)))) (x38_2 : Int), v38 = .int .i64 x38_2 ∧ Aside0 (impl_foldSheet.l2 kq a2 x7_2 (a2.size : Int) x38_2 = some r) ∧ Aside0 (kq ≤ k1) ∧ Aside0 (Kd.R (Kd.slice 99 (Kd.slice 102 k102)) 121 w' w.heap.size (fun _ => True) v7 x7_2) ∧ Aside0 (Below w.heap.size w w'))
    case atStart => exact ⟨(x7_1), (0), z81_, H', ⟨Nat.le_refl _⟩, ⟨z66_⟩, ⟨z31_⟩⟩
    case round =>
     clear H'
     try clear c6b0
     obtain ⟨x7_2, x38_2, rfl, HA, HK2, HO_7, HB⟩ := hrel
     cases gk with
     | zero => exact absurd HA.out (by simp [impl_foldSheet.l2])
     | succ k2 =>
      have H := HA.out
      clear HA
      simp only [impl_foldSheet.l2] at H
      by_cases c18 : x38_2 < (a2.size : Int)
      ·rw [if_pos c18] at H
       have c18b0 : decide (x38_2 < (a2.size : Int)) = true := decide_eq_true c18
       clear c18
       by_cases c19 : 0 ≤ x38_2
       ·rw [if_pos c19] at H
        have c19b0 : decide (0 ≤ x38_2) = true := decide_eq_true c19
        clear c19
        by_cases c20 : x38_2 < (a2.size : Int)
        ·rw [if_pos c20] at H
         have c20b0 : decide (x38_2 < (a2.size : Int)) = true := decide_eq_true c20
         clear c20
         by_cases c22 : (bt a2 x38_2) = 84
         ·rw [if_pos c22] at H
          have c22b0 : ((bt a2 x38_2) == 84) = true := beq_iff_eq.mpr c22
          (try simp only [c22b0] at H)
          have c22b1 : ((bt a2 x38_2) != 84) = false := bne_eq_false_iff_eq.mpr c22
          clear c22
          by_cases c23 : (bt a2 x38_2) = 76
          ·rw [if_pos c23] at H
           have c23b0 : ((bt a2 x38_2) == 76) = true := beq_iff_eq.mpr c23
           (try simp only [c23b0] at H)
           have c23b1 : ((bt a2 x38_2) != 76) = false := bne_eq_false_iff_eq.mpr c23
           clear c23
           replace H := Option.bind_eq_some_iff.mp H
           obtain ⟨t418, A240, H⟩ := H
           replace H : (impl_foldSheet.l2 k2 a2 t418 (a2.size : Int) (wrap64 (x38_2 + 1))) = some r := H
           have A24 := Aside0.mk A240
           clear A240
           have H' := Aside0.mk H
           clear H
           have p21 : 0 ≤ (x38_2 : Int) := of_decide_eq_true z80_
           have q21 : x38_2 < (a2.size : Int) := of_decide_eq_true z80_
           have hx21 := bt_at a2 x38_2
           replace p21 := eq_true p21
           replace q21 := eq_true q21
           obtain ⟨Ao25, co25, eo25⟩ := Kd.R_slice HO_7.out
           subst eo25
           go_wp2_with (first | ((with_reducible refine gate_callee (f := 109) rfl ?_); refine goesL_ (some 57) rfl rfl Try.func109 (by kernel_rfl) rfl #[.slice Ao25 x7_2.length co25, .bool true, .bool true] rfl z34_ ?_; (with_reducible refine (impl_halved.calls k2 _ _ x7_2 true true t418 _ ?side1 ?side2 A24.out).mono ?_); (case side1 => exact z15_); (case side2 => exact (Kd.R_reads' HO_7.out).2.1); rintro e w26 ⟨v419, rfl, ho0, hb⟩; refine ⟨_, rfl, ?_⟩; have HO420 := a_ (Kd.R_lower (Kd.R_new' ho0 (Kd.R_lt (ra_ HO_7.out))) (below_size z31_)); replace HO_7 := a_ (Kd.R_elder' (ra_ HO_7.out) (Kd.R_base ho0) hb); replace HB := a_ (below_step z31_ hb); (try clear hb); (try clear hb2); (try clear hk); (try clear hi); (try clear ho0)))
           go_roundg k2
           case measure => have := HK1.out; have := HK2.out; omega
           case rel => exact ⟨(t418), (wrap64 (x38_2 + 1)), z81_, H', ⟨z83_⟩, ⟨by (with_reducible repeat (first | apply Kd.R_alloc | apply Kd.R_drewN | apply Kd.R_drew)); exact Kd.R_mono HO420.out (fun _ hk => trivial)⟩, ⟨z31_⟩⟩
          ·rw [if_neg c23] at H
           have c23b0 : ((bt a2 x38_2) == 76) = false := beq_eq_false_iff_ne.mpr c23
           (try simp only [c23b0] at H)
           have c23b1 : ((bt a2 x38_2) != 76) = true := bne_iff_ne.mpr c23
           replace H := Option.bind_eq_some_iff.mp H
           obtain ⟨t421, A270, H⟩ := H
           replace H : (impl_foldSheet.l2 k2 a2 t421 (a2.size : Int) (wrap64 (x38_2 + 1))) = some r := H
           have A27 := Aside0.mk A270
           clear A270
           have H' := Aside0.mk H
           clear H
           have p21 : 0 ≤ (x38_2 : Int) := of_decide_eq_true z80_
           have q21 : x38_2 < (a2.size : Int) := of_decide_eq_true z80_
           have hx21 := bt_at a2 x38_2
           replace p21 := eq_true p21
           replace q21 := eq_true q21
           obtain ⟨Ao28, co28, eo28⟩ := Kd.R_slice HO_7.out
           subst eo28
           go_wp2_with (first | ((with_reducible refine gate_callee (f := 109) rfl ?_); refine goesL_ (some 57) rfl rfl Try.func109 (by kernel_rfl) rfl #[.slice Ao28 x7_2.length co28, .bool true, .bool true] rfl z34_ ?_; (with_reducible refine (impl_halved.calls k2 _ _ x7_2 true true t421 _ ?side1 ?side2 A27.out).mono ?_); (case side1 => exact z15_); (case side2 => exact (Kd.R_reads' HO_7.out).2.1); rintro e w29 ⟨v422, rfl, ho0, hb⟩; refine ⟨_, rfl, ?_⟩; have HO423 := a_ (Kd.R_lower (Kd.R_new' ho0 (Kd.R_lt (ra_ HO_7.out))) (below_size z31_)); replace HO_7 := a_ (Kd.R_elder' (ra_ HO_7.out) (Kd.R_base ho0) hb); replace HB := a_ (below_step z31_ hb); (try clear hb); (try clear hb2); (try clear hk); (try clear hi); (try clear ho0)))
           go_roundg k2
           case measure => have := HK1.out; have := HK2.out; omega
           case rel => exact ⟨(t421), (wrap64 (x38_2 + 1)), z81_, H', ⟨z83_⟩, ⟨by (with_reducible repeat (first | apply Kd.R_alloc | apply Kd.R_drewN | apply Kd.R_drew)); exact Kd.R_mono HO423.out (fun _ hk => trivial)⟩, ⟨z31_⟩⟩
         ·rw [if_neg c22] at H
          have c22b0 : ((bt a2 x38_2) == 84) = false := beq_eq_false_iff_ne.mpr c22
          (try simp only [c22b0] at H)
          have c22b1 : ((bt a2 x38_2) != 84) = true := bne_iff_ne.mpr c22
          by_cases c30 : (bt a2 x38_2) = 76
          ·rw [if_pos c30] at H
           have c30b0 : ((bt a2 x38_2) == 76) = true := beq_iff_eq.mpr c30
           (try simp only [c30b0] at H)
           have c30b1 : ((bt a2 x38_2) != 76) = false := bne_eq_false_iff_eq.mpr c30
           clear c30
           replace H := Option.bind_eq_some_iff.mp H
           obtain ⟨t424, A310, H⟩ := H
           replace H : (impl_foldSheet.l2 k2 a2 t424 (a2.size : Int) (wrap64 (x38_2 + 1))) = some r := H
           have A31 := Aside0.mk A310
           clear A310
           have H' := Aside0.mk H
           clear H
           have p21 : 0 ≤ (x38_2 : Int) := of_decide_eq_true z80_
           have q21 : x38_2 < (a2.size : Int) := of_decide_eq_true z80_
           have hx21 := bt_at a2 x38_2
           replace p21 := eq_true p21
           replace q21 := eq_true q21
           obtain ⟨Ao32, co32, eo32⟩ := Kd.R_slice HO_7.out
           subst eo32
           go_wp2_with (first | ((with_reducible refine gate_callee (f := 109) rfl ?_); refine goesL_ (some 57) rfl rfl Try.func109 (by kernel_rfl) rfl #[.slice Ao32 x7_2.length co32, .bool ((bt a2 x38_2) == 66), .bool true] rfl z34_ ?_; (with_reducible refine (impl_halved.calls k2 _ _ x7_2 ((bt a2 x38_2) == 66) true t424 _ ?side1 ?side2 A31.out).mono ?_); (case side1 => exact z15_); (case side2 => exact (Kd.R_reads' HO_7.out).2.1); rintro e w33 ⟨v425, rfl, ho0, hb⟩; refine ⟨_, rfl, ?_⟩; have HO426 := a_ (Kd.R_lower (Kd.R_new' ho0 (Kd.R_lt (ra_ HO_7.out))) (below_size z31_)); replace HO_7 := a_ (Kd.R_elder' (ra_ HO_7.out) (Kd.R_base ho0) hb); replace HB := a_ (below_step z31_ hb); (try clear hb); (try clear hb2); (try clear hk); (try clear hi); (try clear ho0)))
           go_roundg k2
           case measure => have := HK1.out; have := HK2.out; omega
           case rel => exact ⟨(t424), (wrap64 (x38_2 + 1)), z81_, H', ⟨z83_⟩, ⟨by (with_reducible repeat (first | apply Kd.R_alloc | apply Kd.R_drewN | apply Kd.R_drew)); exact Kd.R_mono HO426.out (fun _ hk => trivial)⟩, ⟨z31_⟩⟩
          ·rw [if_neg c30] at H
           have c30b0 : ((bt a2 x38_2) == 76) = false := beq_eq_false_iff_ne.mpr c30
           (try simp only [c30b0] at H)
           have c30b1 : ((bt a2 x38_2) != 76) = true := bne_iff_ne.mpr c30
           replace H := Option.bind_eq_some_iff.mp H
           obtain ⟨t427, A340, H⟩ := H
           replace H : (impl_foldSheet.l2 k2 a2 t427 (a2.size : Int) (wrap64 (x38_2 + 1))) = some r := H
           have A34 := Aside0.mk A340
           clear A340
           have H' := Aside0.mk H
           clear H
           have p21 : 0 ≤ (x38_2 : Int) := of_decide_eq_true z80_
           have q21 : x38_2 < (a2.size : Int) := of_decide_eq_true z80_
           have hx21 := bt_at a2 x38_2
           replace p21 := eq_true p21
           replace q21 := eq_true q21
           obtain ⟨Ao35, co35, eo35⟩ := Kd.R_slice HO_7.out
           subst eo35
           go_wp2_with (first | ((with_reducible refine gate_callee (f := 109) rfl ?_); refine goesL_ (some 57) rfl rfl Try.func109 (by kernel_rfl) rfl #[.slice Ao35 x7_2.length co35, .bool ((bt a2 x38_2) == 66), .bool false] rfl z34_ ?_; (with_reducible refine (impl_halved.calls k2 _ _ x7_2 ((bt a2 x38_2) == 66) false t427 _ ?side1 ?side2 A34.out).mono ?_); (case side1 => exact z15_); (case side2 => exact (Kd.R_reads' HO_7.out).2.1); rintro e w36 ⟨v428, rfl, ho0, hb⟩; refine ⟨_, rfl, ?_⟩; have HO429 := a_ (Kd.R_lower (Kd.R_new' ho0 (Kd.R_lt (ra_ HO_7.out))) (below_size z31_)); replace HO_7 := a_ (Kd.R_elder' (ra_ HO_7.out) (Kd.R_base ho0) hb); replace HB := a_ (below_step z31_ hb); (try clear hb); (try clear hb2); (try clear hk); (try clear hi); (try clear ho0)))
           go_roundg k2
           case measure => have := HK1.out; have := HK2.out; omega
           case rel => exact ⟨(t427), (wrap64 (x38_2 + 1)), z81_, H', ⟨z83_⟩, ⟨by (with_reducible repeat (first | apply Kd.R_alloc | apply Kd.R_drewN | apply Kd.R_drew)); exact Kd.R_mono HO429.out (fun _ hk => trivial)⟩, ⟨z31_⟩⟩
        ·rw [if_neg c20] at H
         exact absurd H (by simp)
       ·rw [if_neg c19] at H
        exact absurd H (by simp)
      ·rw [if_neg c18] at H
       have c18b0 : decide (x38_2 < (a2.size : Int)) = false := decide_eq_false c18
       clear c18
       by_cases c37 : 0 < (x7_2.length : Int)
       ·rw [if_pos c37] at H
        have c37b0 : decide (0 < (x7_2.length : Int)) = true := decide_eq_true c37
        have c37b1 : decide (0 < x7_2.length) = true := decide_eq_true (by omega)
        clear c37
        by_cases c38 : 0 < ((rd_L5 x7_2 0).length : Int)
        ·rw [if_pos c38] at H
         have c38b0 : decide (0 < ((rd_L5 x7_2 0).length : Int)) = true := decide_eq_true c38
         have c38b1 : decide (0 < (rd_L5 x7_2 0).length) = true := decide_eq_true (by omega)
         clear c38
         obtain rfl := Option.some.inj H
         obtain ⟨Ao39, co39, eo39⟩ := Kd.R_slice HO_7.out
         subst eo39
         have p430 : 0 ≤ (0 : Int) := (by omega)
         have q430 : 0 < (x7_2.length : Int) := of_decide_eq_true z80_
         obtain ⟨ad430, A430_0, c430_0, e430, hx430_0, hl430_0, hi430_0⟩ := at_L5 (Kd.R_reads' HO_7.out).2.2 0 p430 q430
         cases e430
         obtain ⟨ce430, hce430, hMe430, hcc430⟩ := Kd.R_get HO_7.out [] 0 p430 (by first | exact q430 | exact of_decide_eq_true z80_ | (have e_ := (Kd.R_reads' HO_7.out).1; omega))
         obtain ⟨ve430_0, rfl, ge430_0⟩ := hMe430
         have hv430_0 := hcc430 0 _ rfl
         rw [Nat.add_zero, show ((Kd.slice 99 (Kd.slice 102 k102))).sz = 1 from rfl, Nat.mul_one] at hv430_0
         replace hv430_0 := Option.some.inj (hv430_0.symm.trans hx430_0)
         rw [hv430_0] at ge430_0
         have HL430_0 := a_ (show Kd.R (Kd.slice 102 k102) 99 _ _ _ _ (rd_L5 x7_2 0) from ge430_0)
         clear hv430_0 ge430_0
         clear hcc430 hce430
         have qi430 : (0 < x7_2.length) = True := eq_true (by omega)
         (try rw [show ((0 : Int)).toNat = 0 from rfl] at hx430_0)
         (try rw [Addr.add_zero'] at hx430_0)
         have HR430_0 := Aside0.mk hi430_0
         have HC430_0 := Aside0.mk hl430_0
         clear hi430_0 hl430_0
         replace p430 := eq_true p430
         replace q430 := eq_true q430
         have p431 : 0 ≤ (0 : Int) := (by omega)
         have q431 : 0 < ((rd_L5 x7_2 0).length : Int) := of_decide_eq_true z80_
         obtain ⟨ad431, A431_0, c431_0, e431, hx431_0, hl431_0, hi431_0⟩ := at_L4 (by repeat (first | (with_reducible exact HR430_0.out) | (with_reducible refine Kd.C_alloc ?_ _) | (with_reducible refine Kd.C_drewN ?_ _) | (with_reducible refine Kd.C_drew ?_) | exact HR430_0.out)) 0 p431 q431
         cases e431
         obtain ⟨ce431, hce431, hMe431, hcc431⟩ := Kd.R_get HL430_0.out [] 0 p431 (by first | exact q431 | exact of_decide_eq_true z80_ | (have e_ := (Kd.R_reads' HL430_0.out).1; omega))
         obtain ⟨ve431_0, rfl, ge431_0⟩ := hMe431
         have hv431_0 := hcc431 0 _ rfl
         rw [Nat.add_zero, show ((Kd.slice 102 k102)).sz = 1 from rfl, Nat.mul_one] at hv431_0
         replace hv431_0 := Option.some.inj (hv431_0.symm.trans hx431_0)
         rw [hv431_0] at ge431_0
         have HL431_0 := a_ (show Kd.R k102 102 _ _ _ _ (rd_L4 (rd_L5 x7_2 0) 0) from ge431_0)
         clear hv431_0 ge431_0
         clear hcc431 hce431
         have qi431 : (0 < (rd_L5 x7_2 0).length) = True := eq_true (by omega)
         (try rw [show ((0 : Int)).toNat = 0 from rfl] at hx431_0)
         (try rw [Addr.add_zero'] at hx431_0)
         have HR431_0 := Aside0.mk hi431_0
         have HC431_0 := Aside0.mk hl431_0
         clear hi431_0 hl431_0
         replace p431 := eq_true p431
         replace q431 := eq_true q431
         go_wp2
         go_ret
         exact ⟨_, z32_, by (with_reducible repeat (first | apply Kd.R_alloc | apply Kd.R_drewN | apply Kd.R_drew)); exact Kd.R_mono HL431_0.out (fun _ hk => trivial), z31_⟩
        ·rw [if_neg c38] at H
         exact absurd H (by simp)
       ·rw [if_neg c37] at H
        exact absurd H (by simp)

/-! ### impl_frontPlace: function 91 -/
def impl_frontPlace.f (a0 : Int) (a1 : Int) (a2 : Int) : Option (Int) := some (wrap64 ((wrap64 (a2 * a0)) + a1))
set_option maxHeartbeats 8000000 in
set_option maxRecDepth 100000 in
theorem impl_frontPlace.calls (a0 : Int) (a1 : Int) (a2 : Int) (r : Int) (w : World) (h : impl_frontPlace.f a0 a1 a2 = some r) :
  Calls Try.prog 91 #[.int .i64 a0, .int .i64 a1, .int .i64 a2] w fun e w' => e = .returned (.int .i64 r) ∧ Drawn0 w w' := by
 have H : (some (wrap64 ((wrap64 (a2 * a0)) + a1))) = some r := h
 clear h
 obtain rfl := Option.some.inj H
 go_enter Try.func91, Try.ntmps91
 go_wp2
 go_ret
 exact ⟨z70_, z76_⟩

/-! ### impl_downLeaf: function 92 -/
def impl_downLeaf.f (a0_0 : Int) (a0_1 : Int) (a0_2 : Bool) (a0_3 : Bool) : Option (Bool) := some (a0_2 != a0_3)
set_option maxHeartbeats 8000000 in
set_option maxRecDepth 100000 in
theorem impl_downLeaf.calls (a0_0 : Int) (a0_1 : Int) (a0_2 : Bool) (a0_3 : Bool) (r : Bool) (w : World) (h : impl_downLeaf.f a0_0 a0_1 a0_2 a0_3 = some r) :
  Calls Try.prog 92 #[.agg #[.int .i64 a0_0, .int .i64 a0_1, .bool a0_2, .bool a0_3]] w fun e w' => e = .returned (.bool r) ∧ Below w.heap.size w w' := by
 have hu102 := Try.underlying102
 have HB := a_ (Below.refl w.heap.size w)
 have H : (some (a0_2 != a0_3)) = some r := h
 clear h
 obtain rfl := Option.some.inj H
 go_enter Try.func92, Try.ntmps92
 go_wp2_with (first | ((with_reducible refine gate_dst (N := 1) rfl ?_); refine box_event ?hg (N := 1) ?hd (cs := #[.int .i64 a0_0, .int .i64 a0_1, .bool a0_2, .bool a0_3]) (t := 102) ?hr ?_; (case hd => rfl); (case hg => rfl); (case hr => first | (go_simp; done) | (go_simp; rfl)); intro gb432 hg w2 hbox hb; have BK432 := a_ (hbox); have GW432 := a_ ((z30_ : w.heap.size ≤ gb432)); have GE432 := a_ ((z30_ : w.heap.size ≤ gb432)); replace HB := a_ (below_step z31_ hb); clear hb hbox hg; obtain ⟨hcz3_0, hcz3_1, hcz3_2, hcz3_3, hfz3_0, hfz3_1, hfz3_2, hfz3_3⟩ := cz4_ (w := w2) BK432.out))
 go_ret
 exact ⟨z32_, by repeat (first | (with_reducible first | exact HB.out | apply below_alloc | apply pw_below_drewN | apply below_drew1 | refine below_set ?_ GE432.out) | exact HB.out)⟩

/-! ### impl_toInt: function 93 -/
def impl_toInt.f (a0 : Bool) : Option (Int) := if a0 = true then (some 1) else (some 0)
set_option maxHeartbeats 8000000 in
set_option maxRecDepth 100000 in
theorem impl_toInt.calls (a0 : Bool) (r : Int) (w : World) (h : impl_toInt.f a0 = some r) :
  Calls Try.prog 93 #[.bool a0] w fun e w' => e = .returned (.int .i64 r) ∧ Drawn0 w w' := by
 have H : (if a0 = true then (some 1) else (some 0)) = some r := h
 clear h
 by_cases c2 : a0 = true
 ·subst c2
  have H1 : (some 1) = some r := by rw [if_pos rfl] at H; exact H
  clear H
  have H := H1
  clear H1
  obtain rfl := Option.some.inj H
  go_enter Try.func93, Try.ntmps93
  go_wp2
  go_ret
  exact ⟨z70_, z76_⟩
 ·replace c2 := Bool.eq_false_iff.mpr c2
  subst c2
  have H1 : (some 0) = some r := by rw [if_neg (show ¬ (false = true) by decide)] at H; exact H
  clear H
  have H := H1
  clear H1
  obtain rfl := Option.some.inj H
  go_enter Try.func93, Try.ntmps93
  go_wp2
  go_ret
  exact ⟨z70_, z76_⟩

/-! ### impl_readForm: function 80 -/
mutual
def impl_readForm.l0 : Nat → List Int → List (S102) → Int → Int → Int → Int → List Int → List Int → List Int → Option (List Int)
 | 0, _, _, _, _, _, _, _, _, _ => none
 | k + 1, x5, x17, x18, x19, x434000, x434001, x434002, x434003, x434004 => if x19 < x18 then (if 0 ≤ x19 then (if x19 < (x17.length : Int) then ((impl_frontPlace.f x434000 ((rd_T102 x17 x19).f0) ((rd_T102 x17 x19).f1)).bind fun t442 => (if 0 ≤ t442 then (if t442 < (x434002.length : Int) then ((impl_backPlace.f x434000 ((rd_T102 x17 x19).f0) ((rd_T102 x17 x19).f1)).bind fun t444 => (if 0 ≤ t444 then (if t444 < (x434003.length : Int) then ((impl_downLeaf.f ((rd_T102 x17 x19).f0) ((rd_T102 x17 x19).f1) ((rd_T102 x17 x19).f2) ((rd_T102 x17 x19).f3)).bind fun t446 => (if t446 = true then (impl_readForm.j1 k x5 t442 (rd x434003 t444) (rd x434002 t442) x17 x18 x19 x434000 x434001 x434002 x434003 x434004 ((rd_T102 x17 x19).f0) ((rd_T102 x17 x19).f1) ((rd_T102 x17 x19).f2) ((rd_T102 x17 x19).f3)) else (impl_readForm.j1 k x5 t442 (rd x434002 t442) (rd x434003 t444) x17 x18 x19 x434000 x434001 x434002 x434003 x434004 ((rd_T102 x17 x19).f0) ((rd_T102 x17 x19).f1) ((rd_T102 x17 x19).f2) ((rd_T102 x17 x19).f3)))) else (none)) else (none))) else (none)) else (none))) else (none)) else (none)) else (some x5)
def impl_readForm.j1 : Nat → List Int → Int → Int → Int → List (S102) → Int → Int → Int → Int → List Int → List Int → List Int → Int → Int → Bool → Bool → Option (List Int)
 | 0, _, _, _, _, _, _, _, _, _, _, _, _, _, _, _, _ => none
 | k + 1, x5, x8, x9, x10, x17, x18, x19, x434000, x434001, x434002, x434003, x434004, x442000, x442001, x442002, x442003 => if 0 ≤ x8 then (if x8 < (x434004.length : Int) then ((impl_toInt.f x442003).bind fun t448 => (if (rd x434004 x8) = t448 then ((some (([x9, x10] : List Int) : List Int)).bind fun y449 => (if x5.length + y449.length < 17592186044416 then (impl_readForm.l0 k (x5 ++ y449) x17 x18 (wrap64 (x19 + 1)) x434000 x434001 x434002 x434003 x434004) else (none))) else ((some (([wrap64 (-x9), wrap64 (-x10)] : List Int) : List Int)).bind fun y455 => (if x5.length + y455.length < 17592186044416 then (impl_readForm.l0 k (x5 ++ y455) x17 x18 (wrap64 (x19 + 1)) x434000 x434001 x434002 x434003 x434004) else (none))))) else (none)) else (none)
end
def impl_readForm.f (k : Nat) (a0_0 : Int) (a0_1 : Int) (l0_2 : List Int) (l0_3 : List Int) (l0_4 : List Int) (a1 : ByteArray) : Option (List Int) := (impl_foldSheet.f k a0_0 a0_1 a1).bind fun t437 => (impl_readForm.l0 k (([] : List Int)) t437 (t437.length : Int) 0 a0_0 a0_1 l0_2 l0_3 l0_4)
theorem impl_readForm.mono_l : ∀ k, (∀ y0 y1 y2 y3 y4 y5 y6 y7 y8, LeO (impl_readForm.l0 k y0 y1 y2 y3 y4 y5 y6 y7 y8) (impl_readForm.l0 (k + 1) y0 y1 y2 y3 y4 y5 y6 y7 y8)) ∧ (∀ y0 y1 y2 y3 y4 y5 y6 y7 y8 y9 y10 y11 y12 y13 y14 y15, LeO (impl_readForm.j1 k y0 y1 y2 y3 y4 y5 y6 y7 y8 y9 y10 y11 y12 y13 y14 y15) (impl_readForm.j1 (k + 1) y0 y1 y2 y3 y4 y5 y6 y7 y8 y9 y10 y11 y12 y13 y14 y15))
 | 0 => ⟨fun _ _ _ _ _ _ _ _ _ r h => by simp [impl_readForm.l0] at h, fun _ _ _ _ _ _ _ _ _ _ _ _ _ _ _ _ r h => by simp [impl_readForm.j1] at h⟩
 | k + 1 => by
  obtain ⟨ih0, ih1⟩ := impl_readForm.mono_l k
  refine ⟨?_, ?_⟩
  ·intro y0 y1 y2 y3 y4 y5 y6 y7 y8
   unfold impl_readForm.l0
   repeat' first
   | (with_reducible exact ih0 _ _ _ _ _ _ _ _ _)
   | (with_reducible exact ih1 _ _ _ _ _ _ _ _ _ _ _ _ _ _ _ _)
   | (with_reducible exact impl_foldSheet.mono _ _ _ _)
   | (with_reducible exact LeO.refl _)
   | (with_reducible exact LeO.none _)
   | (with_reducible refine LeO.ite ?_ ?_)
   | (with_reducible refine LeO.bind ?_ (fun _ => ?_))
   | exact ih0 _ _ _ _ _ _ _ _ _
   | exact ih1 _ _ _ _ _ _ _ _ _ _ _ _ _ _ _ _
   | exact impl_foldSheet.mono _ _ _ _
   | exact LeO.none _
   | refine LeO.ite ?_ ?_
   | refine LeO.bind ?_ (fun _ => ?_)
  ·intro y0 y1 y2 y3 y4 y5 y6 y7 y8 y9 y10 y11 y12 y13 y14 y15
   unfold impl_readForm.j1
   repeat' first
   | (with_reducible exact ih0 _ _ _ _ _ _ _ _ _)
   | (with_reducible exact ih1 _ _ _ _ _ _ _ _ _ _ _ _ _ _ _ _)
   | (with_reducible exact impl_foldSheet.mono _ _ _ _)
   | (with_reducible exact LeO.refl _)
   | (with_reducible exact LeO.none _)
   | (with_reducible refine LeO.ite ?_ ?_)
   | (with_reducible refine LeO.bind ?_ (fun _ => ?_))
   | exact ih0 _ _ _ _ _ _ _ _ _
   | exact ih1 _ _ _ _ _ _ _ _ _ _ _ _ _ _ _ _
   | exact impl_foldSheet.mono _ _ _ _
   | exact LeO.none _
   | refine LeO.ite ?_ ?_
   | refine LeO.bind ?_ (fun _ => ?_)
theorem impl_readForm.mono : ∀ a0 a1 a2 a3 a4 a5 k, LeO (impl_readForm.f k a0 a1 a2 a3 a4 a5) (impl_readForm.f (k + 1) a0 a1 a2 a3 a4 a5) := by
 intro a0 a1 a2 a3 a4 a5 k
 obtain ⟨ih0, ih1⟩ := impl_readForm.mono_l k
 unfold impl_readForm.f
 repeat' first
   | (with_reducible exact ih0 _ _ _ _ _ _ _ _ _)
   | (with_reducible exact ih1 _ _ _ _ _ _ _ _ _ _ _ _ _ _ _ _)
   | (with_reducible exact impl_foldSheet.mono _ _ _ _)
   | (with_reducible exact LeO.refl _)
   | (with_reducible exact LeO.none _)
   | (with_reducible refine LeO.ite ?_ ?_)
   | (with_reducible refine LeO.bind ?_ (fun _ => ?_))
   | exact ih0 _ _ _ _ _ _ _ _ _
   | exact ih1 _ _ _ _ _ _ _ _ _ _ _ _ _ _ _ _
   | exact impl_foldSheet.mono _ _ _ _
   | exact LeO.none _
   | refine LeO.ite ?_ ?_
   | refine LeO.bind ?_ (fun _ => ?_)
set_option maxHeartbeats 8000000 in
set_option maxRecDepth 100000 in
theorem impl_readForm.calls (k : Nat) (a0_0 : Int) (a0_1 : Int) (A0_2 : Option Addr) (c0_2 : Nat) (l0_2 : List Int) (A0_3 : Option Addr) (c0_3 : Nat) (l0_3 : List Int) (A0_4 : Option Addr) (c0_4 : Nat) (l0_4 : List Int) (a1 : ByteArray) (r : List Int) (w : World) (hr0_2 : Kd.C (Kd.int .i64) w A0_2 l0_2.length l0_2) (hc0_2 : l0_2.length ≤ c0_2) (hr0_3 : Kd.C (Kd.int .i64) w A0_3 l0_3.length l0_3) (hc0_3 : l0_3.length ≤ c0_3) (hr0_4 : Kd.C (Kd.int .i64) w A0_4 l0_4.length l0_4) (hc0_4 : l0_4.length ≤ c0_4) (h : impl_readForm.f k a0_0 a0_1 l0_2 l0_3 l0_4 a1 = some r) :
  Calls Try.prog 80 #[.agg #[.int .i64 a0_0, .int .i64 a0_1, .slice A0_2 l0_2.length c0_2, .slice A0_3 l0_3.length c0_3, .slice A0_4 l0_4.length c0_4], .string a1] w fun e w' => ∃ v0_ : Value, e = .returned (v0_) ∧ Kd.R (Kd.int .i64) 2 w' w.heap.size (fun _ => True) v0_ r ∧ Below w.heap.size w w' := by
 have hu27 := Try.underlying27
 have hu102 := Try.underlying102
 have HR0_2 := Aside0.mk hr0_2
 have HC0_2 := Aside0.mk hc0_2
 clear hr0_2 hc0_2
 have HR0_3 := Aside0.mk hr0_3
 have HC0_3 := Aside0.mk hc0_3
 clear hr0_3 hc0_3
 have HR0_4 := Aside0.mk hr0_4
 have HC0_4 := Aside0.mk hc0_4
 clear hr0_4 hc0_4
 have HB := a_ (Below.refl w.heap.size w)
 have H : ((impl_foldSheet.f k a0_0 a0_1 a1).bind fun t437 => (impl_readForm.l0 k (([] : List Int)) t437 (t437.length : Int) 0 a0_0 a0_1 l0_2 l0_3 l0_4)) = some r := h
 clear h
 obtain ⟨y434, hy434⟩ : ∃ y_ : List Int, y_ = (([] : List Int)) := ⟨_, rfl⟩
 replace H : ((impl_foldSheet.f k a0_0 a0_1 a1).bind fun t437 => (impl_readForm.l0 k y434 t437 (t437.length : Int) 0 a0_0 a0_1 l0_2 l0_3 l0_4)) = some r := rh_ hy434 H
 have Ny434 := Aside0.mk hy434
 clear hy434
 replace H := Option.bind_eq_some_iff.mp H
 obtain ⟨t437, A30, H⟩ := H
 replace H : (impl_readForm.l0 k y434 t437 (t437.length : Int) 0 a0_0 a0_1 l0_2 l0_3 l0_4) = some r := H
 have A3 := Aside0.mk A30
 clear A30
 have H' := Aside0.mk H
 clear H
 go_enter Try.func80, Try.ntmps80
 go_wp2_with (first | ((with_reducible refine gate_dst (N := 2) rfl ?_); refine box_event ?hg (N := 2) ?hd (cs := #[.int .i64 a0_0, .int .i64 a0_1, .slice A0_2 l0_2.length c0_2, .slice A0_3 l0_3.length c0_3, .slice A0_4 l0_4.length c0_4]) (t := 27) ?hr ?_; (case hd => rfl); (case hg => rfl); (case hr => first | (go_simp; done) | (go_simp; rfl)); intro gb433 hg w4 hbox hb; have BK433 := a_ (hbox); have GW433 := a_ ((z30_ : w.heap.size ≤ gb433)); have GE433 := a_ ((z30_ : w.heap.size ≤ gb433)); replace HB := a_ (below_step z31_ hb); clear hb hbox hg) | ((with_reducible refine gate_dst (N := 11) rfl ?_); refine Kd.R_lit (Kd.int .i64) _ 2 ?hg (N := 11) ?hd (xs := ([] : List Int)) (inner := []) (ok := fun _ => True) (okp := fun _ => True) ?hr ?hp (fun _ hk => hk) trivial (Below.refl _ _) (Nat.le_refl _) (by simp) ?_; (case hd => rfl); (case hg => rfl); (case hr => first | (go_simp; done) | (go_simp; rfl)); (case hp => exact (Reps.none _ _)); intro v435 w5 ho6 hb hg_ hnew_; clear hg_ hnew_; (first | rw [← Ny434.out] at ho6 | (simp only [Int.reduceToNat] at ho6; rw [← Ny434.out] at ho6)); have HO436 := a_ (Kd.R_lower ho6 (below_size z27_)); replace BK433 := a_ (blk_below (g := gb433) (rb_ BK433.out) hb); replace HB := a_ (below_step z27_ hb); clear hb ho6; obtain ⟨hcz7_0, hcz7_1, hcz7_2, hcz7_3, hcz7_4, hfz7_0, hfz7_1, hfz7_2, hfz7_3, hfz7_4⟩ := cz5_ (w := w5) BK433.out) | (go_at_call 90; (with_reducible refine (impl_foldSheet.calls k a0_0 a0_1 a1 t437 _ A3.out).mono ?_); rintro e w8 ⟨v438, rfl, ho0, hb⟩; replace HO436 := a_ (Kd.R_below (ra_ HO436.out) hb); have HO439 := a_ (Kd.R_lower ho0 (below_size z27_)); replace BK433 := a_ (blk_below (g := gb433) (rb_ BK433.out) hb); replace HB := a_ (below_step z27_ hb); (try clear hb); (try clear hb2); (try clear hk); (try clear hi); (try clear ho0); obtain ⟨Ao9, co9, eo9⟩ := Kd.R_slice HO439.out; subst eo9))
 repeat (go_quiet (first | ((with_reducible refine gate_dst (N := 2) rfl ?_); refine box_event ?hg (N := 2) ?hd (cs := #[.int .i64 a0_0, .int .i64 a0_1, .slice A0_2 l0_2.length c0_2, .slice A0_3 l0_3.length c0_3, .slice A0_4 l0_4.length c0_4]) (t := 27) ?hr ?_; (case hd => rfl); (case hg => rfl); (case hr => first | (go_simp; done) | (go_simp; rfl)); intro gb433 hg w4 hbox hb; have BK433 := a_ (hbox); have GW433 := a_ ((z30_ : w.heap.size ≤ gb433)); have GE433 := a_ ((z30_ : w.heap.size ≤ gb433)); replace HB := a_ (below_step z31_ hb); clear hb hbox hg) | ((with_reducible refine gate_dst (N := 11) rfl ?_); refine Kd.R_lit (Kd.int .i64) _ 2 ?hg (N := 11) ?hd (xs := ([] : List Int)) (inner := []) (ok := fun _ => True) (okp := fun _ => True) ?hr ?hp (fun _ hk => hk) trivial (Below.refl _ _) (Nat.le_refl _) (by simp) ?_; (case hd => rfl); (case hg => rfl); (case hr => first | (go_simp; done) | (go_simp; rfl)); (case hp => exact (Reps.none _ _)); intro v435 w5 ho6 hb hg_ hnew_; clear hg_ hnew_; (first | rw [← Ny434.out] at ho6 | (simp only [Int.reduceToNat] at ho6; rw [← Ny434.out] at ho6)); have HO436 := a_ (Kd.R_lower ho6 (below_size z27_)); replace BK433 := a_ (blk_below (g := gb433) (rb_ BK433.out) hb); replace HB := a_ (below_step z27_ hb); clear hb ho6; obtain ⟨hcz7_0, hcz7_1, hcz7_2, hcz7_3, hcz7_4, hfz7_0, hfz7_1, hfz7_2, hfz7_3, hfz7_4⟩ := cz5_ (w := w5) BK433.out) | (go_at_call 90; (with_reducible refine (impl_foldSheet.calls k a0_0 a0_1 a1 t437 _ A3.out).mono ?_); rintro e w8 ⟨v438, rfl, ho0, hb⟩; replace HO436 := a_ (Kd.R_below (ra_ HO436.out) hb); have HO439 := a_ (Kd.R_lower ho0 (below_size z27_)); replace BK433 := a_ (blk_below (g := gb433) (rb_ BK433.out) hb); replace HB := a_ (below_step z27_ hb); (try clear hb); (try clear hb2); (try clear hk); (try clear hi); (try clear ho0); obtain ⟨Ao9, co9, eo9⟩ := Kd.R_slice HO439.out; subst eo9)); try go_wp2_with (first | ((with_reducible refine gate_dst (N := 2) rfl ?_); refine box_event ?hg (N := 2) ?hd (cs := #[.int .i64 a0_0, .int .i64 a0_1, .slice A0_2 l0_2.length c0_2, .slice A0_3 l0_3.length c0_3, .slice A0_4 l0_4.length c0_4]) (t := 27) ?hr ?_; (case hd => rfl); (case hg => rfl); (case hr => first | (go_simp; done) | (go_simp; rfl)); intro gb433 hg w4 hbox hb; have BK433 := a_ (hbox); have GW433 := a_ ((z30_ : w.heap.size ≤ gb433)); have GE433 := a_ ((z30_ : w.heap.size ≤ gb433)); replace HB := a_ (below_step z31_ hb); clear hb hbox hg) | ((with_reducible refine gate_dst (N := 11) rfl ?_); refine Kd.R_lit (Kd.int .i64) _ 2 ?hg (N := 11) ?hd (xs := ([] : List Int)) (inner := []) (ok := fun _ => True) (okp := fun _ => True) ?hr ?hp (fun _ hk => hk) trivial (Below.refl _ _) (Nat.le_refl _) (by simp) ?_; (case hd => rfl); (case hg => rfl); (case hr => first | (go_simp; done) | (go_simp; rfl)); (case hp => exact (Reps.none _ _)); intro v435 w5 ho6 hb hg_ hnew_; clear hg_ hnew_; (first | rw [← Ny434.out] at ho6 | (simp only [Int.reduceToNat] at ho6; rw [← Ny434.out] at ho6)); have HO436 := a_ (Kd.R_lower ho6 (below_size z27_)); replace BK433 := a_ (blk_below (g := gb433) (rb_ BK433.out) hb); replace HB := a_ (below_step z27_ hb); clear hb ho6; obtain ⟨hcz7_0, hcz7_1, hcz7_2, hcz7_3, hcz7_4, hfz7_0, hfz7_1, hfz7_2, hfz7_3, hfz7_4⟩ := cz5_ (w := w5) BK433.out) | (go_at_call 90; (with_reducible refine (impl_foldSheet.calls k a0_0 a0_1 a1 t437 _ A3.out).mono ?_); rintro e w8 ⟨v438, rfl, ho0, hb⟩; replace HO436 := a_ (Kd.R_below (ra_ HO436.out) hb); have HO439 := a_ (Kd.R_lower ho0 (below_size z27_)); replace BK433 := a_ (blk_below (g := gb433) (rb_ BK433.out) hb); replace HB := a_ (below_step z27_ hb); (try clear hb); (try clear hb2); (try clear hk); (try clear hi); (try clear ho0); obtain ⟨Ao9, co9, eo9⟩ := Kd.R_slice HO439.out; subst eo9)))
 go_loopg [5, 19] k (fun kq v5 v19 w' => ∃ (x5_1 : List Int) (x19_1 : Int), v19 = .int .i64 x19_1 ∧ Aside0 (impl_readForm.l0 kq x5_1 t437 (t437.length : Int) x19_1 a0_0 a0_1 l0_2 l0_3 l0_4 = some r) ∧ Aside0 (kq ≤ k) ∧ Aside0 (Kd.R (Kd.int .i64) 2 w' w.heap.size (fun _ => True) v5 x5_1) ∧ Aside0 (Kd.R k102 102 w' w.heap.size (fun _ => True) (.slice Ao9 t437.length co9) t437) ∧ Aside0 (w'.heap[gb433]? = some (.cells #[.int .i64 a0_0, .int .i64 a0_1, (.slice A0_2 l0_2.length c0_2), (.slice A0_3 l0_3.length c0_3), (.slice A0_4 l0_4.length c0_4)] 27 (0, 0))) ∧ Aside0 (Below w.heap.size w w'))
 case atStart => exact ⟨(y434), (0), z81_, H', ⟨Nat.le_refl _⟩, ⟨by (with_reducible repeat (first | apply Kd.R_alloc | apply Kd.R_drewN | apply Kd.R_drew)); exact HO436.out⟩, ⟨by (with_reducible repeat (first | apply Kd.R_alloc | apply Kd.R_drewN | apply Kd.R_drew)); exact HO439.out⟩, ⟨z58_⟩, ⟨z27_⟩⟩
 case round =>
  clear H'
  try clear hcz7_0 hcz7_1 hcz7_2 hcz7_3 hcz7_4; try clear hfz7_0 hfz7_1 hfz7_2 hfz7_3 hfz7_4
  obtain ⟨x5_1, x19_1, rfl, HA, HK1, HO_5, HO_17, BK433, HB⟩ := hrel
  cases gk with
  | zero => exact absurd HA.out (by simp [impl_readForm.l0])
  | succ k1 =>
   have H := HA.out
   clear HA
   simp only [impl_readForm.l0] at H
   by_cases c10 : x19_1 < (t437.length : Int)
   ·rw [if_pos c10] at H
    have c10b0 : decide (x19_1 < (t437.length : Int)) = true := decide_eq_true c10
    clear c10
    by_cases c11 : 0 ≤ x19_1
    ·rw [if_pos c11] at H
     have c11b0 : decide (0 ≤ x19_1) = true := decide_eq_true c11
     clear c11
     by_cases c12 : x19_1 < (t437.length : Int)
     ·rw [if_pos c12] at H
      have c12b0 : decide (x19_1 < (t437.length : Int)) = true := decide_eq_true c12
      clear c12
      replace H := Option.bind_eq_some_iff.mp H
      obtain ⟨t442, A130, H⟩ := H
      replace H : (if 0 ≤ t442 then (if t442 < (l0_2.length : Int) then ((impl_backPlace.f a0_0 ((rd_T102 t437 x19_1).f0) ((rd_T102 t437 x19_1).f1)).bind fun t444 => (if 0 ≤ t444 then (if t444 < (l0_3.length : Int) then ((impl_downLeaf.f ((rd_T102 t437 x19_1).f0) ((rd_T102 t437 x19_1).f1) ((rd_T102 t437 x19_1).f2) ((rd_T102 t437 x19_1).f3)).bind fun t446 => (if t446 = true then (impl_readForm.j1 k1 x5_1 t442 (rd l0_3 t444) (rd l0_2 t442) t437 (t437.length : Int) x19_1 a0_0 a0_1 l0_2 l0_3 l0_4 ((rd_T102 t437 x19_1).f0) ((rd_T102 t437 x19_1).f1) ((rd_T102 t437 x19_1).f2) ((rd_T102 t437 x19_1).f3)) else (impl_readForm.j1 k1 x5_1 t442 (rd l0_2 t442) (rd l0_3 t444) t437 (t437.length : Int) x19_1 a0_0 a0_1 l0_2 l0_3 l0_4 ((rd_T102 t437 x19_1).f0) ((rd_T102 t437 x19_1).f1) ((rd_T102 t437 x19_1).f2) ((rd_T102 t437 x19_1).f3)))) else (none)) else (none))) else (none)) else (none)) = some r := H
      have A13 := Aside0.mk A130
      clear A130
      by_cases c14 : 0 ≤ t442
      ·rw [if_pos c14] at H
       have c14b0 : decide (0 ≤ t442) = true := decide_eq_true c14
       clear c14
       by_cases c15 : t442 < (l0_2.length : Int)
       ·rw [if_pos c15] at H
        have c15b0 : decide (t442 < (l0_2.length : Int)) = true := decide_eq_true c15
        clear c15
        replace H := Option.bind_eq_some_iff.mp H
        obtain ⟨t444, A160, H⟩ := H
        replace H : (if 0 ≤ t444 then (if t444 < (l0_3.length : Int) then ((impl_downLeaf.f ((rd_T102 t437 x19_1).f0) ((rd_T102 t437 x19_1).f1) ((rd_T102 t437 x19_1).f2) ((rd_T102 t437 x19_1).f3)).bind fun t446 => (if t446 = true then (impl_readForm.j1 k1 x5_1 t442 (rd l0_3 t444) (rd l0_2 t442) t437 (t437.length : Int) x19_1 a0_0 a0_1 l0_2 l0_3 l0_4 ((rd_T102 t437 x19_1).f0) ((rd_T102 t437 x19_1).f1) ((rd_T102 t437 x19_1).f2) ((rd_T102 t437 x19_1).f3)) else (impl_readForm.j1 k1 x5_1 t442 (rd l0_2 t442) (rd l0_3 t444) t437 (t437.length : Int) x19_1 a0_0 a0_1 l0_2 l0_3 l0_4 ((rd_T102 t437 x19_1).f0) ((rd_T102 t437 x19_1).f1) ((rd_T102 t437 x19_1).f2) ((rd_T102 t437 x19_1).f3)))) else (none)) else (none)) = some r := H
        have A16 := Aside0.mk A160
        clear A160
        by_cases c17 : 0 ≤ t444
        ·rw [if_pos c17] at H
         have c17b0 : decide (0 ≤ t444) = true := decide_eq_true c17
         clear c17
         by_cases c18 : t444 < (l0_3.length : Int)
         ·rw [if_pos c18] at H
          have c18b0 : decide (t444 < (l0_3.length : Int)) = true := decide_eq_true c18
          clear c18
          replace H := Option.bind_eq_some_iff.mp H
          obtain ⟨t446, A190, H⟩ := H
          replace H : (if t446 = true then (impl_readForm.j1 k1 x5_1 t442 (rd l0_3 t444) (rd l0_2 t442) t437 (t437.length : Int) x19_1 a0_0 a0_1 l0_2 l0_3 l0_4 ((rd_T102 t437 x19_1).f0) ((rd_T102 t437 x19_1).f1) ((rd_T102 t437 x19_1).f2) ((rd_T102 t437 x19_1).f3)) else (impl_readForm.j1 k1 x5_1 t442 (rd l0_2 t442) (rd l0_3 t444) t437 (t437.length : Int) x19_1 a0_0 a0_1 l0_2 l0_3 l0_4 ((rd_T102 t437 x19_1).f0) ((rd_T102 t437 x19_1).f1) ((rd_T102 t437 x19_1).f2) ((rd_T102 t437 x19_1).f3))) = some r := H
          have A19 := Aside0.mk A190
          clear A190
          have HC20 := Aside0.mk H
          clear H
          have p440 : 0 ≤ (x19_1 : Int) := of_decide_eq_true z80_
          have q440 : x19_1 < (t437.length : Int) := of_decide_eq_true z80_
          obtain ⟨ad440, e440, hx440_0, hx440_1, hx440_2, hx440_3⟩ := at_T102 (Kd.R_reads' HO_17.out).2.2 x19_1 p440 q440
          cases e440
          replace p440 := eq_true p440
          replace q440 := eq_true q440
          go_upto_if 47 with (first | ((with_reducible refine gate_dst (N := 7) rfl ?_); refine box_event ?hg (N := 7) ?hd (cs := #[.int .i64 0, .int .i64 0, .bool false, .bool false]) (t := 102) ?hr ?_; (case hd => rfl); (case hg => rfl); (case hr => first | (go_simp; done) | (go_simp; rfl)); intro gb441 hg w21 hbox hb; replace HO_5 := a_ (Kd.R_below (ra_ HO_5.out) hb); replace HO_17 := a_ (Kd.R_below (Kd.R_elderB (ra_ HO_17.out) gb441 (Nat.le_of_eq hg.symm)) hb); have BK441 := a_ (hbox); have GW441 := a_ ((z12_ : w.heap.size ≤ gb441)); have GE441 := a_ ((z12_ : w.heap.size ≤ gb441)); replace HB := a_ (below_step z27_ hb); have NB433_441 := a_ ((by rw [hg]; exact Nat.ne_of_lt (blk_lt (g := gb433) (rb_ BK433.out)) : gb433 ≠ gb441)); have NB441_433 := a_ ((by rw [hg]; exact Nat.ne_of_gt (blk_lt (g := gb433) (rb_ BK433.out)) : gb441 ≠ gb433)); replace BK433 := a_ (blk_below (g := gb433) (rb_ BK433.out) hb); clear hb hbox hg; have hnb22 := NB441_433.out; have hnc22 := NB433_441.out; obtain ⟨hcz23_0, hcz23_1, hcz23_2, hcz23_3, hfz23_0, hfz23_1, hfz23_2, hfz23_3⟩ := cz4_ (w := w21) BK441.out; obtain ⟨hcz24_0, hcz24_1, hcz24_2, hcz24_3, hcz24_4, hfz24_0, hfz24_1, hfz24_2, hfz24_3, hfz24_4⟩ := cz5_ (w := w21) BK433.out) | (go_at_call 91; (with_reducible refine (impl_frontPlace.calls a0_0 ((rd_T102 t437 x19_1).f0) ((rd_T102 t437 x19_1).f1) t442 _ A13.out).mono ?_); rintro e w' ⟨rfl, ⟨nd, rfl⟩⟩; (try first | exact ⟨rfl, _, World.drewN_drewN _ _ _⟩ | exact ⟨rfl, _, Eq.trans (World.drewN_drewN _ _ _) (congrArg (World.drewN _) (Nat.add_assoc _ _ _))⟩); have p443 : 0 ≤ (t442 : Int) := of_decide_eq_true z80_; have q443 : t442 < (l0_2.length : Int) := of_decide_eq_true z80_; obtain ⟨ad443, e443, hx443_0⟩ := Kd.at_int HR0_2.out t442 p443 q443; cases e443; have hn443_0 : ad443.block ≠ gb441 := Nat.ne_of_lt (Nat.lt_of_lt_of_le z73_ GW441.out); have hn443_1 : ad443.block ≠ gb441 := Nat.ne_of_lt (Nat.lt_of_lt_of_le z73_ GW441.out); have hn443_2 : ad443.block ≠ gb441 := Nat.ne_of_lt (Nat.lt_of_lt_of_le z73_ GW441.out); have hn443_3 : ad443.block ≠ gb441 := Nat.ne_of_lt (Nat.lt_of_lt_of_le z73_ GW441.out); replace hx443_0 := (HB.out.cell (World.block_lt_of_cell? _ _ hx443_0)).trans hx443_0; replace hx443_0 := (cell_far (p := ⟨gb441, 0, none⟩) z46_ (.int .i64 ((rd_T102 t437 x19_1).f0))).trans hx443_0; replace hx443_0 := (cell_far (p := ⟨gb441, 1, none⟩) z47_ (.int .i64 ((rd_T102 t437 x19_1).f1))).trans hx443_0; replace hx443_0 := (cell_far (p := ⟨gb441, 2, none⟩) z48_ (.bool ((rd_T102 t437 x19_1).f2))).trans hx443_0; replace hx443_0 := (cell_far (p := ⟨gb441, 3, none⟩) z49_ (.bool ((rd_T102 t437 x19_1).f3))).trans hx443_0; (try have hy443_0 := fun (n_ : Nat) => (show ((((((w21.drewN n_).setCell ⟨gb441, 0, none⟩ (.int .i64 ((rd_T102 t437 x19_1).f0))).setCell ⟨gb441, 1, none⟩ (.int .i64 ((rd_T102 t437 x19_1).f1))).setCell ⟨gb441, 2, none⟩ (.bool ((rd_T102 t437 x19_1).f2))).setCell ⟨gb441, 3, none⟩ (.bool ((rd_T102 t437 x19_1).f3)))).cell? _ = some _ from hx443_0)); clear hn443_0; clear hn443_1; clear hn443_2; clear hn443_3; replace p443 := eq_true p443; replace q443 := eq_true q443) | (go_at_call 49; (with_reducible refine (impl_backPlace.calls a0_0 ((rd_T102 t437 x19_1).f0) ((rd_T102 t437 x19_1).f1) t444 _ A16.out).mono ?_); rintro e w' ⟨rfl, ⟨nd, rfl⟩⟩; (try first | exact ⟨rfl, _, World.drewN_drewN _ _ _⟩ | exact ⟨rfl, _, Eq.trans (World.drewN_drewN _ _ _) (congrArg (World.drewN _) (Nat.add_assoc _ _ _))⟩); have p445 : 0 ≤ (t444 : Int) := of_decide_eq_true z80_; have q445 : t444 < (l0_3.length : Int) := of_decide_eq_true z80_; obtain ⟨ad445, e445, hx445_0⟩ := Kd.at_int HR0_3.out t444 p445 q445; cases e445; have hn445_0 : ad445.block ≠ gb441 := Nat.ne_of_lt (Nat.lt_of_lt_of_le z74_ GW441.out); have hn445_1 : ad445.block ≠ gb441 := Nat.ne_of_lt (Nat.lt_of_lt_of_le z74_ GW441.out); have hn445_2 : ad445.block ≠ gb441 := Nat.ne_of_lt (Nat.lt_of_lt_of_le z74_ GW441.out); have hn445_3 : ad445.block ≠ gb441 := Nat.ne_of_lt (Nat.lt_of_lt_of_le z74_ GW441.out); replace hx445_0 := (HB.out.cell (World.block_lt_of_cell? _ _ hx445_0)).trans hx445_0; replace hx445_0 := (cell_far (p := ⟨gb441, 0, none⟩) z50_ (.int .i64 ((rd_T102 t437 x19_1).f0))).trans hx445_0; replace hx445_0 := (cell_far (p := ⟨gb441, 1, none⟩) z51_ (.int .i64 ((rd_T102 t437 x19_1).f1))).trans hx445_0; replace hx445_0 := (cell_far (p := ⟨gb441, 2, none⟩) z52_ (.bool ((rd_T102 t437 x19_1).f2))).trans hx445_0; replace hx445_0 := (cell_far (p := ⟨gb441, 3, none⟩) z53_ (.bool ((rd_T102 t437 x19_1).f3))).trans hx445_0; (try have hy445_0 := fun (n_ : Nat) => (show ((((((w21.drewN n_).setCell ⟨gb441, 0, none⟩ (.int .i64 ((rd_T102 t437 x19_1).f0))).setCell ⟨gb441, 1, none⟩ (.int .i64 ((rd_T102 t437 x19_1).f1))).setCell ⟨gb441, 2, none⟩ (.bool ((rd_T102 t437 x19_1).f2))).setCell ⟨gb441, 3, none⟩ (.bool ((rd_T102 t437 x19_1).f3)))).cell? _ = some _ from hx445_0)); clear hn445_0; clear hn445_1; clear hn445_2; clear hn445_3; replace p445 := eq_true p445; replace q445 := eq_true q445) | (go_at_call 92; (with_reducible refine (impl_downLeaf.calls ((rd_T102 t437 x19_1).f0) ((rd_T102 t437 x19_1).f1) ((rd_T102 t437 x19_1).f2) ((rd_T102 t437 x19_1).f3) t446 _ A19.out).mono ?_); rintro e w25 ⟨rfl, hb⟩; replace HO_5 := a_ (Kd.R_below (rc_ (h := by exact Kd.R_mono (rt4_ HO_5.out BK441.out) (fun _ h_ => h_.1))) hb); replace HO_17 := a_ (Kd.R_below (rc_ (h := by exact Kd.R_mono (Kd.R_far (p := ⟨gb441, 3, none⟩) (Kd.R_far (p := ⟨gb441, 2, none⟩) (Kd.R_far (p := ⟨gb441, 1, none⟩) (Kd.R_far (p := ⟨gb441, 0, none⟩) (Kd.R_mono HO_17.out (fun k_ hk => (⟨hk, hk.2⟩ : _ ∧ k_ ≠ gb441))) (fun _ hk => hk.2) (.int .i64 ((rd_T102 t437 x19_1).f0))) (fun _ hk => hk.2) (.int .i64 ((rd_T102 t437 x19_1).f1))) (fun _ hk => hk.2) (.bool ((rd_T102 t437 x19_1).f2))) (fun _ hk => hk.2) (.bool ((rd_T102 t437 x19_1).f3))) (fun _ h_ => h_.1))) hb); replace BK433 := a_ (blk_below (g := gb433) (o := .cells #[.int .i64 a0_0, .int .i64 a0_1, .slice (some ad443) l0_2.length c0_2, .slice (some ad445) l0_3.length c0_3, .slice A0_4 l0_4.length c0_4] 27 (0, 0)) (rb2_ (h := by exact bf4_ NB433_441.out BK433.out)) hb); replace BK441 := a_ (blk_below (g := gb441) (o := .cells #[.int .i64 ((rd_T102 t437 x19_1).f0), .int .i64 ((rd_T102 t437 x19_1).f1), .bool ((rd_T102 t437 x19_1).f2), .bool ((rd_T102 t437 x19_1).f3)] 102 (0, 0)) (rb2_ (h := by exact bp4x4_ BK441.out)) hb); replace HB := a_ (below_step z8_ hb); (try clear hb); (try clear hb2); (try clear hk); (try clear hi)))
          repeat (go_quiet (first | ((with_reducible refine gate_dst (N := 7) rfl ?_); refine box_event ?hg (N := 7) ?hd (cs := #[.int .i64 0, .int .i64 0, .bool false, .bool false]) (t := 102) ?hr ?_; (case hd => rfl); (case hg => rfl); (case hr => first | (go_simp; done) | (go_simp; rfl)); intro gb441 hg w21 hbox hb; replace HO_5 := a_ (Kd.R_below (ra_ HO_5.out) hb); replace HO_17 := a_ (Kd.R_below (Kd.R_elderB (ra_ HO_17.out) gb441 (Nat.le_of_eq hg.symm)) hb); have BK441 := a_ (hbox); have GW441 := a_ ((z12_ : w.heap.size ≤ gb441)); have GE441 := a_ ((z12_ : w.heap.size ≤ gb441)); replace HB := a_ (below_step z27_ hb); have NB433_441 := a_ ((by rw [hg]; exact Nat.ne_of_lt (blk_lt (g := gb433) (rb_ BK433.out)) : gb433 ≠ gb441)); have NB441_433 := a_ ((by rw [hg]; exact Nat.ne_of_gt (blk_lt (g := gb433) (rb_ BK433.out)) : gb441 ≠ gb433)); replace BK433 := a_ (blk_below (g := gb433) (rb_ BK433.out) hb); clear hb hbox hg; have hnb22 := NB441_433.out; have hnc22 := NB433_441.out; obtain ⟨hcz23_0, hcz23_1, hcz23_2, hcz23_3, hfz23_0, hfz23_1, hfz23_2, hfz23_3⟩ := cz4_ (w := w21) BK441.out; obtain ⟨hcz24_0, hcz24_1, hcz24_2, hcz24_3, hcz24_4, hfz24_0, hfz24_1, hfz24_2, hfz24_3, hfz24_4⟩ := cz5_ (w := w21) BK433.out) | (go_at_call 91; (with_reducible refine (impl_frontPlace.calls a0_0 ((rd_T102 t437 x19_1).f0) ((rd_T102 t437 x19_1).f1) t442 _ A13.out).mono ?_); rintro e w' ⟨rfl, ⟨nd, rfl⟩⟩; (try first | exact ⟨rfl, _, World.drewN_drewN _ _ _⟩ | exact ⟨rfl, _, Eq.trans (World.drewN_drewN _ _ _) (congrArg (World.drewN _) (Nat.add_assoc _ _ _))⟩); have p443 : 0 ≤ (t442 : Int) := of_decide_eq_true z80_; have q443 : t442 < (l0_2.length : Int) := of_decide_eq_true z80_; obtain ⟨ad443, e443, hx443_0⟩ := Kd.at_int HR0_2.out t442 p443 q443; cases e443; have hn443_0 : ad443.block ≠ gb441 := Nat.ne_of_lt (Nat.lt_of_lt_of_le z73_ GW441.out); have hn443_1 : ad443.block ≠ gb441 := Nat.ne_of_lt (Nat.lt_of_lt_of_le z73_ GW441.out); have hn443_2 : ad443.block ≠ gb441 := Nat.ne_of_lt (Nat.lt_of_lt_of_le z73_ GW441.out); have hn443_3 : ad443.block ≠ gb441 := Nat.ne_of_lt (Nat.lt_of_lt_of_le z73_ GW441.out); replace hx443_0 := (HB.out.cell (World.block_lt_of_cell? _ _ hx443_0)).trans hx443_0; replace hx443_0 := (cell_far (p := ⟨gb441, 0, none⟩) z46_ (.int .i64 ((rd_T102 t437 x19_1).f0))).trans hx443_0; replace hx443_0 := (cell_far (p := ⟨gb441, 1, none⟩) z47_ (.int .i64 ((rd_T102 t437 x19_1).f1))).trans hx443_0; replace hx443_0 := (cell_far (p := ⟨gb441, 2, none⟩) z48_ (.bool ((rd_T102 t437 x19_1).f2))).trans hx443_0; replace hx443_0 := (cell_far (p := ⟨gb441, 3, none⟩) z49_ (.bool ((rd_T102 t437 x19_1).f3))).trans hx443_0; (try have hy443_0 := fun (n_ : Nat) => (show ((((((w21.drewN n_).setCell ⟨gb441, 0, none⟩ (.int .i64 ((rd_T102 t437 x19_1).f0))).setCell ⟨gb441, 1, none⟩ (.int .i64 ((rd_T102 t437 x19_1).f1))).setCell ⟨gb441, 2, none⟩ (.bool ((rd_T102 t437 x19_1).f2))).setCell ⟨gb441, 3, none⟩ (.bool ((rd_T102 t437 x19_1).f3)))).cell? _ = some _ from hx443_0)); clear hn443_0; clear hn443_1; clear hn443_2; clear hn443_3; replace p443 := eq_true p443; replace q443 := eq_true q443) | (go_at_call 49; (with_reducible refine (impl_backPlace.calls a0_0 ((rd_T102 t437 x19_1).f0) ((rd_T102 t437 x19_1).f1) t444 _ A16.out).mono ?_); rintro e w' ⟨rfl, ⟨nd, rfl⟩⟩; (try first | exact ⟨rfl, _, World.drewN_drewN _ _ _⟩ | exact ⟨rfl, _, Eq.trans (World.drewN_drewN _ _ _) (congrArg (World.drewN _) (Nat.add_assoc _ _ _))⟩); have p445 : 0 ≤ (t444 : Int) := of_decide_eq_true z80_; have q445 : t444 < (l0_3.length : Int) := of_decide_eq_true z80_; obtain ⟨ad445, e445, hx445_0⟩ := Kd.at_int HR0_3.out t444 p445 q445; cases e445; have hn445_0 : ad445.block ≠ gb441 := Nat.ne_of_lt (Nat.lt_of_lt_of_le z74_ GW441.out); have hn445_1 : ad445.block ≠ gb441 := Nat.ne_of_lt (Nat.lt_of_lt_of_le z74_ GW441.out); have hn445_2 : ad445.block ≠ gb441 := Nat.ne_of_lt (Nat.lt_of_lt_of_le z74_ GW441.out); have hn445_3 : ad445.block ≠ gb441 := Nat.ne_of_lt (Nat.lt_of_lt_of_le z74_ GW441.out); replace hx445_0 := (HB.out.cell (World.block_lt_of_cell? _ _ hx445_0)).trans hx445_0; replace hx445_0 := (cell_far (p := ⟨gb441, 0, none⟩) z50_ (.int .i64 ((rd_T102 t437 x19_1).f0))).trans hx445_0; replace hx445_0 := (cell_far (p := ⟨gb441, 1, none⟩) z51_ (.int .i64 ((rd_T102 t437 x19_1).f1))).trans hx445_0; replace hx445_0 := (cell_far (p := ⟨gb441, 2, none⟩) z52_ (.bool ((rd_T102 t437 x19_1).f2))).trans hx445_0; replace hx445_0 := (cell_far (p := ⟨gb441, 3, none⟩) z53_ (.bool ((rd_T102 t437 x19_1).f3))).trans hx445_0; (try have hy445_0 := fun (n_ : Nat) => (show ((((((w21.drewN n_).setCell ⟨gb441, 0, none⟩ (.int .i64 ((rd_T102 t437 x19_1).f0))).setCell ⟨gb441, 1, none⟩ (.int .i64 ((rd_T102 t437 x19_1).f1))).setCell ⟨gb441, 2, none⟩ (.bool ((rd_T102 t437 x19_1).f2))).setCell ⟨gb441, 3, none⟩ (.bool ((rd_T102 t437 x19_1).f3)))).cell? _ = some _ from hx445_0)); clear hn445_0; clear hn445_1; clear hn445_2; clear hn445_3; replace p445 := eq_true p445; replace q445 := eq_true q445) | (go_at_call 92; (with_reducible refine (impl_downLeaf.calls ((rd_T102 t437 x19_1).f0) ((rd_T102 t437 x19_1).f1) ((rd_T102 t437 x19_1).f2) ((rd_T102 t437 x19_1).f3) t446 _ A19.out).mono ?_); rintro e w25 ⟨rfl, hb⟩; replace HO_5 := a_ (Kd.R_below (rc_ (h := by exact Kd.R_mono (rt4_ HO_5.out BK441.out) (fun _ h_ => h_.1))) hb); replace HO_17 := a_ (Kd.R_below (rc_ (h := by exact Kd.R_mono (Kd.R_far (p := ⟨gb441, 3, none⟩) (Kd.R_far (p := ⟨gb441, 2, none⟩) (Kd.R_far (p := ⟨gb441, 1, none⟩) (Kd.R_far (p := ⟨gb441, 0, none⟩) (Kd.R_mono HO_17.out (fun k_ hk => (⟨hk, hk.2⟩ : _ ∧ k_ ≠ gb441))) (fun _ hk => hk.2) (.int .i64 ((rd_T102 t437 x19_1).f0))) (fun _ hk => hk.2) (.int .i64 ((rd_T102 t437 x19_1).f1))) (fun _ hk => hk.2) (.bool ((rd_T102 t437 x19_1).f2))) (fun _ hk => hk.2) (.bool ((rd_T102 t437 x19_1).f3))) (fun _ h_ => h_.1))) hb); replace BK433 := a_ (blk_below (g := gb433) (o := .cells #[.int .i64 a0_0, .int .i64 a0_1, .slice (some ad443) l0_2.length c0_2, .slice (some ad445) l0_3.length c0_3, .slice A0_4 l0_4.length c0_4] 27 (0, 0)) (rb2_ (h := by exact bf4_ NB433_441.out BK433.out)) hb); replace BK441 := a_ (blk_below (g := gb441) (o := .cells #[.int .i64 ((rd_T102 t437 x19_1).f0), .int .i64 ((rd_T102 t437 x19_1).f1), .bool ((rd_T102 t437 x19_1).f2), .bool ((rd_T102 t437 x19_1).f3)] 102 (0, 0)) (rb2_ (h := by exact bp4x4_ BK441.out)) hb); replace HB := a_ (below_step z8_ hb); (try clear hb); (try clear hb2); (try clear hk); (try clear hi))); go_upto_if 47 with (first | ((with_reducible refine gate_dst (N := 7) rfl ?_); refine box_event ?hg (N := 7) ?hd (cs := #[.int .i64 0, .int .i64 0, .bool false, .bool false]) (t := 102) ?hr ?_; (case hd => rfl); (case hg => rfl); (case hr => first | (go_simp; done) | (go_simp; rfl)); intro gb441 hg w21 hbox hb; replace HO_5 := a_ (Kd.R_below (ra_ HO_5.out) hb); replace HO_17 := a_ (Kd.R_below (Kd.R_elderB (ra_ HO_17.out) gb441 (Nat.le_of_eq hg.symm)) hb); have BK441 := a_ (hbox); have GW441 := a_ ((z12_ : w.heap.size ≤ gb441)); have GE441 := a_ ((z12_ : w.heap.size ≤ gb441)); replace HB := a_ (below_step z27_ hb); have NB433_441 := a_ ((by rw [hg]; exact Nat.ne_of_lt (blk_lt (g := gb433) (rb_ BK433.out)) : gb433 ≠ gb441)); have NB441_433 := a_ ((by rw [hg]; exact Nat.ne_of_gt (blk_lt (g := gb433) (rb_ BK433.out)) : gb441 ≠ gb433)); replace BK433 := a_ (blk_below (g := gb433) (rb_ BK433.out) hb); clear hb hbox hg; have hnb22 := NB441_433.out; have hnc22 := NB433_441.out; obtain ⟨hcz23_0, hcz23_1, hcz23_2, hcz23_3, hfz23_0, hfz23_1, hfz23_2, hfz23_3⟩ := cz4_ (w := w21) BK441.out; obtain ⟨hcz24_0, hcz24_1, hcz24_2, hcz24_3, hcz24_4, hfz24_0, hfz24_1, hfz24_2, hfz24_3, hfz24_4⟩ := cz5_ (w := w21) BK433.out) | (go_at_call 91; (with_reducible refine (impl_frontPlace.calls a0_0 ((rd_T102 t437 x19_1).f0) ((rd_T102 t437 x19_1).f1) t442 _ A13.out).mono ?_); rintro e w' ⟨rfl, ⟨nd, rfl⟩⟩; (try first | exact ⟨rfl, _, World.drewN_drewN _ _ _⟩ | exact ⟨rfl, _, Eq.trans (World.drewN_drewN _ _ _) (congrArg (World.drewN _) (Nat.add_assoc _ _ _))⟩); have p443 : 0 ≤ (t442 : Int) := of_decide_eq_true z80_; have q443 : t442 < (l0_2.length : Int) := of_decide_eq_true z80_; obtain ⟨ad443, e443, hx443_0⟩ := Kd.at_int HR0_2.out t442 p443 q443; cases e443; have hn443_0 : ad443.block ≠ gb441 := Nat.ne_of_lt (Nat.lt_of_lt_of_le z73_ GW441.out); have hn443_1 : ad443.block ≠ gb441 := Nat.ne_of_lt (Nat.lt_of_lt_of_le z73_ GW441.out); have hn443_2 : ad443.block ≠ gb441 := Nat.ne_of_lt (Nat.lt_of_lt_of_le z73_ GW441.out); have hn443_3 : ad443.block ≠ gb441 := Nat.ne_of_lt (Nat.lt_of_lt_of_le z73_ GW441.out); replace hx443_0 := (HB.out.cell (World.block_lt_of_cell? _ _ hx443_0)).trans hx443_0; replace hx443_0 := (cell_far (p := ⟨gb441, 0, none⟩) z46_ (.int .i64 ((rd_T102 t437 x19_1).f0))).trans hx443_0; replace hx443_0 := (cell_far (p := ⟨gb441, 1, none⟩) z47_ (.int .i64 ((rd_T102 t437 x19_1).f1))).trans hx443_0; replace hx443_0 := (cell_far (p := ⟨gb441, 2, none⟩) z48_ (.bool ((rd_T102 t437 x19_1).f2))).trans hx443_0; replace hx443_0 := (cell_far (p := ⟨gb441, 3, none⟩) z49_ (.bool ((rd_T102 t437 x19_1).f3))).trans hx443_0; (try have hy443_0 := fun (n_ : Nat) => (show ((((((w21.drewN n_).setCell ⟨gb441, 0, none⟩ (.int .i64 ((rd_T102 t437 x19_1).f0))).setCell ⟨gb441, 1, none⟩ (.int .i64 ((rd_T102 t437 x19_1).f1))).setCell ⟨gb441, 2, none⟩ (.bool ((rd_T102 t437 x19_1).f2))).setCell ⟨gb441, 3, none⟩ (.bool ((rd_T102 t437 x19_1).f3)))).cell? _ = some _ from hx443_0)); clear hn443_0; clear hn443_1; clear hn443_2; clear hn443_3; replace p443 := eq_true p443; replace q443 := eq_true q443) | (go_at_call 49; (with_reducible refine (impl_backPlace.calls a0_0 ((rd_T102 t437 x19_1).f0) ((rd_T102 t437 x19_1).f1) t444 _ A16.out).mono ?_); rintro e w' ⟨rfl, ⟨nd, rfl⟩⟩; (try first | exact ⟨rfl, _, World.drewN_drewN _ _ _⟩ | exact ⟨rfl, _, Eq.trans (World.drewN_drewN _ _ _) (congrArg (World.drewN _) (Nat.add_assoc _ _ _))⟩); have p445 : 0 ≤ (t444 : Int) := of_decide_eq_true z80_; have q445 : t444 < (l0_3.length : Int) := of_decide_eq_true z80_; obtain ⟨ad445, e445, hx445_0⟩ := Kd.at_int HR0_3.out t444 p445 q445; cases e445; have hn445_0 : ad445.block ≠ gb441 := Nat.ne_of_lt (Nat.lt_of_lt_of_le z74_ GW441.out); have hn445_1 : ad445.block ≠ gb441 := Nat.ne_of_lt (Nat.lt_of_lt_of_le z74_ GW441.out); have hn445_2 : ad445.block ≠ gb441 := Nat.ne_of_lt (Nat.lt_of_lt_of_le z74_ GW441.out); have hn445_3 : ad445.block ≠ gb441 := Nat.ne_of_lt (Nat.lt_of_lt_of_le z74_ GW441.out); replace hx445_0 := (HB.out.cell (World.block_lt_of_cell? _ _ hx445_0)).trans hx445_0; replace hx445_0 := (cell_far (p := ⟨gb441, 0, none⟩) z50_ (.int .i64 ((rd_T102 t437 x19_1).f0))).trans hx445_0; replace hx445_0 := (cell_far (p := ⟨gb441, 1, none⟩) z51_ (.int .i64 ((rd_T102 t437 x19_1).f1))).trans hx445_0; replace hx445_0 := (cell_far (p := ⟨gb441, 2, none⟩) z52_ (.bool ((rd_T102 t437 x19_1).f2))).trans hx445_0; replace hx445_0 := (cell_far (p := ⟨gb441, 3, none⟩) z53_ (.bool ((rd_T102 t437 x19_1).f3))).trans hx445_0; (try have hy445_0 := fun (n_ : Nat) => (show ((((((w21.drewN n_).setCell ⟨gb441, 0, none⟩ (.int .i64 ((rd_T102 t437 x19_1).f0))).setCell ⟨gb441, 1, none⟩ (.int .i64 ((rd_T102 t437 x19_1).f1))).setCell ⟨gb441, 2, none⟩ (.bool ((rd_T102 t437 x19_1).f2))).setCell ⟨gb441, 3, none⟩ (.bool ((rd_T102 t437 x19_1).f3)))).cell? _ = some _ from hx445_0)); clear hn445_0; clear hn445_1; clear hn445_2; clear hn445_3; replace p445 := eq_true p445; replace q445 := eq_true q445) | (go_at_call 92; (with_reducible refine (impl_downLeaf.calls ((rd_T102 t437 x19_1).f0) ((rd_T102 t437 x19_1).f1) ((rd_T102 t437 x19_1).f2) ((rd_T102 t437 x19_1).f3) t446 _ A19.out).mono ?_); rintro e w25 ⟨rfl, hb⟩; replace HO_5 := a_ (Kd.R_below (rc_ (h := by exact Kd.R_mono (rt4_ HO_5.out BK441.out) (fun _ h_ => h_.1))) hb); replace HO_17 := a_ (Kd.R_below (rc_ (h := by exact Kd.R_mono (Kd.R_far (p := ⟨gb441, 3, none⟩) (Kd.R_far (p := ⟨gb441, 2, none⟩) (Kd.R_far (p := ⟨gb441, 1, none⟩) (Kd.R_far (p := ⟨gb441, 0, none⟩) (Kd.R_mono HO_17.out (fun k_ hk => (⟨hk, hk.2⟩ : _ ∧ k_ ≠ gb441))) (fun _ hk => hk.2) (.int .i64 ((rd_T102 t437 x19_1).f0))) (fun _ hk => hk.2) (.int .i64 ((rd_T102 t437 x19_1).f1))) (fun _ hk => hk.2) (.bool ((rd_T102 t437 x19_1).f2))) (fun _ hk => hk.2) (.bool ((rd_T102 t437 x19_1).f3))) (fun _ h_ => h_.1))) hb); replace BK433 := a_ (blk_below (g := gb433) (o := .cells #[.int .i64 a0_0, .int .i64 a0_1, .slice (some ad443) l0_2.length c0_2, .slice (some ad445) l0_3.length c0_3, .slice A0_4 l0_4.length c0_4] 27 (0, 0)) (rb2_ (h := by exact bf4_ NB433_441.out BK433.out)) hb); replace BK441 := a_ (blk_below (g := gb441) (o := .cells #[.int .i64 ((rd_T102 t437 x19_1).f0), .int .i64 ((rd_T102 t437 x19_1).f1), .bool ((rd_T102 t437 x19_1).f2), .bool ((rd_T102 t437 x19_1).f3)] 102 (0, 0)) (rb2_ (h := by exact bp4x4_ BK441.out)) hb); replace HB := a_ (below_step z8_ hb); (try clear hb); (try clear hb2); (try clear hk); (try clear hi))))
          (try simp only [Act.put, List.setIfInBounds_toArray, List.set_cons_zero, List.set_cons_succ])
          go_cut [9, 10] (fun v9 v10 wc => ∃ (kq : Nat) (x9_19 : Int) (x10_19 : Int), v9 = .int .i64 x9_19 ∧ v10 = .int .i64 x10_19 ∧ Aside0 (impl_readForm.j1 kq x5_1 t442 x9_19 x10_19 t437 (t437.length : Int) x19_1 a0_0 a0_1 l0_2 l0_3 l0_4 ((rd_T102 t437 x19_1).f0) ((rd_T102 t437 x19_1).f1) ((rd_T102 t437 x19_1).f2) ((rd_T102 t437 x19_1).f3) = some r) ∧ Aside0 (kq ≤ k1) ∧ Aside0 (Kd.R (Kd.int .i64) 2 wc w.heap.size (fun _ => True) u5 x5_1) ∧ Aside0 (Kd.R k102 102 wc w.heap.size (fun k_ => k_ ≠ gb441) (.slice (some ad440) t437.length co9) t437) ∧ Aside0 (wc.heap[gb433]? = some (.cells #[.int .i64 a0_0, .int .i64 a0_1, (.slice (some ad443) l0_2.length c0_2), (.slice (some ad445) l0_3.length c0_3), (.slice A0_4 l0_4.length c0_4)] 27 (0, 0))) ∧ Aside0 (wc.heap[gb441]? = some (.cells #[.int .i64 ((rd_T102 t437 x19_1).f0), .int .i64 ((rd_T102 t437 x19_1).f1), .bool ((rd_T102 t437 x19_1).f2), .bool ((rd_T102 t437 x19_1).f3)] 102 (0, 0))) ∧ Aside0 (Below w.heap.size w wc))
          case first =>
           have H := HC20.out
           clear HC20
           by_cases c26 : t446 = true
           ·subst c26
            have H1 : (impl_readForm.j1 k1 x5_1 t442 (rd l0_3 t444) (rd l0_2 t442) t437 (t437.length : Int) x19_1 a0_0 a0_1 l0_2 l0_3 l0_4 ((rd_T102 t437 x19_1).f0) ((rd_T102 t437 x19_1).f1) ((rd_T102 t437 x19_1).f2) ((rd_T102 t437 x19_1).f3)) = some r := by rw [if_pos rfl] at H; exact H
            clear H
            have H := H1
            clear H1
            have H' := Aside0.mk H
            clear H
            go_wp2
            repeat (go_quiet (fail); try go_wp2)
            go_meet
            case rel => exact ⟨_, (rd l0_3 t444), (rd l0_2 t442), z81_, z81_, H', ⟨z79_⟩, ⟨z67_⟩, ⟨by (with_reducible repeat (first | apply Kd.R_alloc | apply Kd.R_drewN | apply Kd.R_drew)); exact Kd.R_mono HO_17.out (fun _ hk => hk.2)⟩, ⟨z58_⟩, ⟨by (with_reducible repeat (first | refine blk_drewN ?_ _ | refine blk_drew ?_ | refine blk_alloc ?_ _)); exact BK441.out⟩, ⟨z8_⟩⟩
           ·replace c26 := Bool.eq_false_iff.mpr c26
            subst c26
            have H1 : (impl_readForm.j1 k1 x5_1 t442 (rd l0_2 t442) (rd l0_3 t444) t437 (t437.length : Int) x19_1 a0_0 a0_1 l0_2 l0_3 l0_4 ((rd_T102 t437 x19_1).f0) ((rd_T102 t437 x19_1).f1) ((rd_T102 t437 x19_1).f2) ((rd_T102 t437 x19_1).f3)) = some r := by rw [if_neg (show ¬ (false = true) by decide)] at H; exact H
            clear H
            have H := H1
            clear H1
            have H' := Aside0.mk H
            clear H
            go_wp2
            repeat (go_quiet (fail); try go_wp2)
            go_meet
            case rel => exact ⟨_, (rd l0_2 t442), (rd l0_3 t444), z81_, z81_, H', ⟨z79_⟩, ⟨z67_⟩, ⟨by (with_reducible repeat (first | apply Kd.R_alloc | apply Kd.R_drewN | apply Kd.R_drew)); exact Kd.R_mono HO_17.out (fun _ hk => hk.2)⟩, ⟨z58_⟩, ⟨by (with_reducible repeat (first | refine blk_drewN ?_ _ | refine blk_drew ?_ | refine blk_alloc ?_ _)); exact BK441.out⟩, ⟨z8_⟩⟩
          case rest =>
           clear HC20; try clear c10b0; try clear c11b0; try clear c12b0; try clear c14b0; try clear c15b0; try clear c17b0; try clear c18b0; try clear hcz23_0 hcz23_1 hcz23_2 hcz23_3; try clear hcz24_0 hcz24_1 hcz24_2 hcz24_3 hcz24_4; try clear hfz23_0 hfz23_1 hfz23_2 hfz23_3; try clear hfz24_0 hfz24_1 hfz24_2 hfz24_3 hfz24_4; try clear hx440_0; try clear hx440_1; try clear hx440_2; try clear hx440_3; try clear hx443_0; try clear hx445_0; try clear p440; try clear p443; try clear p445; try clear q440; try clear q443; try clear q445
           obtain ⟨kq, x9_19, x10_19, rfl, rfl, HA, HJ19, HO_5, HO_17, BK433, BK441, HB⟩ := hcut
           cases kq with
           | zero => exact absurd HA.out (by simp [impl_readForm.j1])
           | succ kj19 =>
            have H := HA.out
            clear HA
            simp only [impl_readForm.j1] at H
            by_cases c27 : 0 ≤ t442
            ·rw [if_pos c27] at H
             have c27b0 : decide (0 ≤ t442) = true := decide_eq_true c27
             clear c27
             by_cases c28 : t442 < (l0_4.length : Int)
             ·rw [if_pos c28] at H
              have c28b0 : decide (t442 < (l0_4.length : Int)) = true := decide_eq_true c28
              clear c28
              replace H := Option.bind_eq_some_iff.mp H
              obtain ⟨t448, A290, H⟩ := H
              replace H : (if (rd l0_4 t442) = t448 then ((some (([x9_19, x10_19] : List Int) : List Int)).bind fun y449 => (if x5_1.length + y449.length < 17592186044416 then (impl_readForm.l0 kj19 (x5_1 ++ y449) t437 (t437.length : Int) (wrap64 (x19_1 + 1)) a0_0 a0_1 l0_2 l0_3 l0_4) else (none))) else ((some (([wrap64 (-x9_19), wrap64 (-x10_19)] : List Int) : List Int)).bind fun y455 => (if x5_1.length + y455.length < 17592186044416 then (impl_readForm.l0 kj19 (x5_1 ++ y455) t437 (t437.length : Int) (wrap64 (x19_1 + 1)) a0_0 a0_1 l0_2 l0_3 l0_4) else (none)))) = some r := H
              have A29 := Aside0.mk A290
              clear A290
              by_cases c30 : (rd l0_4 t442) = t448
              ·rw [if_pos c30] at H
               have c30b0 : ((rd l0_4 t442) == t448) = true := beq_iff_eq.mpr c30
               have c30b1 : ((rd l0_4 t442) != t448) = false := bne_eq_false_iff_eq.mpr c30
               clear c30
               obtain ⟨y449, hy449⟩ : ∃ y_ : List Int, y_ = (([x9_19, x10_19] : List Int)) := ⟨_, rfl⟩
               replace H : (if x5_1.length + y449.length < 17592186044416 then (impl_readForm.l0 kj19 (x5_1 ++ y449) t437 (t437.length : Int) (wrap64 (x19_1 + 1)) a0_0 a0_1 l0_2 l0_3 l0_4) else (none)) = some r := rh_ hy449 H
               have Ny449 := Aside0.mk hy449
               clear hy449
               by_cases c31 : x5_1.length + y449.length < 17592186044416
               ·rw [if_pos c31] at H
                have LMc31 := Aside0.mk c31
                clear c31
                obtain ⟨y452, hy452⟩ : ∃ y_ : List Int, y_ = (x5_1 ++ y449) := ⟨_, rfl⟩
                replace H : (impl_readForm.l0 kj19 y452 t437 (t437.length : Int) (wrap64 (x19_1 + 1)) a0_0 a0_1 l0_2 l0_3 l0_4) = some r := rh_ hy452 H
                have Ny452 := Aside0.mk hy452
                clear hy452
                have H' := Aside0.mk H
                clear H
                have hnb32 := NB433_441.out
                have hnc32 := NB441_433.out
                obtain ⟨hcz33_0, hcz33_1, hcz33_2, hcz33_3, hcz33_4, hfz33_0, hfz33_1, hfz33_2, hfz33_3, hfz33_4⟩ := cz5_ (w := wc) BK433.out
                have p447 : 0 ≤ (t442 : Int) := of_decide_eq_true z80_
                have q447 : t442 < (l0_4.length : Int) := of_decide_eq_true z80_
                obtain ⟨ad447, e447, hx447_0⟩ := Kd.at_int HR0_4.out t442 p447 q447
                cases e447
                replace hx447_0 := (HB.out.cell (World.block_lt_of_cell? _ _ hx447_0)).trans hx447_0
                replace p447 := eq_true p447
                replace q447 := eq_true q447
                obtain ⟨hcz34_0, hcz34_1, hcz34_2, hcz34_3, hfz34_0, hfz34_1, hfz34_2, hfz34_3⟩ := cz4_ (w := wc) BK441.out
                go_wp2_with (first | (go_at_call 93; (with_reducible refine (impl_toInt.calls ((rd_T102 t437 x19_1).f3) t448 _ A29.out).mono ?_); rintro e w' ⟨rfl, ⟨nd, rfl⟩⟩; (try first | exact ⟨rfl, _, World.drewN_drewN _ _ _⟩ | exact ⟨rfl, _, Eq.trans (World.drewN_drewN _ _ _) (congrArg (World.drewN _) (Nat.add_assoc _ _ _))⟩)) | ((with_reducible refine gate_dst (N := 66) rfl ?_); refine Kd.R_lit (Kd.int .i64) _ 2 ?hg (N := 66) ?hd (xs := ([x9_19, x10_19] : List Int)) (inner := [.int .i64 x9_19, .int .i64 x10_19]) (ok := fun _ => True) (okp := fun _ => True) ?hr ?hp (fun _ hk => hk) trivial (Below.refl _ _) (Nat.le_refl _) (by simp) ?_; (case hd => rfl); (case hg => rfl); (case hr => first | (go_simp; done) | (go_simp; rfl)); (case hp => exact (Reps.one (show Kd.M (Kd.int .i64) _ _ _ x9_19 [.int .i64 x9_19] from rfl) (Reps.one (show Kd.M (Kd.int .i64) _ _ _ x10_19 [.int .i64 x10_19] from rfl) (Reps.none _ _)))); intro v450 w35 ho36 hb hg_ hnew_; clear hg_ hnew_; (first | rw [← Ny449.out] at ho36 | (simp only [Int.reduceToNat] at ho36; rw [← Ny449.out] at ho36)); replace HO_17 := a_ (Kd.R_below (ra_ HO_17.out) hb); have HO451 := a_ (Kd.R_lower (Kd.R_new' ho36 (Kd.R_lt (ra_ HO_5.out))) (below_size z8_)); replace HO_5 := a_ (Kd.R_elder' (ra_ HO_5.out) (Kd.R_base ho36) hb); replace BK433 := a_ (blk_below (g := gb433) (rb_ BK433.out) hb); replace BK441 := a_ (blk_below (g := gb441) (rb_ BK441.out) hb); replace HB := a_ (below_step z8_ hb); clear hb ho36; obtain ⟨Ao38, co38, eo38⟩ := Kd.R_slice HO451.out; subst eo38) | ((with_reducible refine gate_builtin (b := .append) (xs := #[.tmp 63, .tmp 66]) rfl ?_); at_builtin; refine Kd.R_append_rows (Kd.int .i64) (w0 := w) w.heap.size rfl (.tmp 63) (.tmp 66) 22 2 (.int .i64 0) 8 rfl Try.underlying22 info2 rfl (by decide) (by omega) u5 x5_1 y449 _ _ _ (fun k_ => nb_ k_ Ao38 y449.length co38) (fun _ => False) rfl rfl ?aO ?aR (fun _ _ h => h) (fun _ h => h.elim) ?aF ?aB ?aS ?aL ?_; (case aR => repeat (first | exact (Kd.R_reads' HO451.out).2.2 | (with_reducible refine Kd.C_alloc ?_ _) | (with_reducible refine Kd.C_drewN ?_ _) | (with_reducible refine Kd.C_drew ?_))); (case aB => exact z8_); (case aF => exact (fun k_ hk => Kd.fresh' (Kd.R_lt (ra_ HO451.out)) k_ hk)); (case aO => exact (rc_ (h := by exact Kd.R_mono HO_5.out (fun _ hk => hk.2)))); (case aS => exact (below_size z8_)); (case aL => have := LMc31.out; omega); intro v453 w37 ho hb hg hat; rw [← Ny452.out] at ho; replace HO_17 := a_ (Kd.R_over' (ra_ HO_17.out) (Kd.R_typed (ra_ HO_5.out)) (by decide) hg); replace BK433 := a_ (blk_grown (g := gb433) (rb_ BK433.out) hg (Kd.R_ne HO_5.out BK433.out (by decide))); replace BK441 := a_ (blk_grown (g := gb441) (rb_ BK441.out) hg (Kd.R_ne HO_5.out BK441.out (by decide))); replace HO451 := a_ (Kd.R_after (ok := (fun _ => True)) (ra_ HO451.out) hg hat); replace HB := a_ (hb); have HO454 := a_ (ho); clear HO_5; clear ho hb hg hat))
                repeat (go_quiet (first | (go_at_call 93; (with_reducible refine (impl_toInt.calls ((rd_T102 t437 x19_1).f3) t448 _ A29.out).mono ?_); rintro e w' ⟨rfl, ⟨nd, rfl⟩⟩; (try first | exact ⟨rfl, _, World.drewN_drewN _ _ _⟩ | exact ⟨rfl, _, Eq.trans (World.drewN_drewN _ _ _) (congrArg (World.drewN _) (Nat.add_assoc _ _ _))⟩)) | ((with_reducible refine gate_dst (N := 66) rfl ?_); refine Kd.R_lit (Kd.int .i64) _ 2 ?hg (N := 66) ?hd (xs := ([x9_19, x10_19] : List Int)) (inner := [.int .i64 x9_19, .int .i64 x10_19]) (ok := fun _ => True) (okp := fun _ => True) ?hr ?hp (fun _ hk => hk) trivial (Below.refl _ _) (Nat.le_refl _) (by simp) ?_; (case hd => rfl); (case hg => rfl); (case hr => first | (go_simp; done) | (go_simp; rfl)); (case hp => exact (Reps.one (show Kd.M (Kd.int .i64) _ _ _ x9_19 [.int .i64 x9_19] from rfl) (Reps.one (show Kd.M (Kd.int .i64) _ _ _ x10_19 [.int .i64 x10_19] from rfl) (Reps.none _ _)))); intro v450 w35 ho36 hb hg_ hnew_; clear hg_ hnew_; (first | rw [← Ny449.out] at ho36 | (simp only [Int.reduceToNat] at ho36; rw [← Ny449.out] at ho36)); replace HO_17 := a_ (Kd.R_below (ra_ HO_17.out) hb); have HO451 := a_ (Kd.R_lower (Kd.R_new' ho36 (Kd.R_lt (ra_ HO_5.out))) (below_size z8_)); replace HO_5 := a_ (Kd.R_elder' (ra_ HO_5.out) (Kd.R_base ho36) hb); replace BK433 := a_ (blk_below (g := gb433) (rb_ BK433.out) hb); replace BK441 := a_ (blk_below (g := gb441) (rb_ BK441.out) hb); replace HB := a_ (below_step z8_ hb); clear hb ho36; obtain ⟨Ao38, co38, eo38⟩ := Kd.R_slice HO451.out; subst eo38) | ((with_reducible refine gate_builtin (b := .append) (xs := #[.tmp 63, .tmp 66]) rfl ?_); at_builtin; refine Kd.R_append_rows (Kd.int .i64) (w0 := w) w.heap.size rfl (.tmp 63) (.tmp 66) 22 2 (.int .i64 0) 8 rfl Try.underlying22 info2 rfl (by decide) (by omega) u5 x5_1 y449 _ _ _ (fun k_ => nb_ k_ Ao38 y449.length co38) (fun _ => False) rfl rfl ?aO ?aR (fun _ _ h => h) (fun _ h => h.elim) ?aF ?aB ?aS ?aL ?_; (case aR => repeat (first | exact (Kd.R_reads' HO451.out).2.2 | (with_reducible refine Kd.C_alloc ?_ _) | (with_reducible refine Kd.C_drewN ?_ _) | (with_reducible refine Kd.C_drew ?_))); (case aB => exact z8_); (case aF => exact (fun k_ hk => Kd.fresh' (Kd.R_lt (ra_ HO451.out)) k_ hk)); (case aO => exact (rc_ (h := by exact Kd.R_mono HO_5.out (fun _ hk => hk.2)))); (case aS => exact (below_size z8_)); (case aL => have := LMc31.out; omega); intro v453 w37 ho hb hg hat; rw [← Ny452.out] at ho; replace HO_17 := a_ (Kd.R_over' (ra_ HO_17.out) (Kd.R_typed (ra_ HO_5.out)) (by decide) hg); replace BK433 := a_ (blk_grown (g := gb433) (rb_ BK433.out) hg (Kd.R_ne HO_5.out BK433.out (by decide))); replace BK441 := a_ (blk_grown (g := gb441) (rb_ BK441.out) hg (Kd.R_ne HO_5.out BK441.out (by decide))); replace HO451 := a_ (Kd.R_after (ok := (fun _ => True)) (ra_ HO451.out) hg hat); replace HB := a_ (hb); have HO454 := a_ (ho); clear HO_5; clear ho hb hg hat)); try go_wp2_with (first | (go_at_call 93; (with_reducible refine (impl_toInt.calls ((rd_T102 t437 x19_1).f3) t448 _ A29.out).mono ?_); rintro e w' ⟨rfl, ⟨nd, rfl⟩⟩; (try first | exact ⟨rfl, _, World.drewN_drewN _ _ _⟩ | exact ⟨rfl, _, Eq.trans (World.drewN_drewN _ _ _) (congrArg (World.drewN _) (Nat.add_assoc _ _ _))⟩)) | ((with_reducible refine gate_dst (N := 66) rfl ?_); refine Kd.R_lit (Kd.int .i64) _ 2 ?hg (N := 66) ?hd (xs := ([x9_19, x10_19] : List Int)) (inner := [.int .i64 x9_19, .int .i64 x10_19]) (ok := fun _ => True) (okp := fun _ => True) ?hr ?hp (fun _ hk => hk) trivial (Below.refl _ _) (Nat.le_refl _) (by simp) ?_; (case hd => rfl); (case hg => rfl); (case hr => first | (go_simp; done) | (go_simp; rfl)); (case hp => exact (Reps.one (show Kd.M (Kd.int .i64) _ _ _ x9_19 [.int .i64 x9_19] from rfl) (Reps.one (show Kd.M (Kd.int .i64) _ _ _ x10_19 [.int .i64 x10_19] from rfl) (Reps.none _ _)))); intro v450 w35 ho36 hb hg_ hnew_; clear hg_ hnew_; (first | rw [← Ny449.out] at ho36 | (simp only [Int.reduceToNat] at ho36; rw [← Ny449.out] at ho36)); replace HO_17 := a_ (Kd.R_below (ra_ HO_17.out) hb); have HO451 := a_ (Kd.R_lower (Kd.R_new' ho36 (Kd.R_lt (ra_ HO_5.out))) (below_size z8_)); replace HO_5 := a_ (Kd.R_elder' (ra_ HO_5.out) (Kd.R_base ho36) hb); replace BK433 := a_ (blk_below (g := gb433) (rb_ BK433.out) hb); replace BK441 := a_ (blk_below (g := gb441) (rb_ BK441.out) hb); replace HB := a_ (below_step z8_ hb); clear hb ho36; obtain ⟨Ao38, co38, eo38⟩ := Kd.R_slice HO451.out; subst eo38) | ((with_reducible refine gate_builtin (b := .append) (xs := #[.tmp 63, .tmp 66]) rfl ?_); at_builtin; refine Kd.R_append_rows (Kd.int .i64) (w0 := w) w.heap.size rfl (.tmp 63) (.tmp 66) 22 2 (.int .i64 0) 8 rfl Try.underlying22 info2 rfl (by decide) (by omega) u5 x5_1 y449 _ _ _ (fun k_ => nb_ k_ Ao38 y449.length co38) (fun _ => False) rfl rfl ?aO ?aR (fun _ _ h => h) (fun _ h => h.elim) ?aF ?aB ?aS ?aL ?_; (case aR => repeat (first | exact (Kd.R_reads' HO451.out).2.2 | (with_reducible refine Kd.C_alloc ?_ _) | (with_reducible refine Kd.C_drewN ?_ _) | (with_reducible refine Kd.C_drew ?_))); (case aB => exact z8_); (case aF => exact (fun k_ hk => Kd.fresh' (Kd.R_lt (ra_ HO451.out)) k_ hk)); (case aO => exact (rc_ (h := by exact Kd.R_mono HO_5.out (fun _ hk => hk.2)))); (case aS => exact (below_size z8_)); (case aL => have := LMc31.out; omega); intro v453 w37 ho hb hg hat; rw [← Ny452.out] at ho; replace HO_17 := a_ (Kd.R_over' (ra_ HO_17.out) (Kd.R_typed (ra_ HO_5.out)) (by decide) hg); replace BK433 := a_ (blk_grown (g := gb433) (rb_ BK433.out) hg (Kd.R_ne HO_5.out BK433.out (by decide))); replace BK441 := a_ (blk_grown (g := gb441) (rb_ BK441.out) hg (Kd.R_ne HO_5.out BK441.out (by decide))); replace HO451 := a_ (Kd.R_after (ok := (fun _ => True)) (ra_ HO451.out) hg hat); replace HB := a_ (hb); have HO454 := a_ (ho); clear HO_5; clear ho hb hg hat)))
                go_roundg kj19
                case measure => have := HK1.out; have := HJ19.out; omega
                case rel => exact ⟨(y452), (wrap64 (x19_1 + 1)), z81_, H', ⟨by have := HK1.out; have := HJ19.out; omega⟩, ⟨by (with_reducible repeat (first | apply Kd.R_alloc | apply Kd.R_drewN | apply Kd.R_drew)); exact Kd.R_mono HO454.out (fun _ hk => trivial)⟩, ⟨by (with_reducible repeat (first | apply Kd.R_alloc | apply Kd.R_drewN | apply Kd.R_drew)); exact Kd.R_mono HO_17.out (fun _ hk => trivial)⟩, ⟨z58_⟩, ⟨z8_⟩⟩
               ·rw [if_neg c31] at H
                exact absurd H (by simp)
              ·rw [if_neg c30] at H
               have c30b0 : ((rd l0_4 t442) == t448) = false := beq_eq_false_iff_ne.mpr c30
               have c30b1 : ((rd l0_4 t442) != t448) = true := bne_iff_ne.mpr c30
               obtain ⟨y455, hy455⟩ : ∃ y_ : List Int, y_ = (([wrap64 (-x9_19), wrap64 (-x10_19)] : List Int)) := ⟨_, rfl⟩
               replace H : (if x5_1.length + y455.length < 17592186044416 then (impl_readForm.l0 kj19 (x5_1 ++ y455) t437 (t437.length : Int) (wrap64 (x19_1 + 1)) a0_0 a0_1 l0_2 l0_3 l0_4) else (none)) = some r := rh_ hy455 H
               have Ny455 := Aside0.mk hy455
               clear hy455
               by_cases c39 : x5_1.length + y455.length < 17592186044416
               ·rw [if_pos c39] at H
                have LMc39 := Aside0.mk c39
                clear c39
                obtain ⟨y458, hy458⟩ : ∃ y_ : List Int, y_ = (x5_1 ++ y455) := ⟨_, rfl⟩
                replace H : (impl_readForm.l0 kj19 y458 t437 (t437.length : Int) (wrap64 (x19_1 + 1)) a0_0 a0_1 l0_2 l0_3 l0_4) = some r := rh_ hy458 H
                have Ny458 := Aside0.mk hy458
                clear hy458
                have H' := Aside0.mk H
                clear H
                have hnb40 := NB433_441.out
                have hnc40 := NB441_433.out
                obtain ⟨hcz41_0, hcz41_1, hcz41_2, hcz41_3, hcz41_4, hfz41_0, hfz41_1, hfz41_2, hfz41_3, hfz41_4⟩ := cz5_ (w := wc) BK433.out
                have p447 : 0 ≤ (t442 : Int) := of_decide_eq_true z80_
                have q447 : t442 < (l0_4.length : Int) := of_decide_eq_true z80_
                obtain ⟨ad447, e447, hx447_0⟩ := Kd.at_int HR0_4.out t442 p447 q447
                cases e447
                replace hx447_0 := (HB.out.cell (World.block_lt_of_cell? _ _ hx447_0)).trans hx447_0
                replace p447 := eq_true p447
                replace q447 := eq_true q447
                obtain ⟨hcz42_0, hcz42_1, hcz42_2, hcz42_3, hfz42_0, hfz42_1, hfz42_2, hfz42_3⟩ := cz4_ (w := wc) BK441.out
                go_wp2_with (first | (go_at_call 93; (with_reducible refine (impl_toInt.calls ((rd_T102 t437 x19_1).f3) t448 _ A29.out).mono ?_); rintro e w' ⟨rfl, ⟨nd, rfl⟩⟩; (try first | exact ⟨rfl, _, World.drewN_drewN _ _ _⟩ | exact ⟨rfl, _, Eq.trans (World.drewN_drewN _ _ _) (congrArg (World.drewN _) (Nat.add_assoc _ _ _))⟩)) | ((with_reducible refine gate_dst (N := 66) rfl ?_); refine Kd.R_lit (Kd.int .i64) _ 2 ?hg (N := 66) ?hd (xs := ([wrap64 (-x9_19), wrap64 (-x10_19)] : List Int)) (inner := [.int .i64 (wrap64 (-x9_19)), .int .i64 (wrap64 (-x10_19))]) (ok := fun _ => True) (okp := fun _ => True) ?hr ?hp (fun _ hk => hk) trivial (Below.refl _ _) (Nat.le_refl _) (by simp) ?_; (case hd => rfl); (case hg => rfl); (case hr => first | (go_simp; done) | (go_simp; rfl)); (case hp => exact (Reps.one (show Kd.M (Kd.int .i64) _ _ _ (wrap64 (-x9_19)) [.int .i64 (wrap64 (-x9_19))] from rfl) (Reps.one (show Kd.M (Kd.int .i64) _ _ _ (wrap64 (-x10_19)) [.int .i64 (wrap64 (-x10_19))] from rfl) (Reps.none _ _)))); intro v456 w43 ho44 hb hg_ hnew_; clear hg_ hnew_; (first | rw [← Ny455.out] at ho44 | (simp only [Int.reduceToNat] at ho44; rw [← Ny455.out] at ho44)); replace HO_17 := a_ (Kd.R_below (ra_ HO_17.out) hb); have HO457 := a_ (Kd.R_lower (Kd.R_new' ho44 (Kd.R_lt (ra_ HO_5.out))) (below_size z8_)); replace HO_5 := a_ (Kd.R_elder' (ra_ HO_5.out) (Kd.R_base ho44) hb); replace BK433 := a_ (blk_below (g := gb433) (rb_ BK433.out) hb); replace BK441 := a_ (blk_below (g := gb441) (rb_ BK441.out) hb); replace HB := a_ (below_step z8_ hb); clear hb ho44; obtain ⟨Ao46, co46, eo46⟩ := Kd.R_slice HO457.out; subst eo46) | ((with_reducible refine gate_builtin (b := .append) (xs := #[.tmp 63, .tmp 66]) rfl ?_); at_builtin; refine Kd.R_append_rows (Kd.int .i64) (w0 := w) w.heap.size rfl (.tmp 63) (.tmp 66) 22 2 (.int .i64 0) 8 rfl Try.underlying22 info2 rfl (by decide) (by omega) u5 x5_1 y455 _ _ _ (fun k_ => nb_ k_ Ao46 y455.length co46) (fun _ => False) rfl rfl ?aO ?aR (fun _ _ h => h) (fun _ h => h.elim) ?aF ?aB ?aS ?aL ?_; (case aR => repeat (first | exact (Kd.R_reads' HO457.out).2.2 | (with_reducible refine Kd.C_alloc ?_ _) | (with_reducible refine Kd.C_drewN ?_ _) | (with_reducible refine Kd.C_drew ?_))); (case aB => exact z8_); (case aF => exact (fun k_ hk => Kd.fresh' (Kd.R_lt (ra_ HO457.out)) k_ hk)); (case aO => exact (rc_ (h := by exact Kd.R_mono HO_5.out (fun _ hk => hk.2)))); (case aS => exact (below_size z8_)); (case aL => have := LMc39.out; omega); intro v459 w45 ho hb hg hat; rw [← Ny458.out] at ho; replace HO_17 := a_ (Kd.R_over' (ra_ HO_17.out) (Kd.R_typed (ra_ HO_5.out)) (by decide) hg); replace BK433 := a_ (blk_grown (g := gb433) (rb_ BK433.out) hg (Kd.R_ne HO_5.out BK433.out (by decide))); replace BK441 := a_ (blk_grown (g := gb441) (rb_ BK441.out) hg (Kd.R_ne HO_5.out BK441.out (by decide))); replace HO457 := a_ (Kd.R_after (ok := (fun _ => True)) (ra_ HO457.out) hg hat); replace HB := a_ (hb); have HO460 := a_ (ho); clear HO_5; clear ho hb hg hat))
                repeat (go_quiet (first | (go_at_call 93; (with_reducible refine (impl_toInt.calls ((rd_T102 t437 x19_1).f3) t448 _ A29.out).mono ?_); rintro e w' ⟨rfl, ⟨nd, rfl⟩⟩; (try first | exact ⟨rfl, _, World.drewN_drewN _ _ _⟩ | exact ⟨rfl, _, Eq.trans (World.drewN_drewN _ _ _) (congrArg (World.drewN _) (Nat.add_assoc _ _ _))⟩)) | ((with_reducible refine gate_dst (N := 66) rfl ?_); refine Kd.R_lit (Kd.int .i64) _ 2 ?hg (N := 66) ?hd (xs := ([wrap64 (-x9_19), wrap64 (-x10_19)] : List Int)) (inner := [.int .i64 (wrap64 (-x9_19)), .int .i64 (wrap64 (-x10_19))]) (ok := fun _ => True) (okp := fun _ => True) ?hr ?hp (fun _ hk => hk) trivial (Below.refl _ _) (Nat.le_refl _) (by simp) ?_; (case hd => rfl); (case hg => rfl); (case hr => first | (go_simp; done) | (go_simp; rfl)); (case hp => exact (Reps.one (show Kd.M (Kd.int .i64) _ _ _ (wrap64 (-x9_19)) [.int .i64 (wrap64 (-x9_19))] from rfl) (Reps.one (show Kd.M (Kd.int .i64) _ _ _ (wrap64 (-x10_19)) [.int .i64 (wrap64 (-x10_19))] from rfl) (Reps.none _ _)))); intro v456 w43 ho44 hb hg_ hnew_; clear hg_ hnew_; (first | rw [← Ny455.out] at ho44 | (simp only [Int.reduceToNat] at ho44; rw [← Ny455.out] at ho44)); replace HO_17 := a_ (Kd.R_below (ra_ HO_17.out) hb); have HO457 := a_ (Kd.R_lower (Kd.R_new' ho44 (Kd.R_lt (ra_ HO_5.out))) (below_size z8_)); replace HO_5 := a_ (Kd.R_elder' (ra_ HO_5.out) (Kd.R_base ho44) hb); replace BK433 := a_ (blk_below (g := gb433) (rb_ BK433.out) hb); replace BK441 := a_ (blk_below (g := gb441) (rb_ BK441.out) hb); replace HB := a_ (below_step z8_ hb); clear hb ho44; obtain ⟨Ao46, co46, eo46⟩ := Kd.R_slice HO457.out; subst eo46) | ((with_reducible refine gate_builtin (b := .append) (xs := #[.tmp 63, .tmp 66]) rfl ?_); at_builtin; refine Kd.R_append_rows (Kd.int .i64) (w0 := w) w.heap.size rfl (.tmp 63) (.tmp 66) 22 2 (.int .i64 0) 8 rfl Try.underlying22 info2 rfl (by decide) (by omega) u5 x5_1 y455 _ _ _ (fun k_ => nb_ k_ Ao46 y455.length co46) (fun _ => False) rfl rfl ?aO ?aR (fun _ _ h => h) (fun _ h => h.elim) ?aF ?aB ?aS ?aL ?_; (case aR => repeat (first | exact (Kd.R_reads' HO457.out).2.2 | (with_reducible refine Kd.C_alloc ?_ _) | (with_reducible refine Kd.C_drewN ?_ _) | (with_reducible refine Kd.C_drew ?_))); (case aB => exact z8_); (case aF => exact (fun k_ hk => Kd.fresh' (Kd.R_lt (ra_ HO457.out)) k_ hk)); (case aO => exact (rc_ (h := by exact Kd.R_mono HO_5.out (fun _ hk => hk.2)))); (case aS => exact (below_size z8_)); (case aL => have := LMc39.out; omega); intro v459 w45 ho hb hg hat; rw [← Ny458.out] at ho; replace HO_17 := a_ (Kd.R_over' (ra_ HO_17.out) (Kd.R_typed (ra_ HO_5.out)) (by decide) hg); replace BK433 := a_ (blk_grown (g := gb433) (rb_ BK433.out) hg (Kd.R_ne HO_5.out BK433.out (by decide))); replace BK441 := a_ (blk_grown (g := gb441) (rb_ BK441.out) hg (Kd.R_ne HO_5.out BK441.out (by decide))); replace HO457 := a_ (Kd.R_after (ok := (fun _ => True)) (ra_ HO457.out) hg hat); replace HB := a_ (hb); have HO460 := a_ (ho); clear HO_5; clear ho hb hg hat)); try go_wp2_with (first | (go_at_call 93; (with_reducible refine (impl_toInt.calls ((rd_T102 t437 x19_1).f3) t448 _ A29.out).mono ?_); rintro e w' ⟨rfl, ⟨nd, rfl⟩⟩; (try first | exact ⟨rfl, _, World.drewN_drewN _ _ _⟩ | exact ⟨rfl, _, Eq.trans (World.drewN_drewN _ _ _) (congrArg (World.drewN _) (Nat.add_assoc _ _ _))⟩)) | ((with_reducible refine gate_dst (N := 66) rfl ?_); refine Kd.R_lit (Kd.int .i64) _ 2 ?hg (N := 66) ?hd (xs := ([wrap64 (-x9_19), wrap64 (-x10_19)] : List Int)) (inner := [.int .i64 (wrap64 (-x9_19)), .int .i64 (wrap64 (-x10_19))]) (ok := fun _ => True) (okp := fun _ => True) ?hr ?hp (fun _ hk => hk) trivial (Below.refl _ _) (Nat.le_refl _) (by simp) ?_; (case hd => rfl); (case hg => rfl); (case hr => first | (go_simp; done) | (go_simp; rfl)); (case hp => exact (Reps.one (show Kd.M (Kd.int .i64) _ _ _ (wrap64 (-x9_19)) [.int .i64 (wrap64 (-x9_19))] from rfl) (Reps.one (show Kd.M (Kd.int .i64) _ _ _ (wrap64 (-x10_19)) [.int .i64 (wrap64 (-x10_19))] from rfl) (Reps.none _ _)))); intro v456 w43 ho44 hb hg_ hnew_; clear hg_ hnew_; (first | rw [← Ny455.out] at ho44 | (simp only [Int.reduceToNat] at ho44; rw [← Ny455.out] at ho44)); replace HO_17 := a_ (Kd.R_below (ra_ HO_17.out) hb); have HO457 := a_ (Kd.R_lower (Kd.R_new' ho44 (Kd.R_lt (ra_ HO_5.out))) (below_size z8_)); replace HO_5 := a_ (Kd.R_elder' (ra_ HO_5.out) (Kd.R_base ho44) hb); replace BK433 := a_ (blk_below (g := gb433) (rb_ BK433.out) hb); replace BK441 := a_ (blk_below (g := gb441) (rb_ BK441.out) hb); replace HB := a_ (below_step z8_ hb); clear hb ho44; obtain ⟨Ao46, co46, eo46⟩ := Kd.R_slice HO457.out; subst eo46) | ((with_reducible refine gate_builtin (b := .append) (xs := #[.tmp 63, .tmp 66]) rfl ?_); at_builtin; refine Kd.R_append_rows (Kd.int .i64) (w0 := w) w.heap.size rfl (.tmp 63) (.tmp 66) 22 2 (.int .i64 0) 8 rfl Try.underlying22 info2 rfl (by decide) (by omega) u5 x5_1 y455 _ _ _ (fun k_ => nb_ k_ Ao46 y455.length co46) (fun _ => False) rfl rfl ?aO ?aR (fun _ _ h => h) (fun _ h => h.elim) ?aF ?aB ?aS ?aL ?_; (case aR => repeat (first | exact (Kd.R_reads' HO457.out).2.2 | (with_reducible refine Kd.C_alloc ?_ _) | (with_reducible refine Kd.C_drewN ?_ _) | (with_reducible refine Kd.C_drew ?_))); (case aB => exact z8_); (case aF => exact (fun k_ hk => Kd.fresh' (Kd.R_lt (ra_ HO457.out)) k_ hk)); (case aO => exact (rc_ (h := by exact Kd.R_mono HO_5.out (fun _ hk => hk.2)))); (case aS => exact (below_size z8_)); (case aL => have := LMc39.out; omega); intro v459 w45 ho hb hg hat; rw [← Ny458.out] at ho; replace HO_17 := a_ (Kd.R_over' (ra_ HO_17.out) (Kd.R_typed (ra_ HO_5.out)) (by decide) hg); replace BK433 := a_ (blk_grown (g := gb433) (rb_ BK433.out) hg (Kd.R_ne HO_5.out BK433.out (by decide))); replace BK441 := a_ (blk_grown (g := gb441) (rb_ BK441.out) hg (Kd.R_ne HO_5.out BK441.out (by decide))); replace HO457 := a_ (Kd.R_after (ok := (fun _ => True)) (ra_ HO457.out) hg hat); replace HB := a_ (hb); have HO460 := a_ (ho); clear HO_5; clear ho hb hg hat)))
                try (have hw3_ := Go.IntWalk.i64_left (-x9_19); have hw4_ := Go.IntWalk.i64_left (-x10_19); (go_quiet (first | (go_at_call 93; (with_reducible refine (impl_toInt.calls ((rd_T102 t437 x19_1).f3) t448 _ A29.out).mono ?_); rintro e w' ⟨rfl, ⟨nd, rfl⟩⟩; (try first | exact ⟨rfl, _, World.drewN_drewN _ _ _⟩ | exact ⟨rfl, _, Eq.trans (World.drewN_drewN _ _ _) (congrArg (World.drewN _) (Nat.add_assoc _ _ _))⟩)) | ((with_reducible refine gate_dst (N := 66) rfl ?_); refine Kd.R_lit (Kd.int .i64) _ 2 ?hg (N := 66) ?hd (xs := ([wrap64 (-x9_19), wrap64 (-x10_19)] : List Int)) (inner := [.int .i64 (wrap64 (-x9_19)), .int .i64 (wrap64 (-x10_19))]) (ok := fun _ => True) (okp := fun _ => True) ?hr ?hp (fun _ hk => hk) trivial (Below.refl _ _) (Nat.le_refl _) (by simp) ?_; (case hd => rfl); (case hg => rfl); (case hr => first | (go_simp; done) | (go_simp; rfl)); (case hp => exact (Reps.one (show Kd.M (Kd.int .i64) _ _ _ (wrap64 (-x9_19)) [.int .i64 (wrap64 (-x9_19))] from rfl) (Reps.one (show Kd.M (Kd.int .i64) _ _ _ (wrap64 (-x10_19)) [.int .i64 (wrap64 (-x10_19))] from rfl) (Reps.none _ _)))); intro v456 w43 ho44 hb hg_ hnew_; clear hg_ hnew_; (first | rw [← Ny455.out] at ho44 | (simp only [Int.reduceToNat] at ho44; rw [← Ny455.out] at ho44)); replace HO_17 := a_ (Kd.R_below (ra_ HO_17.out) hb); have HO457 := a_ (Kd.R_lower (Kd.R_new' ho44 (Kd.R_lt (ra_ HO_5.out))) (below_size z8_)); replace HO_5 := a_ (Kd.R_elder' (ra_ HO_5.out) (Kd.R_base ho44) hb); replace BK433 := a_ (blk_below (g := gb433) (rb_ BK433.out) hb); replace BK441 := a_ (blk_below (g := gb441) (rb_ BK441.out) hb); replace HB := a_ (below_step z8_ hb); clear hb ho44; obtain ⟨Ao46, co46, eo46⟩ := Kd.R_slice HO457.out; subst eo46) | ((with_reducible refine gate_builtin (b := .append) (xs := #[.tmp 63, .tmp 66]) rfl ?_); at_builtin; refine Kd.R_append_rows (Kd.int .i64) (w0 := w) w.heap.size rfl (.tmp 63) (.tmp 66) 22 2 (.int .i64 0) 8 rfl Try.underlying22 info2 rfl (by decide) (by omega) u5 x5_1 y455 _ _ _ (fun k_ => nb_ k_ Ao46 y455.length co46) (fun _ => False) rfl rfl ?aO ?aR (fun _ _ h => h) (fun _ h => h.elim) ?aF ?aB ?aS ?aL ?_; (case aR => repeat (first | exact (Kd.R_reads' HO457.out).2.2 | (with_reducible refine Kd.C_alloc ?_ _) | (with_reducible refine Kd.C_drewN ?_ _) | (with_reducible refine Kd.C_drew ?_))); (case aB => exact z8_); (case aF => exact (fun k_ hk => Kd.fresh' (Kd.R_lt (ra_ HO457.out)) k_ hk)); (case aO => exact (rc_ (h := by exact Kd.R_mono HO_5.out (fun _ hk => hk.2)))); (case aS => exact (below_size z8_)); (case aL => have := LMc39.out; omega); intro v459 w45 ho hb hg hat; rw [← Ny458.out] at ho; replace HO_17 := a_ (Kd.R_over' (ra_ HO_17.out) (Kd.R_typed (ra_ HO_5.out)) (by decide) hg); replace BK433 := a_ (blk_grown (g := gb433) (rb_ BK433.out) hg (Kd.R_ne HO_5.out BK433.out (by decide))); replace BK441 := a_ (blk_grown (g := gb441) (rb_ BK441.out) hg (Kd.R_ne HO_5.out BK441.out (by decide))); replace HO457 := a_ (Kd.R_after (ok := (fun _ => True)) (ra_ HO457.out) hg hat); replace HB := a_ (hb); have HO460 := a_ (ho); clear HO_5; clear ho hb hg hat))); (try go_wp2_with (first | (go_at_call 93; (with_reducible refine (impl_toInt.calls ((rd_T102 t437 x19_1).f3) t448 _ A29.out).mono ?_); rintro e w' ⟨rfl, ⟨nd, rfl⟩⟩; (try first | exact ⟨rfl, _, World.drewN_drewN _ _ _⟩ | exact ⟨rfl, _, Eq.trans (World.drewN_drewN _ _ _) (congrArg (World.drewN _) (Nat.add_assoc _ _ _))⟩)) | ((with_reducible refine gate_dst (N := 66) rfl ?_); refine Kd.R_lit (Kd.int .i64) _ 2 ?hg (N := 66) ?hd (xs := ([wrap64 (-x9_19), wrap64 (-x10_19)] : List Int)) (inner := [.int .i64 (wrap64 (-x9_19)), .int .i64 (wrap64 (-x10_19))]) (ok := fun _ => True) (okp := fun _ => True) ?hr ?hp (fun _ hk => hk) trivial (Below.refl _ _) (Nat.le_refl _) (by simp) ?_; (case hd => rfl); (case hg => rfl); (case hr => first | (go_simp; done) | (go_simp; rfl)); (case hp => exact (Reps.one (show Kd.M (Kd.int .i64) _ _ _ (wrap64 (-x9_19)) [.int .i64 (wrap64 (-x9_19))] from rfl) (Reps.one (show Kd.M (Kd.int .i64) _ _ _ (wrap64 (-x10_19)) [.int .i64 (wrap64 (-x10_19))] from rfl) (Reps.none _ _)))); intro v456 w43 ho44 hb hg_ hnew_; clear hg_ hnew_; (first | rw [← Ny455.out] at ho44 | (simp only [Int.reduceToNat] at ho44; rw [← Ny455.out] at ho44)); replace HO_17 := a_ (Kd.R_below (ra_ HO_17.out) hb); have HO457 := a_ (Kd.R_lower (Kd.R_new' ho44 (Kd.R_lt (ra_ HO_5.out))) (below_size z8_)); replace HO_5 := a_ (Kd.R_elder' (ra_ HO_5.out) (Kd.R_base ho44) hb); replace BK433 := a_ (blk_below (g := gb433) (rb_ BK433.out) hb); replace BK441 := a_ (blk_below (g := gb441) (rb_ BK441.out) hb); replace HB := a_ (below_step z8_ hb); clear hb ho44; obtain ⟨Ao46, co46, eo46⟩ := Kd.R_slice HO457.out; subst eo46) | ((with_reducible refine gate_builtin (b := .append) (xs := #[.tmp 63, .tmp 66]) rfl ?_); at_builtin; refine Kd.R_append_rows (Kd.int .i64) (w0 := w) w.heap.size rfl (.tmp 63) (.tmp 66) 22 2 (.int .i64 0) 8 rfl Try.underlying22 info2 rfl (by decide) (by omega) u5 x5_1 y455 _ _ _ (fun k_ => nb_ k_ Ao46 y455.length co46) (fun _ => False) rfl rfl ?aO ?aR (fun _ _ h => h) (fun _ h => h.elim) ?aF ?aB ?aS ?aL ?_; (case aR => repeat (first | exact (Kd.R_reads' HO457.out).2.2 | (with_reducible refine Kd.C_alloc ?_ _) | (with_reducible refine Kd.C_drewN ?_ _) | (with_reducible refine Kd.C_drew ?_))); (case aB => exact z8_); (case aF => exact (fun k_ hk => Kd.fresh' (Kd.R_lt (ra_ HO457.out)) k_ hk)); (case aO => exact (rc_ (h := by exact Kd.R_mono HO_5.out (fun _ hk => hk.2)))); (case aS => exact (below_size z8_)); (case aL => have := LMc39.out; omega); intro v459 w45 ho hb hg hat; rw [← Ny458.out] at ho; replace HO_17 := a_ (Kd.R_over' (ra_ HO_17.out) (Kd.R_typed (ra_ HO_5.out)) (by decide) hg); replace BK433 := a_ (blk_grown (g := gb433) (rb_ BK433.out) hg (Kd.R_ne HO_5.out BK433.out (by decide))); replace BK441 := a_ (blk_grown (g := gb441) (rb_ BK441.out) hg (Kd.R_ne HO_5.out BK441.out (by decide))); replace HO457 := a_ (Kd.R_after (ok := (fun _ => True)) (ra_ HO457.out) hg hat); replace HB := a_ (hb); have HO460 := a_ (ho); clear HO_5; clear ho hb hg hat))))
                go_roundg kj19
                case measure => have := HK1.out; have := HJ19.out; omega
                case rel => exact ⟨(y458), (wrap64 (x19_1 + 1)), z81_, H', ⟨by have := HK1.out; have := HJ19.out; omega⟩, ⟨by (with_reducible repeat (first | apply Kd.R_alloc | apply Kd.R_drewN | apply Kd.R_drew)); exact Kd.R_mono HO460.out (fun _ hk => trivial)⟩, ⟨by (with_reducible repeat (first | apply Kd.R_alloc | apply Kd.R_drewN | apply Kd.R_drew)); exact Kd.R_mono HO_17.out (fun _ hk => trivial)⟩, ⟨z58_⟩, ⟨z8_⟩⟩
               ·rw [if_neg c39] at H
                exact absurd H (by simp)
             ·rw [if_neg c28] at H
              exact absurd H (by simp)
            ·rw [if_neg c27] at H
             exact absurd H (by simp)
         ·rw [if_neg c18] at H
          exact absurd H (by simp)
        ·rw [if_neg c17] at H
         exact absurd H (by simp)
       ·rw [if_neg c15] at H
        exact absurd H (by simp)
      ·rw [if_neg c14] at H
       exact absurd H (by simp)
     ·rw [if_neg c12] at H
      exact absurd H (by simp)
    ·rw [if_neg c11] at H
     exact absurd H (by simp)
   ·rw [if_neg c10] at H
    have c10b0 : decide (x19_1 < (t437.length : Int)) = false := decide_eq_false c10
    clear c10
    obtain rfl := Option.some.inj H
    go_wp2
    repeat (go_quiet (fail); try go_wp2)
    go_ret
    exact ⟨_, z32_, z67_, z27_⟩

end Go.Proofs.Ytkpidjmhdagkfaa.QFnExactSchemesFor
-- halved
