-- Written by own_print.py of this session's repo over the kit's print (its output, turned at some places).
import Derived.Test.YtkpidjmhdagkfaaDoorQFnExactImposeSheetx0
import Derived.Test.YtkpidjmhdagkfaaDoorQFnExactImposeSheetx7
namespace Go.Proofs.YtkpidjmhdagkfaaDoor.QFnExactImposeSheet
open Go.RowKit Go.Proofs.YtkpidjmhdagkfaaDoorW.PrintWords Go.Proofs.YtkpidjmhdagkfaaDoorW.PrintLast Go.Proofs.YtkpidjmhdagkfaaDoorW.PrintMore
attribute [local go_sem] max2_int min2_int max_two min_two max_three min_three max_four min_four   -- for this text's walks alone
set_option linter.unusedVariables false
set_option linter.unusedSimpArgs false

/-! ### impl_foldSheet: function 12 -/
mutual
def impl_foldSheet.l0 : Nat → Int → ByteArray → List (List (List (S35))) → Int → Int → Option ((List (S35)))
 | 0, _, _, _, _, _ => none
 | k + 1, x0, x2, x7, x14, x15 => if x15 < x14 then (impl_foldSheet.l1 k x0 x2 x7 x15 (([] : List (List (S35)))) x14 x15 x0 0) else (impl_foldSheet.l2 k x2 x7 (x2.size : Int) 0)
def impl_foldSheet.l1 : Nat → Int → ByteArray → List (List (List (S35))) → Int → List (List (S35)) → Int → Int → Int → Int → Option ((List (S35)))
 | 0, _, _, _, _, _, _, _, _, _ => none
 | k + 1, x0, x2, x7, x8, x9, x14, x15, x19, x20 => if x20 < x19 then (if x9.length < 5864062014805 then (impl_foldSheet.l1 k x0 x2 x7 x8 (x9 ++ [(([(⟨x20, x8, false, false⟩ : S35)] : List (S35)))]) x14 x15 x19 (wrap64 (x20 + 1))) else (none)) else (if x7.length < 5864062014805 then (impl_foldSheet.l0 k x0 x2 (x7 ++ [x9]) x14 (wrap64 (x15 + 1))) else (none))
def impl_foldSheet.l2 : Nat → ByteArray → List (List (List (S35))) → Int → Int → Option ((List (S35)))
 | 0, _, _, _, _ => none
 | k + 1, x2, x7, x37, x38 => if x38 < x37 then (if 0 ≤ x38 then (if x38 < (x2.size : Int) then (if (bt x2 x38) = 84 then (if (bt x2 x38) = 76 then ((impl_halved.f k x7 true true).bind fun t275 => (impl_foldSheet.l2 k x2 t275 x37 (wrap64 (x38 + 1)))) else ((impl_halved.f k x7 true ((bt x2 x38) == 84)).bind fun t278 => (impl_foldSheet.l2 k x2 t278 x37 (wrap64 (x38 + 1))))) else (if (bt x2 x38) = 76 then ((impl_halved.f k x7 ((bt x2 x38) == 66) true).bind fun t281 => (impl_foldSheet.l2 k x2 t281 x37 (wrap64 (x38 + 1)))) else ((impl_halved.f k x7 ((bt x2 x38) == 66) ((bt x2 x38) == 84)).bind fun t284 => (impl_foldSheet.l2 k x2 t284 x37 (wrap64 (x38 + 1)))))) else (none)) else (none)) else (if 0 < (x7.length : Int) then (if 0 < ((rd_L4 x7 0).length : Int) then (some (rd_L3 (rd_L4 x7 0) 0)) else (none)) else (none))
end
def impl_foldSheet.f (k : Nat) (a0 : Int) (a1 : Int) (a2 : ByteArray) : Option ((List (S35))) := impl_foldSheet.l0 k a0 a2 (([] : List (List (List (S35))))) a1 0
theorem impl_foldSheet.mono_l : ∀ k, (∀ y0 y1 y2 y3 y4, LeO (impl_foldSheet.l0 k y0 y1 y2 y3 y4) (impl_foldSheet.l0 (k + 1) y0 y1 y2 y3 y4)) ∧ (∀ y0 y1 y2 y3 y4 y5 y6 y7 y8, LeO (impl_foldSheet.l1 k y0 y1 y2 y3 y4 y5 y6 y7 y8) (impl_foldSheet.l1 (k + 1) y0 y1 y2 y3 y4 y5 y6 y7 y8)) ∧ (∀ y0 y1 y2 y3, LeO (impl_foldSheet.l2 k y0 y1 y2 y3) (impl_foldSheet.l2 (k + 1) y0 y1 y2 y3))
 | 0 => ⟨fun _ _ _ _ _ r h => by simp [impl_foldSheet.l0] at h, fun _ _ _ _ _ _ _ _ _ r h => by simp [impl_foldSheet.l1] at h, fun _ _ _ _ r h => by simp [impl_foldSheet.l2] at h⟩
 | k + 1 => by
  obtain ⟨ih0, ih1, ih2⟩ := impl_foldSheet.mono_l k
  refine ⟨?_, ?_, ?_⟩
  ·intro y0 y1 y2 y3 y4
   unfold impl_foldSheet.l0
   repeat' first
   | (with_reducible exact ih0 _ _ _ _ _)
   | (with_reducible exact ih1 _ _ _ _ _ _ _ _ _)
   | (with_reducible exact ih2 _ _ _ _)
   | (with_reducible exact impl_halved.mono _ _ _ _)
   | (with_reducible exact LeO.refl _)
   | (with_reducible exact LeO.none _)
   | (with_reducible refine LeO.ite ?_ ?_)
   | (with_reducible refine LeO.bind ?_ (fun _ => ?_))
   | exact ih0 _ _ _ _ _
   | exact ih1 _ _ _ _ _ _ _ _ _
   | exact ih2 _ _ _ _
   | exact impl_halved.mono _ _ _ _
   | exact LeO.none _
   | refine LeO.ite ?_ ?_
   | refine LeO.bind ?_ (fun _ => ?_)
  ·intro y0 y1 y2 y3 y4 y5 y6 y7 y8
   unfold impl_foldSheet.l1
   repeat' first
   | (with_reducible exact ih0 _ _ _ _ _)
   | (with_reducible exact ih1 _ _ _ _ _ _ _ _ _)
   | (with_reducible exact ih2 _ _ _ _)
   | (with_reducible exact impl_halved.mono _ _ _ _)
   | (with_reducible exact LeO.refl _)
   | (with_reducible exact LeO.none _)
   | (with_reducible refine LeO.ite ?_ ?_)
   | (with_reducible refine LeO.bind ?_ (fun _ => ?_))
   | exact ih0 _ _ _ _ _
   | exact ih1 _ _ _ _ _ _ _ _ _
   | exact ih2 _ _ _ _
   | exact impl_halved.mono _ _ _ _
   | exact LeO.none _
   | refine LeO.ite ?_ ?_
   | refine LeO.bind ?_ (fun _ => ?_)
  ·intro y0 y1 y2 y3
   unfold impl_foldSheet.l2
   repeat' first
   | (with_reducible exact ih0 _ _ _ _ _)
   | (with_reducible exact ih1 _ _ _ _ _ _ _ _ _)
   | (with_reducible exact ih2 _ _ _ _)
   | (with_reducible exact impl_halved.mono _ _ _ _)
   | (with_reducible exact LeO.refl _)
   | (with_reducible exact LeO.none _)
   | (with_reducible refine LeO.ite ?_ ?_)
   | (with_reducible refine LeO.bind ?_ (fun _ => ?_))
   | exact ih0 _ _ _ _ _
   | exact ih1 _ _ _ _ _ _ _ _ _
   | exact ih2 _ _ _ _
   | exact impl_halved.mono _ _ _ _
   | exact LeO.none _
   | refine LeO.ite ?_ ?_
   | refine LeO.bind ?_ (fun _ => ?_)
theorem impl_foldSheet.mono : ∀ a0 a1 a2 k, LeO (impl_foldSheet.f k a0 a1 a2) (impl_foldSheet.f (k + 1) a0 a1 a2) := by
 intro a0 a1 a2 k
 obtain ⟨ih0, ih1, ih2⟩ := impl_foldSheet.mono_l k
 unfold impl_foldSheet.f
 repeat' first
   | (with_reducible exact ih0 _ _ _ _ _)
   | (with_reducible exact ih1 _ _ _ _ _ _ _ _ _)
   | (with_reducible exact ih2 _ _ _ _)
   | (with_reducible exact impl_halved.mono _ _ _ _)
   | (with_reducible exact LeO.refl _)
   | (with_reducible exact LeO.none _)
   | (with_reducible refine LeO.ite ?_ ?_)
   | (with_reducible refine LeO.bind ?_ (fun _ => ?_))
   | exact ih0 _ _ _ _ _
   | exact ih1 _ _ _ _ _ _ _ _ _
   | exact ih2 _ _ _ _
   | exact impl_halved.mono _ _ _ _
   | exact LeO.none _
   | refine LeO.ite ?_ ?_
   | refine LeO.bind ?_ (fun _ => ?_)
set_option maxHeartbeats 8000000 in
set_option maxRecDepth 100000 in
theorem impl_foldSheet.calls (k : Nat) (a0 : Int) (a1 : Int) (a2 : ByteArray) (r : List (S35)) (w : World) (h : impl_foldSheet.f k a0 a1 a2 = some r) :
  Calls Tryd.prog 12 #[.int .i64 a0, .int .i64 a1, .string a2] w fun e w' => ∃ v0_ : Value, e = .returned (v0_) ∧ Kd.R k35 35 w' w.heap.size (fun _ => True) v0_ r ∧ Below w.heap.size w w' := by
 have hu35 := Tryd.underlying35
 have HB := a_ (Below.refl w.heap.size w)
 have H : (impl_foldSheet.l0 k a0 a2 (([] : List (List (List (S35))))) a1 0) = some r := h
 clear h
 obtain ⟨y260, hy260⟩ : ∃ y_ : List (List (List (S35))), y_ = (([] : List (List (List (S35))))) := ⟨_, rfl⟩
 replace H : (impl_foldSheet.l0 k a0 a2 y260 a1 0) = some r := rh_ hy260 H
 have Ny260 := a_ hy260
 clear hy260
 have H' := a_ H
 clear H
 go_enter Tryd.func12, Tryd.ntmps12
 go_wp2_with (first | ((with_reducible refine gate_dst (N := 13) rfl ?_); refine Kd.R_lit (Kd.slice 32 (Kd.slice 35 k35)) _ 43 ?hg (N := 13) ?hd (xs := ([] : List (List (List (S35))))) (inner := []) (ok := fun _ => True) (okp := fun _ => True) ?hr ?hp (fun _ hk => hk) trivial (Below.refl _ _) (Nat.le_refl _) (by simp) ?_; (case hd => rfl); (case hg => rfl); (case hr => first | (go_simp; done) | (go_simp; rfl)); (case hp => exact (Reps.none _ _)); intro v261 w4 ho5 hb hg_ hnew_; clear hg_ hnew_; (first | rw [← Ny260.out] at ho5 | (simp only [Int.reduceToNat] at ho5; rw [← Ny260.out] at ho5)); have HO262 := a_ (Kd.R_lower ho5 (below_size z23_)); replace HB := bst_ z23_ hb; clear hb ho5))
 go_loopg [7, 15] k (fun kq v7 v15 w' => ∃ (x7_1 : List (List (List (S35)))) (x15_1 : Int), v15 = .int .i64 x15_1 ∧ Aside0 (impl_foldSheet.l0 kq a0 a2 x7_1 a1 x15_1 = some r) ∧ Aside0 (kq ≤ k) ∧ Aside0 (Kd.R (Kd.slice 32 (Kd.slice 35 k35)) 43 w' w.heap.size (fun _ => True) v7 x7_1) ∧ Aside0 (Below w.heap.size w w'))
 case atStart => exact ⟨(y260), (0), z48_, H', ⟨Nat.le_refl _⟩, ⟨by (with_reducible repeat (first | apply Kd.R_alloc | apply Kd.R_drewN | apply Kd.R_drew)); exact HO262.out⟩, ⟨z23_⟩⟩
 case round =>
  clear H'
  obtain ⟨x7_1, x15_1, rfl, HA, HK1, HO_7, HB⟩ := hrel
  cases gk with
  | zero => exact absurd HA.out (by simp [impl_foldSheet.l0])
  | succ k1 =>
   have H := HA.out
   clear HA
   simp only [impl_foldSheet.l0] at H
   by_cases c6 : x15_1 < a1
   ·rw [if_pos c6] at H
    have c6b0 : decide (x15_1 < a1) = true := decide_eq_true c6
    clear c6
    obtain ⟨y263, hy263⟩ : ∃ y_ : List (List (S35)), y_ = (([] : List (List (S35)))) := ⟨_, rfl⟩
    replace H : (impl_foldSheet.l1 k1 a0 a2 x7_1 x15_1 y263 a1 x15_1 a0 0) = some r := rh_ hy263 H
    have Ny263 := a_ hy263
    clear hy263
    have H' := a_ H
    clear H
    go_wp2_with (first | ((with_reducible refine gate_dst (N := 18) rfl ?_); refine Kd.S_lit (Kd.slice 35 k35) _ 32 ?hg (N := 18) ?hd (xs := ([] : List (List (S35)))) (inner := []) (ok := fun _ => True) (okp := fun _ => True) ?hr ?hp (fun _ hk => hk) trivial (Below.refl _ _) (Nat.le_refl _) (by simp) ?_; (case hd => rfl); (case hg => rfl); (case hr => first | (go_simp; done) | (go_simp; rfl)); (case hp => exact (Reps.none _ _)); intro v264 w7 ho8 hb hg_ hnew_; clear hg_ hnew_; (first | rw [← Ny263.out] at ho8 | (simp only [Int.reduceToNat] at ho8; rw [← Ny263.out] at ho8)); replace HO_7 := a_ (Kd.R_elder' (ra_ HO_7.out) (Kd.S_base ho8) hb); have HO265 := a_ (Kd.S_lower ho8 (below_size z23_)); replace HB := bst_ z23_ hb; clear hb ho8))
    go_loopg [9, 20] k1 (fun kq v9 v20 w' => ∃ (x9_2 : List (List (S35))) (x20_2 : Int), v20 = .int .i64 x20_2 ∧ Aside0 (impl_foldSheet.l1 kq a0 a2 x7_1 x15_1 x9_2 a1 x15_1 a0 x20_2 = some r) ∧ Aside0 (kq ≤ k1) ∧ Aside0 (Kd.R (Kd.slice 32 (Kd.slice 35 k35)) 43 w' w.heap.size (fun k_ => some k_ ≠ (v9 : Value).ownBlock) u7 x7_1) ∧ Aside0 (Kd.S (Kd.slice 35 k35) 32 w' w.heap.size (fun _ => True) v9 x9_2) ∧ Aside0 (Below w.heap.size w w'))
    case atStart => exact ⟨(y263), (0), z48_, H', ⟨Nat.le_refl _⟩, ⟨by (with_reducible repeat (first | apply Kd.R_alloc | apply Kd.R_drewN | apply Kd.R_drew)); exact Kd.R_mono HO_7.out (fun _ hk => hk.2)⟩, ⟨by (with_reducible repeat (first | apply Kd.S_alloc | apply Kd.S_drewN | apply Kd.S_drew)); exact HO265.out⟩, ⟨z23_⟩⟩
    case round =>
     clear H'
     try clear c6b0
     obtain ⟨x9_2, x20_2, rfl, HA, HK2, HO_7, HO_9, HB⟩ := hrel
     cases gk with
     | zero => exact absurd HA.out (by simp [impl_foldSheet.l1])
     | succ k2 =>
      have H := HA.out
      clear HA
      simp only [impl_foldSheet.l1] at H
      by_cases c9 : x20_2 < a0
      ·rw [if_pos c9] at H
       have c9b0 : decide (x20_2 < a0) = true := decide_eq_true c9
       clear c9
       obtain ⟨y266, hy266⟩ : ∃ y_ : List (S35), y_ = (([(⟨x20_2, x15_1, false, false⟩ : S35)] : List (S35))) := ⟨_, rfl⟩
       replace H : (if x9_2.length < 5864062014805 then (impl_foldSheet.l1 k2 a0 a2 x7_1 x15_1 (x9_2 ++ [y266]) a1 x15_1 a0 (wrap64 (x20_2 + 1))) else (none)) = some r := rh_ hy266 H
       have Ny266 := a_ hy266
       clear hy266
       by_cases c10 : x9_2.length < 5864062014805
       ·rw [if_pos c10] at H
        have LMc10 := a_ c10
        clear c10
        obtain ⟨y269, hy269⟩ : ∃ y_ : List (List (S35)), y_ = (x9_2 ++ [y266]) := ⟨_, rfl⟩
        replace H : (impl_foldSheet.l1 k2 a0 a2 x7_1 x15_1 y269 a1 x15_1 a0 (wrap64 (x20_2 + 1))) = some r := rh_ hy269 H
        have Ny269 := a_ hy269
        clear hy269
        have H' := a_ H
        clear H
        go_wp2_with (first | ((with_reducible refine gate_dst (N := 27) rfl ?_); refine Kd.R_lit k35 _ 35 ?hg (N := 27) ?hd (xs := ([(⟨x20_2, x15_1, false, false⟩ : S35)] : List (S35))) (inner := [.int .i64 x20_2, .int .i64 x15_1, .bool false, .bool false]) (ok := fun _ => True) (okp := fun _ => True) ?hr ?hp (fun _ hk => hk) trivial (Below.refl _ _) (Nat.le_refl _) (by simp) ?_; (case hd => rfl); (case hg => rfl); (case hr => first | (go_simp; done) | (go_simp; rfl)); (case hp => exact (Reps.c4 (show Kd.M k35 _ _ _ (⟨x20_2, x15_1, false, false⟩ : S35) [.int .i64 x20_2, .int .i64 x15_1, .bool false, .bool false] from (k35_mkM _ _ _ (⟨x20_2, x15_1, false, false⟩ : S35) )) (Reps.none _ _))); intro v267 w11 ho12 hb hg_ hnew_; clear hg_ hnew_; (first | rw [← Ny266.out] at ho12 | (simp only [Int.reduceToNat] at ho12; rw [← Ny266.out] at ho12)); replace HO_7 := a_ (Kd.R_elder' (ra_ HO_7.out) (Kd.R_base ho12) hb); replace HO_9 := a_ (Kd.S_elder' (by (with_reducible repeat (first | apply Kd.S_alloc | apply Kd.S_drewN | apply Kd.S_drew)); exact HO_9.out) (Kd.R_base ho12) hb); have HO268 := a_ (Kd.R_lower ho12 (below_size z23_)); replace HB := bst_ z23_ hb; clear hb ho12; obtain ⟨Ao14, co14, eo14⟩ := Kd.R_slice HO268.out; subst eo14) | ((with_reducible refine gate_builtin (b := .append) (xs := #[.tmp 23, .tmp 28]) rfl ?_); at_builtin; refine Kd.S_append (Kd.slice 35 k35) (w0 := w) w.heap.size rfl (.tmp 23) (.tmp 28) 43 32 (.slice none 0 0) 24 rfl Tryd.underlying43 info32 rfl (by decide) (by omega) u9 x9_2 y266 [.slice Ao14 y266.length co14] (fun _ => True) (fun k_ => some k_ = (.slice Ao14 y266.length co14 : Value).ownBlock) rfl rfl ?aP (fun k_ hk_ => ((Kd.R_mono (ok' := fun k_ => ((fun _ => True)) k_ ∧ some k_ ≠ (u9 : Value).ownBlock) (Kd.R_apart' (HO268.out) (Kd.S_typed HO_9.out) (by decide)) (fun k_ hk => ⟨trivial, hk.2⟩))).1 k_ hk_.symm) ?aF ?aO ?aB ?aS ?aL ?_; (case aP => exact Kd.M_row (Kd.R_mono (Kd.R_tight rfl (Kd.R_mono (ok' := fun k_ => ((fun _ => True)) k_ ∧ some k_ ≠ (u9 : Value).ownBlock) (Kd.R_apart' (HO268.out) (Kd.S_typed HO_9.out) (by decide)) (fun k_ hk => ⟨trivial, hk.2⟩))) (fun _ h_ => h_))); (case aB => exact z23_); (case aF => exact (fun _ _ => trivial)); (case aO => exact (by (with_reducible repeat (first | apply Kd.S_alloc | apply Kd.S_drewN | apply Kd.S_drew)); exact Kd.S_mono HO_9.out (fun k_ hk => ⟨trivial, fun e_ => hk.2 e_⟩))); (case aS => exact (below_size z23_)); (case aL => have := LMc10.out; omega); intro v270 w13 ho hb hg hat; rw [← Ny269.out] at ho; replace HO_7 := a_ (Kd.R_after (ok := (fun k_ => nb_ k_ Ao14 y266.length co14)) (rc_ (h := by exact Kd.R_mono HO_7.out (fun _ hk => ⟨hk.2, hk.1⟩))) hg hat); replace HB := a_ (hb); have HO271 := a_ (ho); clear HO268; clear HO_9; clear ho hb hg hat))
        go_roundg k2
        case measure => have := HK1.out; have := HK2.out; omega
        case rel => exact ⟨(y269), (wrap64 (x20_2 + 1)), z48_, H', ⟨z49_⟩, ⟨by (with_reducible repeat (first | apply Kd.R_alloc | apply Kd.R_drewN | apply Kd.R_drew)); exact Kd.R_mono HO_7.out (fun _ hk => hk.2)⟩, ⟨by (with_reducible repeat (first | apply Kd.S_alloc | apply Kd.S_drewN | apply Kd.S_drew)); exact HO271.out⟩, ⟨z23_⟩⟩
       ·rw [if_neg c10] at H
        exact absurd H (by simp)
      ·rw [if_neg c9] at H
       have c9b0 : decide (x20_2 < a0) = false := decide_eq_false c9
       clear c9
       by_cases c15 : x7_1.length < 5864062014805
       ·rw [if_pos c15] at H
        have LMc15 := a_ c15
        clear c15
        obtain ⟨y272, hy272⟩ : ∃ y_ : List (List (List (S35))), y_ = (x7_1 ++ [x9_2]) := ⟨_, rfl⟩
        replace H : (impl_foldSheet.l0 k2 a0 a2 y272 a1 (wrap64 (x15_1 + 1))) = some r := rh_ hy272 H
        have Ny272 := a_ hy272
        clear hy272
        have H' := a_ H
        clear H
        obtain ⟨Ao17, co17, eo17⟩ := Kd.S_slice HO_9.out
        subst eo17
        go_wp2_with (first | ((with_reducible refine gate_builtin (b := .append) (xs := #[.tmp 31, .tmp 33]) rfl ?_); at_builtin; refine Kd.R_append (Kd.slice 32 (Kd.slice 35 k35)) (w0 := w) w.heap.size rfl (.tmp 31) (.tmp 33) 42 43 (.slice none 0 0) 24 rfl Tryd.underlying42 info43 rfl (by decide) (by omega) u7 x7_1 x9_2 [.slice Ao17 x9_2.length co17] (fun _ => True) (fun k_ => ((fun _ => True)) k_ ∧ some k_ ≠ (u7 : Value).ownBlock) rfl rfl ?aP (fun _ hk => hk) ?aF ?aO ?aB ?aS ?aL ?_; (case aP => exact Kd.M_row (Kd.R_mono (Kd.R_apart' ((Kd.S_R HO_9.out)) (Kd.R_typed HO_7.out) (by decide)) (fun k_ hk => ⟨trivial, hk.2⟩))); (case aB => exact z23_); (case aF => exact (fun _ _ => trivial)); (case aO => exact (rc_ (h := by exact Kd.R_mono HO_7.out (fun _ hk => trivial)))); (case aS => exact (below_size z23_)); (case aL => have := LMc15.out; omega); intro v273 w16 ho hb hg hat; rw [← Ny272.out] at ho; replace HB := a_ (hb); have HO274 := a_ (ho); clear HO_7; clear HO_9; clear ho hb hg hat))
        go_roundg k2
        case measure => have := HK1.out; have := HK2.out; omega
        case rel => exact ⟨(y272), (wrap64 (x15_1 + 1)), z48_, H', ⟨z49_⟩, ⟨by (with_reducible repeat (first | apply Kd.R_alloc | apply Kd.R_drewN | apply Kd.R_drew)); exact HO274.out⟩, ⟨z23_⟩⟩
       ·rw [if_neg c15] at H
        exact absurd H (by simp)
   ·rw [if_neg c6] at H
    have c6b0 : decide (x15_1 < a1) = false := decide_eq_false c6
    clear c6
    have H' := a_ H
    clear H
    go_wp2
    go_loopg [7, 38] k1 (fun kq v7 v38 w' => ∃ (x7_2 : List (List (List (S35)))) (x38_2 : Int), v38 = .int .i64 x38_2 ∧ Aside0 (impl_foldSheet.l2 kq a2 x7_2 (a2.size : Int) x38_2 = some r) ∧ Aside0 (kq ≤ k1) ∧ Aside0 (Kd.R (Kd.slice 32 (Kd.slice 35 k35)) 43 w' w.heap.size (fun _ => True) v7 x7_2) ∧ Aside0 (Below w.heap.size w w'))
    case atStart => exact ⟨(x7_1), (0), z48_, H', ⟨Nat.le_refl _⟩, ⟨by (with_reducible repeat (first | apply Kd.R_alloc | apply Kd.R_drewN | apply Kd.R_drew)); exact HO_7.out⟩, ⟨z23_⟩⟩
    case round =>
     clear H'
     try clear c6b0
     obtain ⟨x7_2, x38_2, rfl, HA, HK2, HO_7, HB⟩ := hrel
     cases gk with
     | zero => exact absurd HA.out (by simp [impl_foldSheet.l2])
     | succ k2 =>
      have H := HA.out
      clear HA
      simp only [impl_foldSheet.l2] at H
      by_cases c18 : x38_2 < (a2.size : Int)
      ·rw [if_pos c18] at H
       have c18b0 : decide (x38_2 < (a2.size : Int)) = true := decide_eq_true c18
       clear c18
       by_cases c19 : 0 ≤ x38_2
       ·rw [if_pos c19] at H
        have c19b0 : decide (0 ≤ x38_2) = true := decide_eq_true c19
        clear c19
        by_cases c20 : x38_2 < (a2.size : Int)
        ·rw [if_pos c20] at H
         have c20b0 : decide (x38_2 < (a2.size : Int)) = true := decide_eq_true c20
         clear c20
         by_cases c22 : (bt a2 x38_2) = 84
         ·rw [if_pos c22] at H
          have c22b0 : ((bt a2 x38_2) == 84) = true := beq_iff_eq.mpr c22
          (try simp only [c22b0] at H)
          have c22b1 : ((bt a2 x38_2) != 84) = false := bne_eq_false_iff_eq.mpr c22
          clear c22
          by_cases c23 : (bt a2 x38_2) = 76
          ·rw [if_pos c23] at H
           have c23b0 : ((bt a2 x38_2) == 76) = true := beq_iff_eq.mpr c23
           (try simp only [c23b0] at H)
           have c23b1 : ((bt a2 x38_2) != 76) = false := bne_eq_false_iff_eq.mpr c23
           clear c23
           replace H := Option.bind_eq_some_iff.mp H
           obtain ⟨t275, A240, H⟩ := H
           replace H : (impl_foldSheet.l2 k2 a2 t275 (a2.size : Int) (wrap64 (x38_2 + 1))) = some r := H
           have A24 := a_ A240
           clear A240
           have H' := a_ H
           clear H
           have p21 : 0 ≤ (x38_2 : Int) := of_decide_eq_true z47_
           have q21 : x38_2 < (a2.size : Int) := of_decide_eq_true z47_
           have hx21 := bt_at a2 x38_2
           replace p21 := eq_true p21
           replace q21 := eq_true q21
           obtain ⟨Ao25, co25, eo25⟩ := Kd.R_slice HO_7.out
           subst eo25
           go_wp2_with (first | ((with_reducible refine gate_callee (f := 26) rfl ?_); refine goesL_ (some 57) rfl rfl Tryd.func26 (by kernel_rfl) rfl #[.slice Ao25 x7_2.length co25, .bool true, .bool true] rfl z27_ ?_; (with_reducible refine (impl_halved.calls k2 _ _ x7_2 true true t275 _ ?side1 ?side2 A24.out).mono ?_); (case side1 => exact z13_); (case side2 => exact (Kd.R_reads' HO_7.out).2.1); rintro e w26 ⟨v276, rfl, ho0, hb⟩; refine ⟨_, rfl, ?_⟩; have HO277 := a_ (Kd.R_lower (Kd.R_new' ho0 (Kd.R_lt (ra_ HO_7.out))) (below_size z23_)); replace HO_7 := a_ (Kd.R_elder' (ra_ HO_7.out) (Kd.R_base ho0) hb); replace HB := bst_ z23_ hb; (try clear hb); (try clear hb2); (try clear hk); (try clear hi); (try clear ho0)))
           go_roundg k2
           case measure => have := HK1.out; have := HK2.out; omega
           case rel => exact ⟨(t275), (wrap64 (x38_2 + 1)), z48_, H', ⟨z49_⟩, ⟨by (with_reducible repeat (first | apply Kd.R_alloc | apply Kd.R_drewN | apply Kd.R_drew)); exact Kd.R_mono HO277.out (fun _ hk => trivial)⟩, ⟨z23_⟩⟩
          ·rw [if_neg c23] at H
           have c23b0 : ((bt a2 x38_2) == 76) = false := beq_eq_false_iff_ne.mpr c23
           (try simp only [c23b0] at H)
           have c23b1 : ((bt a2 x38_2) != 76) = true := bne_iff_ne.mpr c23
           replace H := Option.bind_eq_some_iff.mp H
           obtain ⟨t278, A270, H⟩ := H
           replace H : (impl_foldSheet.l2 k2 a2 t278 (a2.size : Int) (wrap64 (x38_2 + 1))) = some r := H
           have A27 := a_ A270
           clear A270
           have H' := a_ H
           clear H
           have p21 : 0 ≤ (x38_2 : Int) := of_decide_eq_true z47_
           have q21 : x38_2 < (a2.size : Int) := of_decide_eq_true z47_
           have hx21 := bt_at a2 x38_2
           replace p21 := eq_true p21
           replace q21 := eq_true q21
           obtain ⟨Ao28, co28, eo28⟩ := Kd.R_slice HO_7.out
           subst eo28
           go_wp2_with (first | ((with_reducible refine gate_callee (f := 26) rfl ?_); refine goesL_ (some 57) rfl rfl Tryd.func26 (by kernel_rfl) rfl #[.slice Ao28 x7_2.length co28, .bool true, .bool true] rfl z27_ ?_; (with_reducible refine (impl_halved.calls k2 _ _ x7_2 true true t278 _ ?side1 ?side2 A27.out).mono ?_); (case side1 => exact z13_); (case side2 => exact (Kd.R_reads' HO_7.out).2.1); rintro e w29 ⟨v279, rfl, ho0, hb⟩; refine ⟨_, rfl, ?_⟩; have HO280 := a_ (Kd.R_lower (Kd.R_new' ho0 (Kd.R_lt (ra_ HO_7.out))) (below_size z23_)); replace HO_7 := a_ (Kd.R_elder' (ra_ HO_7.out) (Kd.R_base ho0) hb); replace HB := bst_ z23_ hb; (try clear hb); (try clear hb2); (try clear hk); (try clear hi); (try clear ho0)))
           go_roundg k2
           case measure => have := HK1.out; have := HK2.out; omega
           case rel => exact ⟨(t278), (wrap64 (x38_2 + 1)), z48_, H', ⟨z49_⟩, ⟨by (with_reducible repeat (first | apply Kd.R_alloc | apply Kd.R_drewN | apply Kd.R_drew)); exact Kd.R_mono HO280.out (fun _ hk => trivial)⟩, ⟨z23_⟩⟩
         ·rw [if_neg c22] at H
          have c22b0 : ((bt a2 x38_2) == 84) = false := beq_eq_false_iff_ne.mpr c22
          (try simp only [c22b0] at H)
          have c22b1 : ((bt a2 x38_2) != 84) = true := bne_iff_ne.mpr c22
          by_cases c30 : (bt a2 x38_2) = 76
          ·rw [if_pos c30] at H
           have c30b0 : ((bt a2 x38_2) == 76) = true := beq_iff_eq.mpr c30
           (try simp only [c30b0] at H)
           have c30b1 : ((bt a2 x38_2) != 76) = false := bne_eq_false_iff_eq.mpr c30
           clear c30
           replace H := Option.bind_eq_some_iff.mp H
           obtain ⟨t281, A310, H⟩ := H
           replace H : (impl_foldSheet.l2 k2 a2 t281 (a2.size : Int) (wrap64 (x38_2 + 1))) = some r := H
           have A31 := a_ A310
           clear A310
           have H' := a_ H
           clear H
           have p21 : 0 ≤ (x38_2 : Int) := of_decide_eq_true z47_
           have q21 : x38_2 < (a2.size : Int) := of_decide_eq_true z47_
           have hx21 := bt_at a2 x38_2
           replace p21 := eq_true p21
           replace q21 := eq_true q21
           obtain ⟨Ao32, co32, eo32⟩ := Kd.R_slice HO_7.out
           subst eo32
           go_wp2_with (first | ((with_reducible refine gate_callee (f := 26) rfl ?_); refine goesL_ (some 57) rfl rfl Tryd.func26 (by kernel_rfl) rfl #[.slice Ao32 x7_2.length co32, .bool ((bt a2 x38_2) == 66), .bool true] rfl z27_ ?_; (with_reducible refine (impl_halved.calls k2 _ _ x7_2 ((bt a2 x38_2) == 66) true t281 _ ?side1 ?side2 A31.out).mono ?_); (case side1 => exact z13_); (case side2 => exact (Kd.R_reads' HO_7.out).2.1); rintro e w33 ⟨v282, rfl, ho0, hb⟩; refine ⟨_, rfl, ?_⟩; have HO283 := a_ (Kd.R_lower (Kd.R_new' ho0 (Kd.R_lt (ra_ HO_7.out))) (below_size z23_)); replace HO_7 := a_ (Kd.R_elder' (ra_ HO_7.out) (Kd.R_base ho0) hb); replace HB := bst_ z23_ hb; (try clear hb); (try clear hb2); (try clear hk); (try clear hi); (try clear ho0)))
           go_roundg k2
           case measure => have := HK1.out; have := HK2.out; omega
           case rel => exact ⟨(t281), (wrap64 (x38_2 + 1)), z48_, H', ⟨z49_⟩, ⟨by (with_reducible repeat (first | apply Kd.R_alloc | apply Kd.R_drewN | apply Kd.R_drew)); exact Kd.R_mono HO283.out (fun _ hk => trivial)⟩, ⟨z23_⟩⟩
          ·rw [if_neg c30] at H
           have c30b0 : ((bt a2 x38_2) == 76) = false := beq_eq_false_iff_ne.mpr c30
           (try simp only [c30b0] at H)
           have c30b1 : ((bt a2 x38_2) != 76) = true := bne_iff_ne.mpr c30
           replace H := Option.bind_eq_some_iff.mp H
           obtain ⟨t284, A340, H⟩ := H
           replace H : (impl_foldSheet.l2 k2 a2 t284 (a2.size : Int) (wrap64 (x38_2 + 1))) = some r := H
           have A34 := a_ A340
           clear A340
           have H' := a_ H
           clear H
           have p21 : 0 ≤ (x38_2 : Int) := of_decide_eq_true z47_
           have q21 : x38_2 < (a2.size : Int) := of_decide_eq_true z47_
           have hx21 := bt_at a2 x38_2
           replace p21 := eq_true p21
           replace q21 := eq_true q21
           obtain ⟨Ao35, co35, eo35⟩ := Kd.R_slice HO_7.out
           subst eo35
           go_wp2_with (first | ((with_reducible refine gate_callee (f := 26) rfl ?_); refine goesL_ (some 57) rfl rfl Tryd.func26 (by kernel_rfl) rfl #[.slice Ao35 x7_2.length co35, .bool ((bt a2 x38_2) == 66), .bool false] rfl z27_ ?_; (with_reducible refine (impl_halved.calls k2 _ _ x7_2 ((bt a2 x38_2) == 66) false t284 _ ?side1 ?side2 A34.out).mono ?_); (case side1 => exact z13_); (case side2 => exact (Kd.R_reads' HO_7.out).2.1); rintro e w36 ⟨v285, rfl, ho0, hb⟩; refine ⟨_, rfl, ?_⟩; have HO286 := a_ (Kd.R_lower (Kd.R_new' ho0 (Kd.R_lt (ra_ HO_7.out))) (below_size z23_)); replace HO_7 := a_ (Kd.R_elder' (ra_ HO_7.out) (Kd.R_base ho0) hb); replace HB := bst_ z23_ hb; (try clear hb); (try clear hb2); (try clear hk); (try clear hi); (try clear ho0)))
           go_roundg k2
           case measure => have := HK1.out; have := HK2.out; omega
           case rel => exact ⟨(t284), (wrap64 (x38_2 + 1)), z48_, H', ⟨z49_⟩, ⟨by (with_reducible repeat (first | apply Kd.R_alloc | apply Kd.R_drewN | apply Kd.R_drew)); exact Kd.R_mono HO286.out (fun _ hk => trivial)⟩, ⟨z23_⟩⟩
        ·rw [if_neg c20] at H
         exact absurd H (by simp)
       ·rw [if_neg c19] at H
        exact absurd H (by simp)
      ·rw [if_neg c18] at H
       have c18b0 : decide (x38_2 < (a2.size : Int)) = false := decide_eq_false c18
       clear c18
       by_cases c37 : 0 < (x7_2.length : Int)
       ·rw [if_pos c37] at H
        have c37b0 : decide (0 < (x7_2.length : Int)) = true := decide_eq_true c37
        have c37b1 : decide (0 < x7_2.length) = true := decide_eq_true (by omega)
        clear c37
        by_cases c38 : 0 < ((rd_L4 x7_2 0).length : Int)
        ·rw [if_pos c38] at H
         have c38b0 : decide (0 < ((rd_L4 x7_2 0).length : Int)) = true := decide_eq_true c38
         have c38b1 : decide (0 < (rd_L4 x7_2 0).length) = true := decide_eq_true (by omega)
         clear c38
         obtain rfl := Option.some.inj H
         obtain ⟨Ao39, co39, eo39⟩ := Kd.R_slice HO_7.out
         subst eo39
         have p287 : 0 ≤ (0 : Int) := (by omega)
         have q287 : 0 < (x7_2.length : Int) := of_decide_eq_true z47_
         obtain ⟨ad287, A287_0, c287_0, e287, hx287_0, hl287_0, hi287_0⟩ := at_L4 (Kd.R_reads' HO_7.out).2.2 0 p287 q287
         cases e287
         obtain ⟨ce287, hce287, hMe287, hcc287⟩ := Kd.R_get HO_7.out [] 0 p287 (by first | exact q287 | exact of_decide_eq_true z47_ | (have e_ := (Kd.R_reads' HO_7.out).1; omega))
         obtain ⟨ve287_0, rfl, ge287_0⟩ := hMe287
         have hv287_0 := hcc287 0 _ rfl
         rw [Nat.add_zero, show ((Kd.slice 32 (Kd.slice 35 k35))).sz = 1 from rfl, Nat.mul_one] at hv287_0
         replace hv287_0 := Option.some.inj (hv287_0.symm.trans hx287_0)
         rw [hv287_0] at ge287_0
         have HL287_0 := a_ (show Kd.R (Kd.slice 35 k35) 32 _ _ _ _ (rd_L4 x7_2 0) from ge287_0)
         clear hv287_0 ge287_0
         clear hcc287 hce287
         have qi287 : (0 < x7_2.length) = True := eq_true (by omega)
         (try rw [show ((0 : Int)).toNat = 0 from rfl] at hx287_0)
         (try rw [Addr.add_zero'] at hx287_0)
         have HR287_0 := a_ hi287_0
         have HC287_0 := a_ hl287_0
         clear hi287_0 hl287_0
         replace p287 := eq_true p287
         replace q287 := eq_true q287
         have p288 : 0 ≤ (0 : Int) := (by omega)
         have q288 : 0 < ((rd_L4 x7_2 0).length : Int) := of_decide_eq_true z47_
         obtain ⟨ad288, A288_0, c288_0, e288, hx288_0, hl288_0, hi288_0⟩ := at_L3 (by repeat (first | (with_reducible exact HR287_0.out) | (with_reducible refine Kd.C_alloc ?_ _) | (with_reducible refine Kd.C_drewN ?_ _) | (with_reducible refine Kd.C_drew ?_) | exact HR287_0.out)) 0 p288 q288
         cases e288
         obtain ⟨ce288, hce288, hMe288, hcc288⟩ := Kd.R_get HL287_0.out [] 0 p288 (by first | exact q288 | exact of_decide_eq_true z47_ | (have e_ := (Kd.R_reads' HL287_0.out).1; omega))
         obtain ⟨ve288_0, rfl, ge288_0⟩ := hMe288
         have hv288_0 := hcc288 0 _ rfl
         rw [Nat.add_zero, show ((Kd.slice 35 k35)).sz = 1 from rfl, Nat.mul_one] at hv288_0
         replace hv288_0 := Option.some.inj (hv288_0.symm.trans hx288_0)
         rw [hv288_0] at ge288_0
         have HL288_0 := a_ (show Kd.R k35 35 _ _ _ _ (rd_L3 (rd_L4 x7_2 0) 0) from ge288_0)
         clear hv288_0 ge288_0
         clear hcc288 hce288
         have qi288 : (0 < (rd_L4 x7_2 0).length) = True := eq_true (by omega)
         (try rw [show ((0 : Int)).toNat = 0 from rfl] at hx288_0)
         (try rw [Addr.add_zero'] at hx288_0)
         have HR288_0 := a_ hi288_0
         have HC288_0 := a_ hl288_0
         clear hi288_0 hl288_0
         replace p288 := eq_true p288
         replace q288 := eq_true q288
         go_wp2
         go_ret
         exact ⟨_, z24_, by (with_reducible repeat (first | apply Kd.R_alloc | apply Kd.R_drewN | apply Kd.R_drew)); exact Kd.R_mono HL288_0.out (fun _ hk => trivial), z23_⟩
        ·rw [if_neg c38] at H
         exact absurd H (by simp)
       ·rw [if_neg c37] at H
        exact absurd H (by simp)

/-! ### impl_downLeaf: function 13 -/
def impl_downLeaf.f (a0_0 : Int) (a0_1 : Int) (a0_2 : Bool) (a0_3 : Bool) : Option (Bool) := some (a0_2 != a0_3)
set_option maxHeartbeats 8000000 in
set_option maxRecDepth 100000 in
theorem impl_downLeaf.calls (a0_0 : Int) (a0_1 : Int) (a0_2 : Bool) (a0_3 : Bool) (r : Bool) (w : World) (h : impl_downLeaf.f a0_0 a0_1 a0_2 a0_3 = some r) :
  Calls Tryd.prog 13 #[.agg #[.int .i64 a0_0, .int .i64 a0_1, .bool a0_2, .bool a0_3]] w fun e w' => e = .returned (.bool r) ∧ Below w.heap.size w w' := by
 have hu35 := Tryd.underlying35
 have HB := a_ (Below.refl w.heap.size w)
 have H : (some (a0_2 != a0_3)) = some r := h
 clear h
 obtain rfl := Option.some.inj H
 go_enter Tryd.func13, Tryd.ntmps13
 go_wp2_with (first | ((with_reducible refine gate_dst (N := 1) rfl ?_); refine box_event ?hg (N := 1) ?hd (cs := #[.int .i64 a0_0, .int .i64 a0_1, .bool a0_2, .bool a0_3]) (t := 35) ?hr ?_; (case hd => rfl); (case hg => rfl); (case hr => first | (go_simp; done) | (go_simp; rfl)); intro gb289 hg w2 hbox hb; have BK289 := a_ (hbox); have GW289 := a_ ((z22_ : w.heap.size ≤ gb289)); have GE289 := a_ ((z22_ : w.heap.size ≤ gb289)); replace HB := bst_ z23_ hb; clear hb hbox hg; obtain ⟨hcz3_0, hcz3_1, hcz3_2, hcz3_3, hfz3_0, hfz3_1, hfz3_2, hfz3_3⟩ := cz4_ (w := w2) BK289.out))
 go_ret
 exact ⟨z24_, by repeat (first | (with_reducible first | exact HB.out | apply below_alloc | apply pw_below_drewN | apply below_drew1 | refine below_set ?_ GE289.out) | exact HB.out)⟩

/-! ### impl_frontPlace: function 14 -/
def impl_frontPlace.f (a0 : Int) (a1 : Int) (a2 : Int) : Option (Int) := some (wrap64 ((wrap64 (a2 * a0)) + a1))
set_option maxHeartbeats 8000000 in
set_option maxRecDepth 100000 in
theorem impl_frontPlace.calls (a0 : Int) (a1 : Int) (a2 : Int) (r : Int) (w : World) (h : impl_frontPlace.f a0 a1 a2 = some r) :
  Calls Tryd.prog 14 #[.int .i64 a0, .int .i64 a1, .int .i64 a2] w fun e w' => e = .returned (.int .i64 r) ∧ Drawn0 w w' := by
 have H : (some (wrap64 ((wrap64 (a2 * a0)) + a1))) = some r := h
 clear h
 obtain rfl := Option.some.inj H
 go_enter Tryd.func14, Tryd.ntmps14
 go_wp2
 go_ret
 exact ⟨z41_, z43_⟩

/-! ### impl_backPlace: function 15 -/
def impl_backPlace.f (a0 : Int) (a1 : Int) (a2 : Int) : Option (Int) := some (wrap64 ((wrap64 ((wrap64 ((wrap64 (a2 * a0)) + a0)) - 1)) - a1))
set_option maxHeartbeats 8000000 in
set_option maxRecDepth 100000 in
theorem impl_backPlace.calls (a0 : Int) (a1 : Int) (a2 : Int) (r : Int) (w : World) (h : impl_backPlace.f a0 a1 a2 = some r) :
  Calls Tryd.prog 15 #[.int .i64 a0, .int .i64 a1, .int .i64 a2] w fun e w' => e = .returned (.int .i64 r) ∧ Drawn0 w w' := by
 have H : (some (wrap64 ((wrap64 ((wrap64 ((wrap64 (a2 * a0)) + a0)) - 1)) - a1))) = some r := h
 clear h
 obtain rfl := Option.some.inj H
 go_enter Tryd.func15, Tryd.ntmps15
 go_wp2
 go_ret
 exact ⟨z41_, z43_⟩

/-! ### impl_toInt: function 16 -/
def impl_toInt.f (a0 : Bool) : Option (Int) := if a0 = true then (some 1) else (some 0)
set_option maxHeartbeats 8000000 in
set_option maxRecDepth 100000 in
theorem impl_toInt.calls (a0 : Bool) (r : Int) (w : World) (h : impl_toInt.f a0 = some r) :
  Calls Tryd.prog 16 #[.bool a0] w fun e w' => e = .returned (.int .i64 r) ∧ Drawn0 w w' := by
 have H : (if a0 = true then (some 1) else (some 0)) = some r := h
 clear h
 by_cases c2 : a0 = true
 ·subst c2
  have H1 : (some 1) = some r := by rw [if_pos rfl] at H; exact H
  clear H
  have H := H1
  clear H1
  obtain rfl := Option.some.inj H
  go_enter Tryd.func16, Tryd.ntmps16
  go_wp2
  go_ret
  exact ⟨z41_, z43_⟩
 ·replace c2 := Bool.eq_false_iff.mpr c2
  subst c2
  have H1 : (some 0) = some r := by rw [if_neg (show ¬ (false = true) by decide)] at H; exact H
  clear H
  have H := H1
  clear H1
  obtain rfl := Option.some.inj H
  go_enter Tryd.func16, Tryd.ntmps16
  go_wp2
  go_ret
  exact ⟨z41_, z43_⟩

end Go.Proofs.YtkpidjmhdagkfaaDoor.QFnExactImposeSheet
-- halved
