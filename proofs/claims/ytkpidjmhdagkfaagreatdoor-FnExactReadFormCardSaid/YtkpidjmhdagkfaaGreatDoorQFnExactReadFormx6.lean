-- Written by own_print.py of this session's repo over the kit's print (its output, turned at some places).
import Derived.Test.YtkpidjmhdagkfaaGreatDoorQFnExactReadFormx0
import Derived.Test.YtkpidjmhdagkfaaGreatDoorQFnExactReadFormx5
namespace Go.Proofs.YtkpidjmhdagkfaaGreatDoor.QFnExactReadForm
open Go.RowKit Go.Proofs.YtkpidjmhdagkfaaGreatDoorW.PrintWords Go.Proofs.YtkpidjmhdagkfaaGreatDoorW.PrintLast Go.Proofs.YtkpidjmhdagkfaaGreatDoorW.PrintMore
attribute [local go_sem] max2_int min2_int max_two min_two max_three min_three max_four min_four   -- for this text's walks alone
set_option linter.unusedVariables false
set_option linter.unusedSimpArgs false

/-! ### impl_foldSheet: function 44 -/
mutual
def impl_foldSheet.l0 : Nat → Int → ByteArray → List (List (List (S64))) → Int → Int → Option ((List (S64)))
 | 0, _, _, _, _, _ => none
 | k + 1, x0, x2, x7, x14, x15 => if x15 < x14 then (impl_foldSheet.l1 k x0 x2 x7 x15 (([] : List (List (S64)))) x14 x15 x0 0) else (impl_foldSheet.l2 k x2 x7 (x2.size : Int) 0)
def impl_foldSheet.l1 : Nat → Int → ByteArray → List (List (List (S64))) → Int → List (List (S64)) → Int → Int → Int → Int → Option ((List (S64)))
 | 0, _, _, _, _, _, _, _, _, _ => none
 | k + 1, x0, x2, x7, x8, x9, x14, x15, x19, x20 => if x20 < x19 then (if x9.length < 5864062014805 then (impl_foldSheet.l1 k x0 x2 x7 x8 (x9 ++ [(([(⟨x20, x8, false, false⟩ : S64)] : List (S64)))]) x14 x15 x19 (wrap64 (x20 + 1))) else (none)) else (if x7.length < 5864062014805 then (impl_foldSheet.l0 k x0 x2 (x7 ++ [x9]) x14 (wrap64 (x15 + 1))) else (none))
def impl_foldSheet.l2 : Nat → ByteArray → List (List (List (S64))) → Int → Int → Option ((List (S64)))
 | 0, _, _, _, _ => none
 | k + 1, x2, x7, x37, x38 => if x38 < x37 then (if 0 ≤ x38 then (if x38 < (x2.size : Int) then (if (bt x2 x38) = 84 then (if (bt x2 x38) = 76 then ((impl_halved.f k x7 true true).bind fun t184 => (impl_foldSheet.l2 k x2 t184 x37 (wrap64 (x38 + 1)))) else ((impl_halved.f k x7 true ((bt x2 x38) == 84)).bind fun t187 => (impl_foldSheet.l2 k x2 t187 x37 (wrap64 (x38 + 1))))) else (if (bt x2 x38) = 76 then ((impl_halved.f k x7 ((bt x2 x38) == 66) true).bind fun t190 => (impl_foldSheet.l2 k x2 t190 x37 (wrap64 (x38 + 1)))) else ((impl_halved.f k x7 ((bt x2 x38) == 66) ((bt x2 x38) == 84)).bind fun t193 => (impl_foldSheet.l2 k x2 t193 x37 (wrap64 (x38 + 1)))))) else (none)) else (none)) else (if 0 < (x7.length : Int) then (if 0 < ((rd_L5 x7 0).length : Int) then (some (rd_L4 (rd_L5 x7 0) 0)) else (none)) else (none))
end
def impl_foldSheet.f (k : Nat) (a0 : Int) (a1 : Int) (a2 : ByteArray) : Option ((List (S64))) := impl_foldSheet.l0 k a0 a2 (([] : List (List (List (S64))))) a1 0
theorem impl_foldSheet.mono_l : ∀ k, (∀ y0 y1 y2 y3 y4, LeO (impl_foldSheet.l0 k y0 y1 y2 y3 y4) (impl_foldSheet.l0 (k + 1) y0 y1 y2 y3 y4)) ∧ (∀ y0 y1 y2 y3 y4 y5 y6 y7 y8, LeO (impl_foldSheet.l1 k y0 y1 y2 y3 y4 y5 y6 y7 y8) (impl_foldSheet.l1 (k + 1) y0 y1 y2 y3 y4 y5 y6 y7 y8)) ∧ (∀ y0 y1 y2 y3, LeO (impl_foldSheet.l2 k y0 y1 y2 y3) (impl_foldSheet.l2 (k + 1) y0 y1 y2 y3))
 | 0 => ⟨fun _ _ _ _ _ r h => by simp [impl_foldSheet.l0] at h, fun _ _ _ _ _ _ _ _ _ r h => by simp [impl_foldSheet.l1] at h, fun _ _ _ _ r h => by simp [impl_foldSheet.l2] at h⟩
 | k + 1 => by
  obtain ⟨ih0, ih1, ih2⟩ := impl_foldSheet.mono_l k
  refine ⟨?_, ?_, ?_⟩
  ·intro y0 y1 y2 y3 y4
   unfold impl_foldSheet.l0
   repeat' first
   | (with_reducible exact ih0 _ _ _ _ _)
   | (with_reducible exact ih1 _ _ _ _ _ _ _ _ _)
   | (with_reducible exact ih2 _ _ _ _)
   | (with_reducible exact impl_halved.mono _ _ _ _)
   | (with_reducible exact LeO.refl _)
   | (with_reducible exact LeO.none _)
   | (with_reducible refine LeO.ite ?_ ?_)
   | (with_reducible refine LeO.bind ?_ (fun _ => ?_))
   | exact ih0 _ _ _ _ _
   | exact ih1 _ _ _ _ _ _ _ _ _
   | exact ih2 _ _ _ _
   | exact impl_halved.mono _ _ _ _
   | exact LeO.none _
   | refine LeO.ite ?_ ?_
   | refine LeO.bind ?_ (fun _ => ?_)
  ·intro y0 y1 y2 y3 y4 y5 y6 y7 y8
   unfold impl_foldSheet.l1
   repeat' first
   | (with_reducible exact ih0 _ _ _ _ _)
   | (with_reducible exact ih1 _ _ _ _ _ _ _ _ _)
   | (with_reducible exact ih2 _ _ _ _)
   | (with_reducible exact impl_halved.mono _ _ _ _)
   | (with_reducible exact LeO.refl _)
   | (with_reducible exact LeO.none _)
   | (with_reducible refine LeO.ite ?_ ?_)
   | (with_reducible refine LeO.bind ?_ (fun _ => ?_))
   | exact ih0 _ _ _ _ _
   | exact ih1 _ _ _ _ _ _ _ _ _
   | exact ih2 _ _ _ _
   | exact impl_halved.mono _ _ _ _
   | exact LeO.none _
   | refine LeO.ite ?_ ?_
   | refine LeO.bind ?_ (fun _ => ?_)
  ·intro y0 y1 y2 y3
   unfold impl_foldSheet.l2
   repeat' first
   | (with_reducible exact ih0 _ _ _ _ _)
   | (with_reducible exact ih1 _ _ _ _ _ _ _ _ _)
   | (with_reducible exact ih2 _ _ _ _)
   | (with_reducible exact impl_halved.mono _ _ _ _)
   | (with_reducible exact LeO.refl _)
   | (with_reducible exact LeO.none _)
   | (with_reducible refine LeO.ite ?_ ?_)
   | (with_reducible refine LeO.bind ?_ (fun _ => ?_))
   | exact ih0 _ _ _ _ _
   | exact ih1 _ _ _ _ _ _ _ _ _
   | exact ih2 _ _ _ _
   | exact impl_halved.mono _ _ _ _
   | exact LeO.none _
   | refine LeO.ite ?_ ?_
   | refine LeO.bind ?_ (fun _ => ?_)
theorem impl_foldSheet.mono : ∀ a0 a1 a2 k, LeO (impl_foldSheet.f k a0 a1 a2) (impl_foldSheet.f (k + 1) a0 a1 a2) := by
 intro a0 a1 a2 k
 obtain ⟨ih0, ih1, ih2⟩ := impl_foldSheet.mono_l k
 unfold impl_foldSheet.f
 repeat' first
   | (with_reducible exact ih0 _ _ _ _ _)
   | (with_reducible exact ih1 _ _ _ _ _ _ _ _ _)
   | (with_reducible exact ih2 _ _ _ _)
   | (with_reducible exact impl_halved.mono _ _ _ _)
   | (with_reducible exact LeO.refl _)
   | (with_reducible exact LeO.none _)
   | (with_reducible refine LeO.ite ?_ ?_)
   | (with_reducible refine LeO.bind ?_ (fun _ => ?_))
   | exact ih0 _ _ _ _ _
   | exact ih1 _ _ _ _ _ _ _ _ _
   | exact ih2 _ _ _ _
   | exact impl_halved.mono _ _ _ _
   | exact LeO.none _
   | refine LeO.ite ?_ ?_
   | refine LeO.bind ?_ (fun _ => ?_)
set_option maxHeartbeats 8000000 in
set_option maxRecDepth 100000 in
theorem impl_foldSheet.calls (k : Nat) (a0 : Int) (a1 : Int) (a2 : ByteArray) (r : List (S64)) (w : World) (h : impl_foldSheet.f k a0 a1 a2 = some r) :
  Calls Tryz.prog 44 #[.int .i64 a0, .int .i64 a1, .string a2] w fun e w' => ∃ v0_ : Value, e = .returned (v0_) ∧ Kd.R k64 64 w' w.heap.size (fun _ => True) v0_ r ∧ Below w.heap.size w w' := by
 have hu64 := Tryz.underlying64
 have HB := a_ (Below.refl w.heap.size w)
 have H : (impl_foldSheet.l0 k a0 a2 (([] : List (List (List (S64))))) a1 0) = some r := h
 clear h
 obtain ⟨y169, hy169⟩ : ∃ y_ : List (List (List (S64))), y_ = (([] : List (List (List (S64))))) := ⟨_, rfl⟩
 replace H : (impl_foldSheet.l0 k a0 a2 y169 a1 0) = some r := rh_ hy169 H
 have Ny169 := Aside0.mk hy169
 clear hy169
 have H' := Aside0.mk H
 clear H
 go_enter Tryz.func44, Tryz.ntmps44
 go_wp2_with (first | ((with_reducible refine gate_dst (N := 13) rfl ?_); refine Kd.R_lit (Kd.slice 61 (Kd.slice 64 k64)) _ 96 ?hg (N := 13) ?hd (xs := ([] : List (List (List (S64))))) (inner := []) (ok := fun _ => True) (okp := fun _ => True) ?hr ?hp (fun _ hk => hk) trivial (Below.refl _ _) (Nat.le_refl _) (by simp) ?_; (case hd => rfl); (case hg => rfl); (case hr => first | (go_simp; done) | (go_simp; rfl)); (case hp => exact (Reps.none _ _)); intro v170 w4 ho5 hb hg_ hnew_; clear hg_ hnew_; (first | rw [← Ny169.out] at ho5 | (simp only [Int.reduceToNat] at ho5; rw [← Ny169.out] at ho5)); have HO171 := a_ (Kd.R_lower ho5 (below_size z33_)); replace HB := a_ (below_step z33_ hb); clear hb ho5))
 go_loopg [7, 15] k (fun kq v7 v15 w' => ∃ (x7_1 : List (List (List (S64)))) (x15_1 : Int), v15 = .int .i64 x15_1 ∧ Aside0 (impl_foldSheet.l0 kq a0 a2 x7_1 a1 x15_1 = some r) ∧ Aside0 (kq ≤ k) ∧ Aside0 (Kd.R (Kd.slice 61 (Kd.slice 64 k64)) 96 w' w.heap.size (fun _ => True) v7 x7_1) ∧ Aside0 (Below w.heap.size w w'))
 case atStart => exact ⟨(y169), (0), z78_, H', ⟨Nat.le_refl _⟩, ⟨by (with_reducible repeat (first | apply Kd.R_alloc | apply Kd.R_drewN | apply Kd.R_drew)); exact HO171.out⟩, ⟨z33_⟩⟩
 case round =>
  clear H'
  obtain ⟨x7_1, x15_1, rfl, HA, HK1, HO_7, HB⟩ := hrel
  cases gk with
  | zero => exact absurd HA.out (by simp [impl_foldSheet.l0])
  | succ k1 =>
   have H := HA.out
   clear HA
   simp only [impl_foldSheet.l0] at H
   by_cases c6 : x15_1 < a1
   ·rw [if_pos c6] at H
    have c6b0 : decide (x15_1 < a1) = true := decide_eq_true c6
    clear c6
    obtain ⟨y172, hy172⟩ : ∃ y_ : List (List (S64)), y_ = (([] : List (List (S64)))) := ⟨_, rfl⟩
    replace H : (impl_foldSheet.l1 k1 a0 a2 x7_1 x15_1 y172 a1 x15_1 a0 0) = some r := rh_ hy172 H
    have Ny172 := Aside0.mk hy172
    clear hy172
    have H' := Aside0.mk H
    clear H
    go_wp2_with (first | ((with_reducible refine gate_dst (N := 18) rfl ?_); refine Kd.S_lit (Kd.slice 64 k64) _ 61 ?hg (N := 18) ?hd (xs := ([] : List (List (S64)))) (inner := []) (ok := fun _ => True) (okp := fun _ => True) ?hr ?hp (fun _ hk => hk) trivial (Below.refl _ _) (Nat.le_refl _) (by simp) ?_; (case hd => rfl); (case hg => rfl); (case hr => first | (go_simp; done) | (go_simp; rfl)); (case hp => exact (Reps.none _ _)); intro v173 w7 ho8 hb hg_ hnew_; clear hg_ hnew_; (first | rw [← Ny172.out] at ho8 | (simp only [Int.reduceToNat] at ho8; rw [← Ny172.out] at ho8)); replace HO_7 := a_ (Kd.R_elder' (ra_ HO_7.out) (Kd.S_base ho8) hb); have HO174 := a_ (Kd.S_lower ho8 (below_size z33_)); replace HB := a_ (below_step z33_ hb); clear hb ho8))
    go_loopg [9, 20] k1 (fun kq v9 v20 w' => ∃ (x9_2 : List (List (S64))) (x20_2 : Int), v20 = .int .i64 x20_2 ∧ Aside0 (impl_foldSheet.l1 kq a0 a2 x7_1 x15_1 x9_2 a1 x15_1 a0 x20_2 = some r) ∧ Aside0 (kq ≤ k1) ∧ Aside0 (Kd.R (Kd.slice 61 (Kd.slice 64 k64)) 96 w' w.heap.size (fun k_ => some k_ ≠ (v9 : Value).ownBlock) u7 x7_1) ∧ Aside0 (Kd.S (Kd.slice 64 k64) 61 w' w.heap.size (fun _ => True) v9 x9_2) ∧ Aside0 (Below w.heap.size w w'))
    case atStart => exact ⟨(y172), (0), z78_, H', ⟨Nat.le_refl _⟩, ⟨by (with_reducible repeat (first | apply Kd.R_alloc | apply Kd.R_drewN | apply Kd.R_drew)); exact Kd.R_mono HO_7.out (fun _ hk => hk.2)⟩, ⟨by (with_reducible repeat (first | apply Kd.S_alloc | apply Kd.S_drewN | apply Kd.S_drew)); exact HO174.out⟩, ⟨z33_⟩⟩
    case round =>
     clear H'
     try clear c6b0
     obtain ⟨x9_2, x20_2, rfl, HA, HK2, HO_7, HO_9, HB⟩ := hrel
     cases gk with
     | zero => exact absurd HA.out (by simp [impl_foldSheet.l1])
     | succ k2 =>
      have H := HA.out
      clear HA
      simp only [impl_foldSheet.l1] at H
      by_cases c9 : x20_2 < a0
      ·rw [if_pos c9] at H
       have c9b0 : decide (x20_2 < a0) = true := decide_eq_true c9
       clear c9
       obtain ⟨y175, hy175⟩ : ∃ y_ : List (S64), y_ = (([(⟨x20_2, x15_1, false, false⟩ : S64)] : List (S64))) := ⟨_, rfl⟩
       replace H : (if x9_2.length < 5864062014805 then (impl_foldSheet.l1 k2 a0 a2 x7_1 x15_1 (x9_2 ++ [y175]) a1 x15_1 a0 (wrap64 (x20_2 + 1))) else (none)) = some r := rh_ hy175 H
       have Ny175 := Aside0.mk hy175
       clear hy175
       by_cases c10 : x9_2.length < 5864062014805
       ·rw [if_pos c10] at H
        have LMc10 := Aside0.mk c10
        clear c10
        obtain ⟨y178, hy178⟩ : ∃ y_ : List (List (S64)), y_ = (x9_2 ++ [y175]) := ⟨_, rfl⟩
        replace H : (impl_foldSheet.l1 k2 a0 a2 x7_1 x15_1 y178 a1 x15_1 a0 (wrap64 (x20_2 + 1))) = some r := rh_ hy178 H
        have Ny178 := Aside0.mk hy178
        clear hy178
        have H' := Aside0.mk H
        clear H
        go_wp2_with (first | ((with_reducible refine gate_dst (N := 27) rfl ?_); refine Kd.R_lit k64 _ 64 ?hg (N := 27) ?hd (xs := ([(⟨x20_2, x15_1, false, false⟩ : S64)] : List (S64))) (inner := [.int .i64 x20_2, .int .i64 x15_1, .bool false, .bool false]) (ok := fun _ => True) (okp := fun _ => True) ?hr ?hp (fun _ hk => hk) trivial (Below.refl _ _) (Nat.le_refl _) (by simp) ?_; (case hd => rfl); (case hg => rfl); (case hr => first | (go_simp; done) | (go_simp; rfl)); (case hp => exact (Reps.c4 (show Kd.M k64 _ _ _ (⟨x20_2, x15_1, false, false⟩ : S64) [.int .i64 x20_2, .int .i64 x15_1, .bool false, .bool false] from (k64_mkM _ _ _ (⟨x20_2, x15_1, false, false⟩ : S64) )) (Reps.none _ _))); intro v176 w11 ho12 hb hg_ hnew_; clear hg_ hnew_; (first | rw [← Ny175.out] at ho12 | (simp only [Int.reduceToNat] at ho12; rw [← Ny175.out] at ho12)); replace HO_7 := a_ (Kd.R_elder' (ra_ HO_7.out) (Kd.R_base ho12) hb); replace HO_9 := a_ (Kd.S_elder' (by (with_reducible repeat (first | apply Kd.S_alloc | apply Kd.S_drewN | apply Kd.S_drew)); exact HO_9.out) (Kd.R_base ho12) hb); have HO177 := a_ (Kd.R_lower ho12 (below_size z33_)); replace HB := a_ (below_step z33_ hb); clear hb ho12; obtain ⟨Ao14, co14, eo14⟩ := Kd.R_slice HO177.out; subst eo14) | ((with_reducible refine gate_builtin (b := .append) (xs := #[.tmp 23, .tmp 28]) rfl ?_); at_builtin; refine Kd.S_append (Kd.slice 64 k64) (w0 := w) w.heap.size rfl (.tmp 23) (.tmp 28) 96 61 (.slice none 0 0) 24 rfl Tryz.underlying96 info61 rfl (by decide) (by omega) u9 x9_2 y175 [.slice Ao14 y175.length co14] (fun _ => True) (fun k_ => some k_ = (.slice Ao14 y175.length co14 : Value).ownBlock) rfl rfl ?aP (fun k_ hk_ => ((Kd.R_mono (ok' := fun k_ => ((fun _ => True)) k_ ∧ some k_ ≠ (u9 : Value).ownBlock) (Kd.R_apart' (HO177.out) (Kd.S_typed HO_9.out) (by decide)) (fun k_ hk => ⟨trivial, hk.2⟩))).1 k_ hk_.symm) ?aF ?aO ?aB ?aS ?aL ?_; (case aP => exact Kd.M_row (Kd.R_mono (Kd.R_tight rfl (Kd.R_mono (ok' := fun k_ => ((fun _ => True)) k_ ∧ some k_ ≠ (u9 : Value).ownBlock) (Kd.R_apart' (HO177.out) (Kd.S_typed HO_9.out) (by decide)) (fun k_ hk => ⟨trivial, hk.2⟩))) (fun _ h_ => h_))); (case aB => exact z33_); (case aF => exact (fun _ _ => trivial)); (case aO => exact (by (with_reducible repeat (first | apply Kd.S_alloc | apply Kd.S_drewN | apply Kd.S_drew)); exact Kd.S_mono HO_9.out (fun k_ hk => ⟨trivial, fun e_ => hk.2 e_⟩))); (case aS => exact (below_size z33_)); (case aL => have := LMc10.out; omega); intro v179 w13 ho hb hg hat; rw [← Ny178.out] at ho; replace HO_7 := a_ (Kd.R_after (ok := (fun k_ => nb_ k_ Ao14 y175.length co14)) (rc_ (h := by exact Kd.R_mono HO_7.out (fun _ hk => ⟨hk.2, hk.1⟩))) hg hat); replace HB := a_ (hb); have HO180 := a_ (ho); clear HO177; clear HO_9; clear ho hb hg hat))
        go_roundg k2
        case measure => have := HK1.out; have := HK2.out; omega
        case rel => exact ⟨(y178), (wrap64 (x20_2 + 1)), z78_, H', ⟨z79_⟩, ⟨by (with_reducible repeat (first | apply Kd.R_alloc | apply Kd.R_drewN | apply Kd.R_drew)); exact Kd.R_mono HO_7.out (fun _ hk => hk.2)⟩, ⟨by (with_reducible repeat (first | apply Kd.S_alloc | apply Kd.S_drewN | apply Kd.S_drew)); exact HO180.out⟩, ⟨z33_⟩⟩
       ·rw [if_neg c10] at H
        exact absurd H (by simp)
      ·rw [if_neg c9] at H
       have c9b0 : decide (x20_2 < a0) = false := decide_eq_false c9
       clear c9
       by_cases c15 : x7_1.length < 5864062014805
       ·rw [if_pos c15] at H
        have LMc15 := Aside0.mk c15
        clear c15
        obtain ⟨y181, hy181⟩ : ∃ y_ : List (List (List (S64))), y_ = (x7_1 ++ [x9_2]) := ⟨_, rfl⟩
        replace H : (impl_foldSheet.l0 k2 a0 a2 y181 a1 (wrap64 (x15_1 + 1))) = some r := rh_ hy181 H
        have Ny181 := Aside0.mk hy181
        clear hy181
        have H' := Aside0.mk H
        clear H
        obtain ⟨Ao17, co17, eo17⟩ := Kd.S_slice HO_9.out
        subst eo17
        go_wp2_with (first | ((with_reducible refine gate_builtin (b := .append) (xs := #[.tmp 31, .tmp 33]) rfl ?_); at_builtin; refine Kd.R_append (Kd.slice 61 (Kd.slice 64 k64)) (w0 := w) w.heap.size rfl (.tmp 31) (.tmp 33) 95 96 (.slice none 0 0) 24 rfl Tryz.underlying95 info96 rfl (by decide) (by omega) u7 x7_1 x9_2 [.slice Ao17 x9_2.length co17] (fun _ => True) (fun k_ => ((fun _ => True)) k_ ∧ some k_ ≠ (u7 : Value).ownBlock) rfl rfl ?aP (fun _ hk => hk) ?aF ?aO ?aB ?aS ?aL ?_; (case aP => exact Kd.M_row (Kd.R_mono (Kd.R_apart' ((Kd.S_R HO_9.out)) (Kd.R_typed HO_7.out) (by decide)) (fun k_ hk => ⟨trivial, hk.2⟩))); (case aB => exact z33_); (case aF => exact (fun _ _ => trivial)); (case aO => exact (rc_ (h := by exact Kd.R_mono HO_7.out (fun _ hk => trivial)))); (case aS => exact (below_size z33_)); (case aL => have := LMc15.out; omega); intro v182 w16 ho hb hg hat; rw [← Ny181.out] at ho; replace HB := a_ (hb); have HO183 := a_ (ho); clear HO_7; clear HO_9; clear ho hb hg hat))
        go_roundg k2
        case measure => have := HK1.out; have := HK2.out; omega
        case rel => exact ⟨(y181), (wrap64 (x15_1 + 1)), z78_, H', ⟨z79_⟩, ⟨by (with_reducible repeat (first | apply Kd.R_alloc | apply Kd.R_drewN | apply Kd.R_drew)); exact HO183.out⟩, ⟨z33_⟩⟩
       ·rw [if_neg c15] at H
        exact absurd H (by simp)
   ·rw [if_neg c6] at H
    have c6b0 : decide (x15_1 < a1) = false := decide_eq_false c6
    clear c6
    have H' := Aside0.mk H
    clear H
    go_wp2
    go_loopg [7, 38] k1 (fun kq v7 v38 w' => ∃ (x7_2 : List (List (List (S64)))) (x38_2 : Int), v38 = .int .i64 x38_2 ∧ Aside0 (impl_foldSheet.l2 kq a2 x7_2 (a2.size : Int) x38_2 = some r) ∧ Aside0 (kq ≤ k1) ∧ Aside0 (Kd.R (Kd.slice 61 (Kd.slice 64 k64)) 96 w' w.heap.size (fun _ => True) v7 x7_2) ∧ Aside0 (Below w.heap.size w w'))
    case atStart => exact ⟨(x7_1), (0), z78_, H', ⟨Nat.le_refl _⟩, ⟨by (with_reducible repeat (first | apply Kd.R_alloc | apply Kd.R_drewN | apply Kd.R_drew)); exact HO_7.out⟩, ⟨z33_⟩⟩
    case round =>
     clear H'
     try clear c6b0
     obtain ⟨x7_2, x38_2, rfl, HA, HK2, HO_7, HB⟩ := hrel
     cases gk with
     | zero => exact absurd HA.out (by simp [impl_foldSheet.l2])
     | succ k2 =>
      have H := HA.out
      clear HA
      simp only [impl_foldSheet.l2] at H
      by_cases c18 : x38_2 < (a2.size : Int)
      ·rw [if_pos c18] at H
       have c18b0 : decide (x38_2 < (a2.size : Int)) = true := decide_eq_true c18
       clear c18
       by_cases c19 : 0 ≤ x38_2
       ·rw [if_pos c19] at H
        have c19b0 : decide (0 ≤ x38_2) = true := decide_eq_true c19
        clear c19
        by_cases c20 : x38_2 < (a2.size : Int)
        ·rw [if_pos c20] at H
         have c20b0 : decide (x38_2 < (a2.size : Int)) = true := decide_eq_true c20
         clear c20
         by_cases c22 : (bt a2 x38_2) = 84
         ·rw [if_pos c22] at H
          have c22b0 : ((bt a2 x38_2) == 84) = true := beq_iff_eq.mpr c22
          (try simp only [c22b0] at H)
          have c22b1 : ((bt a2 x38_2) != 84) = false := bne_eq_false_iff_eq.mpr c22
          clear c22
          by_cases c23 : (bt a2 x38_2) = 76
          ·rw [if_pos c23] at H
           have c23b0 : ((bt a2 x38_2) == 76) = true := beq_iff_eq.mpr c23
           (try simp only [c23b0] at H)
           have c23b1 : ((bt a2 x38_2) != 76) = false := bne_eq_false_iff_eq.mpr c23
           clear c23
           replace H := Option.bind_eq_some_iff.mp H
           obtain ⟨t184, A240, H⟩ := H
           replace H : (impl_foldSheet.l2 k2 a2 t184 (a2.size : Int) (wrap64 (x38_2 + 1))) = some r := H
           have A24 := Aside0.mk A240
           clear A240
           have H' := Aside0.mk H
           clear H
           have p21 : 0 ≤ (x38_2 : Int) := of_decide_eq_true z77_
           have q21 : x38_2 < (a2.size : Int) := of_decide_eq_true z77_
           have hx21 := bt_at a2 x38_2
           replace p21 := eq_true p21
           replace q21 := eq_true q21
           obtain ⟨Ao25, co25, eo25⟩ := Kd.R_slice HO_7.out
           subst eo25
           go_wp2_with (first | ((with_reducible refine gate_callee (f := 81) rfl ?_); refine goesL_ (some 57) rfl rfl Tryz.func81 (by kernel_rfl) rfl #[.slice Ao25 x7_2.length co25, .bool true, .bool true] rfl z36_ ?_; (with_reducible refine (impl_halved.calls k2 _ _ x7_2 true true t184 _ ?side1 ?side2 A24.out).mono ?_); (case side1 => exact z15_); (case side2 => exact (Kd.R_reads' HO_7.out).2.1); rintro e w26 ⟨v185, rfl, ho0, hb⟩; refine ⟨_, rfl, ?_⟩; have HO186 := a_ (Kd.R_lower (Kd.R_new' ho0 (Kd.R_lt (ra_ HO_7.out))) (below_size z33_)); replace HO_7 := a_ (Kd.R_elder' (ra_ HO_7.out) (Kd.R_base ho0) hb); replace HB := a_ (below_step z33_ hb); (try clear hb); (try clear hb2); (try clear hk); (try clear hi); (try clear ho0)))
           go_roundg k2
           case measure => have := HK1.out; have := HK2.out; omega
           case rel => exact ⟨(t184), (wrap64 (x38_2 + 1)), z78_, H', ⟨z79_⟩, ⟨by (with_reducible repeat (first | apply Kd.R_alloc | apply Kd.R_drewN | apply Kd.R_drew)); exact Kd.R_mono HO186.out (fun _ hk => trivial)⟩, ⟨z33_⟩⟩
          ·rw [if_neg c23] at H
           have c23b0 : ((bt a2 x38_2) == 76) = false := beq_eq_false_iff_ne.mpr c23
           (try simp only [c23b0] at H)
           have c23b1 : ((bt a2 x38_2) != 76) = true := bne_iff_ne.mpr c23
           replace H := Option.bind_eq_some_iff.mp H
           obtain ⟨t187, A270, H⟩ := H
           replace H : (impl_foldSheet.l2 k2 a2 t187 (a2.size : Int) (wrap64 (x38_2 + 1))) = some r := H
           have A27 := Aside0.mk A270
           clear A270
           have H' := Aside0.mk H
           clear H
           have p21 : 0 ≤ (x38_2 : Int) := of_decide_eq_true z77_
           have q21 : x38_2 < (a2.size : Int) := of_decide_eq_true z77_
           have hx21 := bt_at a2 x38_2
           replace p21 := eq_true p21
           replace q21 := eq_true q21
           obtain ⟨Ao28, co28, eo28⟩ := Kd.R_slice HO_7.out
           subst eo28
           go_wp2_with (first | ((with_reducible refine gate_callee (f := 81) rfl ?_); refine goesL_ (some 57) rfl rfl Tryz.func81 (by kernel_rfl) rfl #[.slice Ao28 x7_2.length co28, .bool true, .bool true] rfl z36_ ?_; (with_reducible refine (impl_halved.calls k2 _ _ x7_2 true true t187 _ ?side1 ?side2 A27.out).mono ?_); (case side1 => exact z15_); (case side2 => exact (Kd.R_reads' HO_7.out).2.1); rintro e w29 ⟨v188, rfl, ho0, hb⟩; refine ⟨_, rfl, ?_⟩; have HO189 := a_ (Kd.R_lower (Kd.R_new' ho0 (Kd.R_lt (ra_ HO_7.out))) (below_size z33_)); replace HO_7 := a_ (Kd.R_elder' (ra_ HO_7.out) (Kd.R_base ho0) hb); replace HB := a_ (below_step z33_ hb); (try clear hb); (try clear hb2); (try clear hk); (try clear hi); (try clear ho0)))
           go_roundg k2
           case measure => have := HK1.out; have := HK2.out; omega
           case rel => exact ⟨(t187), (wrap64 (x38_2 + 1)), z78_, H', ⟨z79_⟩, ⟨by (with_reducible repeat (first | apply Kd.R_alloc | apply Kd.R_drewN | apply Kd.R_drew)); exact Kd.R_mono HO189.out (fun _ hk => trivial)⟩, ⟨z33_⟩⟩
         ·rw [if_neg c22] at H
          have c22b0 : ((bt a2 x38_2) == 84) = false := beq_eq_false_iff_ne.mpr c22
          (try simp only [c22b0] at H)
          have c22b1 : ((bt a2 x38_2) != 84) = true := bne_iff_ne.mpr c22
          by_cases c30 : (bt a2 x38_2) = 76
          ·rw [if_pos c30] at H
           have c30b0 : ((bt a2 x38_2) == 76) = true := beq_iff_eq.mpr c30
           (try simp only [c30b0] at H)
           have c30b1 : ((bt a2 x38_2) != 76) = false := bne_eq_false_iff_eq.mpr c30
           clear c30
           replace H := Option.bind_eq_some_iff.mp H
           obtain ⟨t190, A310, H⟩ := H
           replace H : (impl_foldSheet.l2 k2 a2 t190 (a2.size : Int) (wrap64 (x38_2 + 1))) = some r := H
           have A31 := Aside0.mk A310
           clear A310
           have H' := Aside0.mk H
           clear H
           have p21 : 0 ≤ (x38_2 : Int) := of_decide_eq_true z77_
           have q21 : x38_2 < (a2.size : Int) := of_decide_eq_true z77_
           have hx21 := bt_at a2 x38_2
           replace p21 := eq_true p21
           replace q21 := eq_true q21
           obtain ⟨Ao32, co32, eo32⟩ := Kd.R_slice HO_7.out
           subst eo32
           go_wp2_with (first | ((with_reducible refine gate_callee (f := 81) rfl ?_); refine goesL_ (some 57) rfl rfl Tryz.func81 (by kernel_rfl) rfl #[.slice Ao32 x7_2.length co32, .bool ((bt a2 x38_2) == 66), .bool true] rfl z36_ ?_; (with_reducible refine (impl_halved.calls k2 _ _ x7_2 ((bt a2 x38_2) == 66) true t190 _ ?side1 ?side2 A31.out).mono ?_); (case side1 => exact z15_); (case side2 => exact (Kd.R_reads' HO_7.out).2.1); rintro e w33 ⟨v191, rfl, ho0, hb⟩; refine ⟨_, rfl, ?_⟩; have HO192 := a_ (Kd.R_lower (Kd.R_new' ho0 (Kd.R_lt (ra_ HO_7.out))) (below_size z33_)); replace HO_7 := a_ (Kd.R_elder' (ra_ HO_7.out) (Kd.R_base ho0) hb); replace HB := a_ (below_step z33_ hb); (try clear hb); (try clear hb2); (try clear hk); (try clear hi); (try clear ho0)))
           go_roundg k2
           case measure => have := HK1.out; have := HK2.out; omega
           case rel => exact ⟨(t190), (wrap64 (x38_2 + 1)), z78_, H', ⟨z79_⟩, ⟨by (with_reducible repeat (first | apply Kd.R_alloc | apply Kd.R_drewN | apply Kd.R_drew)); exact Kd.R_mono HO192.out (fun _ hk => trivial)⟩, ⟨z33_⟩⟩
          ·rw [if_neg c30] at H
           have c30b0 : ((bt a2 x38_2) == 76) = false := beq_eq_false_iff_ne.mpr c30
           (try simp only [c30b0] at H)
           have c30b1 : ((bt a2 x38_2) != 76) = true := bne_iff_ne.mpr c30
           replace H := Option.bind_eq_some_iff.mp H
           obtain ⟨t193, A340, H⟩ := H
           replace H : (impl_foldSheet.l2 k2 a2 t193 (a2.size : Int) (wrap64 (x38_2 + 1))) = some r := H
           have A34 := Aside0.mk A340
           clear A340
           have H' := Aside0.mk H
           clear H
           have p21 : 0 ≤ (x38_2 : Int) := of_decide_eq_true z77_
           have q21 : x38_2 < (a2.size : Int) := of_decide_eq_true z77_
           have hx21 := bt_at a2 x38_2
           replace p21 := eq_true p21
           replace q21 := eq_true q21
           obtain ⟨Ao35, co35, eo35⟩ := Kd.R_slice HO_7.out
           subst eo35
           go_wp2_with (first | ((with_reducible refine gate_callee (f := 81) rfl ?_); refine goesL_ (some 57) rfl rfl Tryz.func81 (by kernel_rfl) rfl #[.slice Ao35 x7_2.length co35, .bool ((bt a2 x38_2) == 66), .bool false] rfl z36_ ?_; (with_reducible refine (impl_halved.calls k2 _ _ x7_2 ((bt a2 x38_2) == 66) false t193 _ ?side1 ?side2 A34.out).mono ?_); (case side1 => exact z15_); (case side2 => exact (Kd.R_reads' HO_7.out).2.1); rintro e w36 ⟨v194, rfl, ho0, hb⟩; refine ⟨_, rfl, ?_⟩; have HO195 := a_ (Kd.R_lower (Kd.R_new' ho0 (Kd.R_lt (ra_ HO_7.out))) (below_size z33_)); replace HO_7 := a_ (Kd.R_elder' (ra_ HO_7.out) (Kd.R_base ho0) hb); replace HB := a_ (below_step z33_ hb); (try clear hb); (try clear hb2); (try clear hk); (try clear hi); (try clear ho0)))
           go_roundg k2
           case measure => have := HK1.out; have := HK2.out; omega
           case rel => exact ⟨(t193), (wrap64 (x38_2 + 1)), z78_, H', ⟨z79_⟩, ⟨by (with_reducible repeat (first | apply Kd.R_alloc | apply Kd.R_drewN | apply Kd.R_drew)); exact Kd.R_mono HO195.out (fun _ hk => trivial)⟩, ⟨z33_⟩⟩
        ·rw [if_neg c20] at H
         exact absurd H (by simp)
       ·rw [if_neg c19] at H
        exact absurd H (by simp)
      ·rw [if_neg c18] at H
       have c18b0 : decide (x38_2 < (a2.size : Int)) = false := decide_eq_false c18
       clear c18
       by_cases c37 : 0 < (x7_2.length : Int)
       ·rw [if_pos c37] at H
        have c37b0 : decide (0 < (x7_2.length : Int)) = true := decide_eq_true c37
        have c37b1 : decide (0 < x7_2.length) = true := decide_eq_true (by omega)
        clear c37
        by_cases c38 : 0 < ((rd_L5 x7_2 0).length : Int)
        ·rw [if_pos c38] at H
         have c38b0 : decide (0 < ((rd_L5 x7_2 0).length : Int)) = true := decide_eq_true c38
         have c38b1 : decide (0 < (rd_L5 x7_2 0).length) = true := decide_eq_true (by omega)
         clear c38
         obtain rfl := Option.some.inj H
         obtain ⟨Ao39, co39, eo39⟩ := Kd.R_slice HO_7.out
         subst eo39
         have p196 : 0 ≤ (0 : Int) := (by omega)
         have q196 : 0 < (x7_2.length : Int) := of_decide_eq_true z77_
         obtain ⟨ad196, A196_0, c196_0, e196, hx196_0, hl196_0, hi196_0⟩ := at_L5 (Kd.R_reads' HO_7.out).2.2 0 p196 q196
         cases e196
         obtain ⟨ce196, hce196, hMe196, hcc196⟩ := Kd.R_get HO_7.out [] 0 p196 (by first | exact q196 | exact of_decide_eq_true z77_ | (have e_ := (Kd.R_reads' HO_7.out).1; omega))
         obtain ⟨ve196_0, rfl, ge196_0⟩ := hMe196
         have hv196_0 := hcc196 0 _ rfl
         rw [Nat.add_zero, show ((Kd.slice 61 (Kd.slice 64 k64))).sz = 1 from rfl, Nat.mul_one] at hv196_0
         replace hv196_0 := Option.some.inj (hv196_0.symm.trans hx196_0)
         rw [hv196_0] at ge196_0
         have HL196_0 := a_ (show Kd.R (Kd.slice 64 k64) 61 _ _ _ _ (rd_L5 x7_2 0) from ge196_0)
         clear hv196_0 ge196_0
         clear hcc196 hce196
         have qi196 : (0 < x7_2.length) = True := eq_true (by omega)
         (try rw [show ((0 : Int)).toNat = 0 from rfl] at hx196_0)
         (try rw [Addr.add_zero'] at hx196_0)
         have HR196_0 := Aside0.mk hi196_0
         have HC196_0 := Aside0.mk hl196_0
         clear hi196_0 hl196_0
         replace p196 := eq_true p196
         replace q196 := eq_true q196
         have p197 : 0 ≤ (0 : Int) := (by omega)
         have q197 : 0 < ((rd_L5 x7_2 0).length : Int) := of_decide_eq_true z77_
         obtain ⟨ad197, A197_0, c197_0, e197, hx197_0, hl197_0, hi197_0⟩ := at_L4 (by repeat (first | (with_reducible exact HR196_0.out) | (with_reducible refine Kd.C_alloc ?_ _) | (with_reducible refine Kd.C_drewN ?_ _) | (with_reducible refine Kd.C_drew ?_) | exact HR196_0.out)) 0 p197 q197
         cases e197
         obtain ⟨ce197, hce197, hMe197, hcc197⟩ := Kd.R_get HL196_0.out [] 0 p197 (by first | exact q197 | exact of_decide_eq_true z77_ | (have e_ := (Kd.R_reads' HL196_0.out).1; omega))
         obtain ⟨ve197_0, rfl, ge197_0⟩ := hMe197
         have hv197_0 := hcc197 0 _ rfl
         rw [Nat.add_zero, show ((Kd.slice 64 k64)).sz = 1 from rfl, Nat.mul_one] at hv197_0
         replace hv197_0 := Option.some.inj (hv197_0.symm.trans hx197_0)
         rw [hv197_0] at ge197_0
         have HL197_0 := a_ (show Kd.R k64 64 _ _ _ _ (rd_L4 (rd_L5 x7_2 0) 0) from ge197_0)
         clear hv197_0 ge197_0
         clear hcc197 hce197
         have qi197 : (0 < (rd_L5 x7_2 0).length) = True := eq_true (by omega)
         (try rw [show ((0 : Int)).toNat = 0 from rfl] at hx197_0)
         (try rw [Addr.add_zero'] at hx197_0)
         have HR197_0 := Aside0.mk hi197_0
         have HC197_0 := Aside0.mk hl197_0
         clear hi197_0 hl197_0
         replace p197 := eq_true p197
         replace q197 := eq_true q197
         go_wp2
         go_ret
         exact ⟨_, z34_, by (with_reducible repeat (first | apply Kd.R_alloc | apply Kd.R_drewN | apply Kd.R_drew)); exact Kd.R_mono HL197_0.out (fun _ hk => trivial), z33_⟩
        ·rw [if_neg c38] at H
         exact absurd H (by simp)
       ·rw [if_neg c37] at H
        exact absurd H (by simp)

/-! ### impl_downLeaf: function 45 -/
def impl_downLeaf.f (a0_0 : Int) (a0_1 : Int) (a0_2 : Bool) (a0_3 : Bool) : Option (Bool) := some (a0_2 != a0_3)
set_option maxHeartbeats 8000000 in
set_option maxRecDepth 100000 in
theorem impl_downLeaf.calls (a0_0 : Int) (a0_1 : Int) (a0_2 : Bool) (a0_3 : Bool) (r : Bool) (w : World) (h : impl_downLeaf.f a0_0 a0_1 a0_2 a0_3 = some r) :
  Calls Tryz.prog 45 #[.agg #[.int .i64 a0_0, .int .i64 a0_1, .bool a0_2, .bool a0_3]] w fun e w' => e = .returned (.bool r) ∧ Below w.heap.size w w' := by
 have hu64 := Tryz.underlying64
 have HB := a_ (Below.refl w.heap.size w)
 have H : (some (a0_2 != a0_3)) = some r := h
 clear h
 obtain rfl := Option.some.inj H
 go_enter Tryz.func45, Tryz.ntmps45
 go_wp2_with (first | ((with_reducible refine gate_dst (N := 1) rfl ?_); refine box_event ?hg (N := 1) ?hd (cs := #[.int .i64 a0_0, .int .i64 a0_1, .bool a0_2, .bool a0_3]) (t := 64) ?hr ?_; (case hd => rfl); (case hg => rfl); (case hr => first | (go_simp; done) | (go_simp; rfl)); intro gb198 hg w2 hbox hb; have BK198 := a_ (hbox); have GW198 := a_ ((z32_ : w.heap.size ≤ gb198)); have GE198 := a_ ((z32_ : w.heap.size ≤ gb198)); replace HB := a_ (below_step z33_ hb); clear hb hbox hg; obtain ⟨hcz3_0, hcz3_1, hcz3_2, hcz3_3, hfz3_0, hfz3_1, hfz3_2, hfz3_3⟩ := cz4_ (w := w2) BK198.out))
 go_ret
 exact ⟨z34_, by repeat (first | (with_reducible first | exact HB.out | apply below_alloc | apply pw_below_drewN | apply below_drew1 | refine below_set ?_ GE198.out) | exact HB.out)⟩

/-! ### impl_frontPlace: function 46 -/
def impl_frontPlace.f (a0 : Int) (a1 : Int) (a2 : Int) : Option (Int) := some (wrap64 ((wrap64 (a2 * a0)) + a1))
set_option maxHeartbeats 8000000 in
set_option maxRecDepth 100000 in
theorem impl_frontPlace.calls (a0 : Int) (a1 : Int) (a2 : Int) (r : Int) (w : World) (h : impl_frontPlace.f a0 a1 a2 = some r) :
  Calls Tryz.prog 46 #[.int .i64 a0, .int .i64 a1, .int .i64 a2] w fun e w' => e = .returned (.int .i64 r) ∧ Drawn0 w w' := by
 have H : (some (wrap64 ((wrap64 (a2 * a0)) + a1))) = some r := h
 clear h
 obtain rfl := Option.some.inj H
 go_enter Tryz.func46, Tryz.ntmps46
 go_wp2
 go_ret
 exact ⟨z67_, z73_⟩

/-! ### impl_backPlace: function 47 -/
def impl_backPlace.f (a0 : Int) (a1 : Int) (a2 : Int) : Option (Int) := some (wrap64 ((wrap64 ((wrap64 ((wrap64 (a2 * a0)) + a0)) - 1)) - a1))
set_option maxHeartbeats 8000000 in
set_option maxRecDepth 100000 in
theorem impl_backPlace.calls (a0 : Int) (a1 : Int) (a2 : Int) (r : Int) (w : World) (h : impl_backPlace.f a0 a1 a2 = some r) :
  Calls Tryz.prog 47 #[.int .i64 a0, .int .i64 a1, .int .i64 a2] w fun e w' => e = .returned (.int .i64 r) ∧ Drawn0 w w' := by
 have H : (some (wrap64 ((wrap64 ((wrap64 ((wrap64 (a2 * a0)) + a0)) - 1)) - a1))) = some r := h
 clear h
 obtain rfl := Option.some.inj H
 go_enter Tryz.func47, Tryz.ntmps47
 go_wp2
 go_ret
 exact ⟨z67_, z73_⟩

/-! ### impl_toInt: function 48 -/
def impl_toInt.f (a0 : Bool) : Option (Int) := if a0 = true then (some 1) else (some 0)
set_option maxHeartbeats 8000000 in
set_option maxRecDepth 100000 in
theorem impl_toInt.calls (a0 : Bool) (r : Int) (w : World) (h : impl_toInt.f a0 = some r) :
  Calls Tryz.prog 48 #[.bool a0] w fun e w' => e = .returned (.int .i64 r) ∧ Drawn0 w w' := by
 have H : (if a0 = true then (some 1) else (some 0)) = some r := h
 clear h
 by_cases c2 : a0 = true
 ·subst c2
  have H1 : (some 1) = some r := by rw [if_pos rfl] at H; exact H
  clear H
  have H := H1
  clear H1
  obtain rfl := Option.some.inj H
  go_enter Tryz.func48, Tryz.ntmps48
  go_wp2
  go_ret
  exact ⟨z67_, z73_⟩
 ·replace c2 := Bool.eq_false_iff.mpr c2
  subst c2
  have H1 : (some 0) = some r := by rw [if_neg (show ¬ (false = true) by decide)] at H; exact H
  clear H
  have H := H1
  clear H1
  obtain rfl := Option.some.inj H
  go_enter Tryz.func48, Tryz.ntmps48
  go_wp2
  go_ret
  exact ⟨z67_, z73_⟩

/-! ### impl_readForm: function 70 -/
mutual
def impl_readForm.l0 : Nat → List Int → List (S64) → Int → Int → Int → Int → List Int → List Int → List Int → Option (List Int)
 | 0, _, _, _, _, _, _, _, _, _ => none
 | k + 1, x5, x17, x18, x19, x200000, x200001, x200002, x200003, x200004 => if x19 < x18 then (if 0 ≤ x19 then (if x19 < (x17.length : Int) then ((impl_frontPlace.f x200000 ((rd_T64 x17 x19).f0) ((rd_T64 x17 x19).f1)).bind fun t208 => (if 0 ≤ t208 then (if t208 < (x200002.length : Int) then ((impl_backPlace.f x200000 ((rd_T64 x17 x19).f0) ((rd_T64 x17 x19).f1)).bind fun t210 => (if 0 ≤ t210 then (if t210 < (x200003.length : Int) then ((impl_downLeaf.f ((rd_T64 x17 x19).f0) ((rd_T64 x17 x19).f1) ((rd_T64 x17 x19).f2) ((rd_T64 x17 x19).f3)).bind fun t212 => (if t212 = true then (impl_readForm.j1 k x5 t208 (rd x200003 t210) (rd x200002 t208) x17 x18 x19 x200000 x200001 x200002 x200003 x200004 ((rd_T64 x17 x19).f0) ((rd_T64 x17 x19).f1) ((rd_T64 x17 x19).f2) ((rd_T64 x17 x19).f3)) else (impl_readForm.j1 k x5 t208 (rd x200002 t208) (rd x200003 t210) x17 x18 x19 x200000 x200001 x200002 x200003 x200004 ((rd_T64 x17 x19).f0) ((rd_T64 x17 x19).f1) ((rd_T64 x17 x19).f2) ((rd_T64 x17 x19).f3)))) else (none)) else (none))) else (none)) else (none))) else (none)) else (none)) else (some x5)
def impl_readForm.j1 : Nat → List Int → Int → Int → Int → List (S64) → Int → Int → Int → Int → List Int → List Int → List Int → Int → Int → Bool → Bool → Option (List Int)
 | 0, _, _, _, _, _, _, _, _, _, _, _, _, _, _, _, _ => none
 | k + 1, x5, x8, x9, x10, x17, x18, x19, x200000, x200001, x200002, x200003, x200004, x208000, x208001, x208002, x208003 => if 0 ≤ x8 then (if x8 < (x200004.length : Int) then ((impl_toInt.f x208003).bind fun t214 => (if (rd x200004 x8) = t214 then ((some (([x9, x10] : List Int) : List Int)).bind fun y215 => (if x5.length + y215.length < 17592186044416 then (impl_readForm.l0 k (x5 ++ y215) x17 x18 (wrap64 (x19 + 1)) x200000 x200001 x200002 x200003 x200004) else (none))) else ((some (([wrap64 (-x9), wrap64 (-x10)] : List Int) : List Int)).bind fun y221 => (if x5.length + y221.length < 17592186044416 then (impl_readForm.l0 k (x5 ++ y221) x17 x18 (wrap64 (x19 + 1)) x200000 x200001 x200002 x200003 x200004) else (none))))) else (none)) else (none)
end
def impl_readForm.f (k : Nat) (a0_0 : Int) (a0_1 : Int) (l0_2 : List Int) (l0_3 : List Int) (l0_4 : List Int) (a1 : ByteArray) : Option (List Int) := (impl_foldSheet.f k a0_0 a0_1 a1).bind fun t203 => (impl_readForm.l0 k (([] : List Int)) t203 (t203.length : Int) 0 a0_0 a0_1 l0_2 l0_3 l0_4)
theorem impl_readForm.mono_l : ∀ k, (∀ y0 y1 y2 y3 y4 y5 y6 y7 y8, LeO (impl_readForm.l0 k y0 y1 y2 y3 y4 y5 y6 y7 y8) (impl_readForm.l0 (k + 1) y0 y1 y2 y3 y4 y5 y6 y7 y8)) ∧ (∀ y0 y1 y2 y3 y4 y5 y6 y7 y8 y9 y10 y11 y12 y13 y14 y15, LeO (impl_readForm.j1 k y0 y1 y2 y3 y4 y5 y6 y7 y8 y9 y10 y11 y12 y13 y14 y15) (impl_readForm.j1 (k + 1) y0 y1 y2 y3 y4 y5 y6 y7 y8 y9 y10 y11 y12 y13 y14 y15))
 | 0 => ⟨fun _ _ _ _ _ _ _ _ _ r h => by simp [impl_readForm.l0] at h, fun _ _ _ _ _ _ _ _ _ _ _ _ _ _ _ _ r h => by simp [impl_readForm.j1] at h⟩
 | k + 1 => by
  obtain ⟨ih0, ih1⟩ := impl_readForm.mono_l k
  refine ⟨?_, ?_⟩
  ·intro y0 y1 y2 y3 y4 y5 y6 y7 y8
   unfold impl_readForm.l0
   repeat' first
   | (with_reducible exact ih0 _ _ _ _ _ _ _ _ _)
   | (with_reducible exact ih1 _ _ _ _ _ _ _ _ _ _ _ _ _ _ _ _)
   | (with_reducible exact impl_foldSheet.mono _ _ _ _)
   | (with_reducible exact LeO.refl _)
   | (with_reducible exact LeO.none _)
   | (with_reducible refine LeO.ite ?_ ?_)
   | (with_reducible refine LeO.bind ?_ (fun _ => ?_))
   | exact ih0 _ _ _ _ _ _ _ _ _
   | exact ih1 _ _ _ _ _ _ _ _ _ _ _ _ _ _ _ _
   | exact impl_foldSheet.mono _ _ _ _
   | exact LeO.none _
   | refine LeO.ite ?_ ?_
   | refine LeO.bind ?_ (fun _ => ?_)
  ·intro y0 y1 y2 y3 y4 y5 y6 y7 y8 y9 y10 y11 y12 y13 y14 y15
   unfold impl_readForm.j1
   repeat' first
   | (with_reducible exact ih0 _ _ _ _ _ _ _ _ _)
   | (with_reducible exact ih1 _ _ _ _ _ _ _ _ _ _ _ _ _ _ _ _)
   | (with_reducible exact impl_foldSheet.mono _ _ _ _)
   | (with_reducible exact LeO.refl _)
   | (with_reducible exact LeO.none _)
   | (with_reducible refine LeO.ite ?_ ?_)
   | (with_reducible refine LeO.bind ?_ (fun _ => ?_))
   | exact ih0 _ _ _ _ _ _ _ _ _
   | exact ih1 _ _ _ _ _ _ _ _ _ _ _ _ _ _ _ _
   | exact impl_foldSheet.mono _ _ _ _
   | exact LeO.none _
   | refine LeO.ite ?_ ?_
   | refine LeO.bind ?_ (fun _ => ?_)
theorem impl_readForm.mono : ∀ a0 a1 a2 a3 a4 a5 k, LeO (impl_readForm.f k a0 a1 a2 a3 a4 a5) (impl_readForm.f (k + 1) a0 a1 a2 a3 a4 a5) := by
 intro a0 a1 a2 a3 a4 a5 k
 obtain ⟨ih0, ih1⟩ := impl_readForm.mono_l k
 unfold impl_readForm.f
 repeat' first
   | (with_reducible exact ih0 _ _ _ _ _ _ _ _ _)
   | (with_reducible exact ih1 _ _ _ _ _ _ _ _ _ _ _ _ _ _ _ _)
   | (with_reducible exact impl_foldSheet.mono _ _ _ _)
   | (with_reducible exact LeO.refl _)
   | (with_reducible exact LeO.none _)
   | (with_reducible refine LeO.ite ?_ ?_)
   | (with_reducible refine LeO.bind ?_ (fun _ => ?_))
   | exact ih0 _ _ _ _ _ _ _ _ _
   | exact ih1 _ _ _ _ _ _ _ _ _ _ _ _ _ _ _ _
   | exact impl_foldSheet.mono _ _ _ _
   | exact LeO.none _
   | refine LeO.ite ?_ ?_
   | refine LeO.bind ?_ (fun _ => ?_)
set_option maxHeartbeats 8000000 in
set_option maxRecDepth 100000 in
theorem impl_readForm.calls (k : Nat) (a0_0 : Int) (a0_1 : Int) (A0_2 : Option Addr) (c0_2 : Nat) (l0_2 : List Int) (A0_3 : Option Addr) (c0_3 : Nat) (l0_3 : List Int) (A0_4 : Option Addr) (c0_4 : Nat) (l0_4 : List Int) (a1 : ByteArray) (r : List Int) (w : World) (hr0_2 : Kd.C (Kd.int .i64) w A0_2 l0_2.length l0_2) (hc0_2 : l0_2.length ≤ c0_2) (hr0_3 : Kd.C (Kd.int .i64) w A0_3 l0_3.length l0_3) (hc0_3 : l0_3.length ≤ c0_3) (hr0_4 : Kd.C (Kd.int .i64) w A0_4 l0_4.length l0_4) (hc0_4 : l0_4.length ≤ c0_4) (h : impl_readForm.f k a0_0 a0_1 l0_2 l0_3 l0_4 a1 = some r) :
  Calls Tryz.prog 70 #[.agg #[.int .i64 a0_0, .int .i64 a0_1, .slice A0_2 l0_2.length c0_2, .slice A0_3 l0_3.length c0_3, .slice A0_4 l0_4.length c0_4], .string a1] w fun e w' => ∃ v0_ : Value, e = .returned (v0_) ∧ Kd.R (Kd.int .i64) 2 w' w.heap.size (fun _ => True) v0_ r ∧ Below w.heap.size w w' := by
 have hu28 := Tryz.underlying28
 have hu64 := Tryz.underlying64
 have HR0_2 := Aside0.mk hr0_2
 have HC0_2 := Aside0.mk hc0_2
 clear hr0_2 hc0_2
 have HR0_3 := Aside0.mk hr0_3
 have HC0_3 := Aside0.mk hc0_3
 clear hr0_3 hc0_3
 have HR0_4 := Aside0.mk hr0_4
 have HC0_4 := Aside0.mk hc0_4
 clear hr0_4 hc0_4
 have HB := a_ (Below.refl w.heap.size w)
 have H : ((impl_foldSheet.f k a0_0 a0_1 a1).bind fun t203 => (impl_readForm.l0 k (([] : List Int)) t203 (t203.length : Int) 0 a0_0 a0_1 l0_2 l0_3 l0_4)) = some r := h
 clear h
 obtain ⟨y200, hy200⟩ : ∃ y_ : List Int, y_ = (([] : List Int)) := ⟨_, rfl⟩
 replace H : ((impl_foldSheet.f k a0_0 a0_1 a1).bind fun t203 => (impl_readForm.l0 k y200 t203 (t203.length : Int) 0 a0_0 a0_1 l0_2 l0_3 l0_4)) = some r := rh_ hy200 H
 have Ny200 := Aside0.mk hy200
 clear hy200
 replace H := Option.bind_eq_some_iff.mp H
 obtain ⟨t203, A30, H⟩ := H
 replace H : (impl_readForm.l0 k y200 t203 (t203.length : Int) 0 a0_0 a0_1 l0_2 l0_3 l0_4) = some r := H
 have A3 := Aside0.mk A30
 clear A30
 have H' := Aside0.mk H
 clear H
 go_enter Tryz.func70, Tryz.ntmps70
 go_wp2_with (first | ((with_reducible refine gate_dst (N := 2) rfl ?_); refine box_event ?hg (N := 2) ?hd (cs := #[.int .i64 a0_0, .int .i64 a0_1, .slice A0_2 l0_2.length c0_2, .slice A0_3 l0_3.length c0_3, .slice A0_4 l0_4.length c0_4]) (t := 28) ?hr ?_; (case hd => rfl); (case hg => rfl); (case hr => first | (go_simp; done) | (go_simp; rfl)); intro gb199 hg w4 hbox hb; have BK199 := a_ (hbox); have GW199 := a_ ((z32_ : w.heap.size ≤ gb199)); have GE199 := a_ ((z32_ : w.heap.size ≤ gb199)); replace HB := a_ (below_step z33_ hb); clear hb hbox hg) | ((with_reducible refine gate_dst (N := 11) rfl ?_); refine Kd.R_lit (Kd.int .i64) _ 2 ?hg (N := 11) ?hd (xs := ([] : List Int)) (inner := []) (ok := fun _ => True) (okp := fun _ => True) ?hr ?hp (fun _ hk => hk) trivial (Below.refl _ _) (Nat.le_refl _) (by simp) ?_; (case hd => rfl); (case hg => rfl); (case hr => first | (go_simp; done) | (go_simp; rfl)); (case hp => exact (Reps.none _ _)); intro v201 w5 ho6 hb hg_ hnew_; clear hg_ hnew_; (first | rw [← Ny200.out] at ho6 | (simp only [Int.reduceToNat] at ho6; rw [← Ny200.out] at ho6)); have HO202 := a_ (Kd.R_lower ho6 (below_size z23_)); replace BK199 := a_ (blk_below (g := gb199) (rb_ BK199.out) hb); replace HB := a_ (below_step z23_ hb); clear hb ho6; obtain ⟨hcz7_0, hcz7_1, hcz7_2, hcz7_3, hcz7_4, hfz7_0, hfz7_1, hfz7_2, hfz7_3, hfz7_4⟩ := cz5_ (w := w5) BK199.out) | (go_at_call 44; (with_reducible refine (impl_foldSheet.calls k a0_0 a0_1 a1 t203 _ A3.out).mono ?_); rintro e w8 ⟨v204, rfl, ho0, hb⟩; replace HO202 := a_ (Kd.R_below (ra_ HO202.out) hb); have HO205 := a_ (Kd.R_lower ho0 (below_size z23_)); replace BK199 := a_ (blk_below (g := gb199) (rb_ BK199.out) hb); replace HB := a_ (below_step z23_ hb); (try clear hb); (try clear hb2); (try clear hk); (try clear hi); (try clear ho0); obtain ⟨Ao9, co9, eo9⟩ := Kd.R_slice HO205.out; subst eo9))
 repeat (go_quiet (first | ((with_reducible refine gate_dst (N := 2) rfl ?_); refine box_event ?hg (N := 2) ?hd (cs := #[.int .i64 a0_0, .int .i64 a0_1, .slice A0_2 l0_2.length c0_2, .slice A0_3 l0_3.length c0_3, .slice A0_4 l0_4.length c0_4]) (t := 28) ?hr ?_; (case hd => rfl); (case hg => rfl); (case hr => first | (go_simp; done) | (go_simp; rfl)); intro gb199 hg w4 hbox hb; have BK199 := a_ (hbox); have GW199 := a_ ((z32_ : w.heap.size ≤ gb199)); have GE199 := a_ ((z32_ : w.heap.size ≤ gb199)); replace HB := a_ (below_step z33_ hb); clear hb hbox hg) | ((with_reducible refine gate_dst (N := 11) rfl ?_); refine Kd.R_lit (Kd.int .i64) _ 2 ?hg (N := 11) ?hd (xs := ([] : List Int)) (inner := []) (ok := fun _ => True) (okp := fun _ => True) ?hr ?hp (fun _ hk => hk) trivial (Below.refl _ _) (Nat.le_refl _) (by simp) ?_; (case hd => rfl); (case hg => rfl); (case hr => first | (go_simp; done) | (go_simp; rfl)); (case hp => exact (Reps.none _ _)); intro v201 w5 ho6 hb hg_ hnew_; clear hg_ hnew_; (first | rw [← Ny200.out] at ho6 | (simp only [Int.reduceToNat] at ho6; rw [← Ny200.out] at ho6)); have HO202 := a_ (Kd.R_lower ho6 (below_size z23_)); replace BK199 := a_ (blk_below (g := gb199) (rb_ BK199.out) hb); replace HB := a_ (below_step z23_ hb); clear hb ho6; obtain ⟨hcz7_0, hcz7_1, hcz7_2, hcz7_3, hcz7_4, hfz7_0, hfz7_1, hfz7_2, hfz7_3, hfz7_4⟩ := cz5_ (w := w5) BK199.out) | (go_at_call 44; (with_reducible refine (impl_foldSheet.calls k a0_0 a0_1 a1 t203 _ A3.out).mono ?_); rintro e w8 ⟨v204, rfl, ho0, hb⟩; replace HO202 := a_ (Kd.R_below (ra_ HO202.out) hb); have HO205 := a_ (Kd.R_lower ho0 (below_size z23_)); replace BK199 := a_ (blk_below (g := gb199) (rb_ BK199.out) hb); replace HB := a_ (below_step z23_ hb); (try clear hb); (try clear hb2); (try clear hk); (try clear hi); (try clear ho0); obtain ⟨Ao9, co9, eo9⟩ := Kd.R_slice HO205.out; subst eo9)); try go_wp2_with (first | ((with_reducible refine gate_dst (N := 2) rfl ?_); refine box_event ?hg (N := 2) ?hd (cs := #[.int .i64 a0_0, .int .i64 a0_1, .slice A0_2 l0_2.length c0_2, .slice A0_3 l0_3.length c0_3, .slice A0_4 l0_4.length c0_4]) (t := 28) ?hr ?_; (case hd => rfl); (case hg => rfl); (case hr => first | (go_simp; done) | (go_simp; rfl)); intro gb199 hg w4 hbox hb; have BK199 := a_ (hbox); have GW199 := a_ ((z32_ : w.heap.size ≤ gb199)); have GE199 := a_ ((z32_ : w.heap.size ≤ gb199)); replace HB := a_ (below_step z33_ hb); clear hb hbox hg) | ((with_reducible refine gate_dst (N := 11) rfl ?_); refine Kd.R_lit (Kd.int .i64) _ 2 ?hg (N := 11) ?hd (xs := ([] : List Int)) (inner := []) (ok := fun _ => True) (okp := fun _ => True) ?hr ?hp (fun _ hk => hk) trivial (Below.refl _ _) (Nat.le_refl _) (by simp) ?_; (case hd => rfl); (case hg => rfl); (case hr => first | (go_simp; done) | (go_simp; rfl)); (case hp => exact (Reps.none _ _)); intro v201 w5 ho6 hb hg_ hnew_; clear hg_ hnew_; (first | rw [← Ny200.out] at ho6 | (simp only [Int.reduceToNat] at ho6; rw [← Ny200.out] at ho6)); have HO202 := a_ (Kd.R_lower ho6 (below_size z23_)); replace BK199 := a_ (blk_below (g := gb199) (rb_ BK199.out) hb); replace HB := a_ (below_step z23_ hb); clear hb ho6; obtain ⟨hcz7_0, hcz7_1, hcz7_2, hcz7_3, hcz7_4, hfz7_0, hfz7_1, hfz7_2, hfz7_3, hfz7_4⟩ := cz5_ (w := w5) BK199.out) | (go_at_call 44; (with_reducible refine (impl_foldSheet.calls k a0_0 a0_1 a1 t203 _ A3.out).mono ?_); rintro e w8 ⟨v204, rfl, ho0, hb⟩; replace HO202 := a_ (Kd.R_below (ra_ HO202.out) hb); have HO205 := a_ (Kd.R_lower ho0 (below_size z23_)); replace BK199 := a_ (blk_below (g := gb199) (rb_ BK199.out) hb); replace HB := a_ (below_step z23_ hb); (try clear hb); (try clear hb2); (try clear hk); (try clear hi); (try clear ho0); obtain ⟨Ao9, co9, eo9⟩ := Kd.R_slice HO205.out; subst eo9)))
 go_loopg [5, 19] k (fun kq v5 v19 w' => ∃ (x5_1 : List Int) (x19_1 : Int), v19 = .int .i64 x19_1 ∧ Aside0 (impl_readForm.l0 kq x5_1 t203 (t203.length : Int) x19_1 a0_0 a0_1 l0_2 l0_3 l0_4 = some r) ∧ Aside0 (kq ≤ k) ∧ Aside0 (Kd.R (Kd.int .i64) 2 w' w.heap.size (fun _ => True) v5 x5_1) ∧ Aside0 (Kd.R k64 64 w' w.heap.size (fun _ => True) (.slice Ao9 t203.length co9) t203) ∧ Aside0 (w'.heap[gb199]? = some (.cells #[.int .i64 a0_0, .int .i64 a0_1, (.slice A0_2 l0_2.length c0_2), (.slice A0_3 l0_3.length c0_3), (.slice A0_4 l0_4.length c0_4)] 28 (0, 0))) ∧ Aside0 (Below w.heap.size w w'))
 case atStart => exact ⟨(y200), (0), z78_, H', ⟨Nat.le_refl _⟩, ⟨by (with_reducible repeat (first | apply Kd.R_alloc | apply Kd.R_drewN | apply Kd.R_drew)); exact HO202.out⟩, ⟨by (with_reducible repeat (first | apply Kd.R_alloc | apply Kd.R_drewN | apply Kd.R_drew)); exact HO205.out⟩, ⟨z56_⟩, ⟨z23_⟩⟩
 case round =>
  clear H'
  try clear hcz7_0 hcz7_1 hcz7_2 hcz7_3 hcz7_4; try clear hfz7_0 hfz7_1 hfz7_2 hfz7_3 hfz7_4
  obtain ⟨x5_1, x19_1, rfl, HA, HK1, HO_5, HO_17, BK199, HB⟩ := hrel
  cases gk with
  | zero => exact absurd HA.out (by simp [impl_readForm.l0])
  | succ k1 =>
   have H := HA.out
   clear HA
   simp only [impl_readForm.l0] at H
   by_cases c10 : x19_1 < (t203.length : Int)
   ·rw [if_pos c10] at H
    have c10b0 : decide (x19_1 < (t203.length : Int)) = true := decide_eq_true c10
    clear c10
    by_cases c11 : 0 ≤ x19_1
    ·rw [if_pos c11] at H
     have c11b0 : decide (0 ≤ x19_1) = true := decide_eq_true c11
     clear c11
     by_cases c12 : x19_1 < (t203.length : Int)
     ·rw [if_pos c12] at H
      have c12b0 : decide (x19_1 < (t203.length : Int)) = true := decide_eq_true c12
      clear c12
      replace H := Option.bind_eq_some_iff.mp H
      obtain ⟨t208, A130, H⟩ := H
      replace H : (if 0 ≤ t208 then (if t208 < (l0_2.length : Int) then ((impl_backPlace.f a0_0 ((rd_T64 t203 x19_1).f0) ((rd_T64 t203 x19_1).f1)).bind fun t210 => (if 0 ≤ t210 then (if t210 < (l0_3.length : Int) then ((impl_downLeaf.f ((rd_T64 t203 x19_1).f0) ((rd_T64 t203 x19_1).f1) ((rd_T64 t203 x19_1).f2) ((rd_T64 t203 x19_1).f3)).bind fun t212 => (if t212 = true then (impl_readForm.j1 k1 x5_1 t208 (rd l0_3 t210) (rd l0_2 t208) t203 (t203.length : Int) x19_1 a0_0 a0_1 l0_2 l0_3 l0_4 ((rd_T64 t203 x19_1).f0) ((rd_T64 t203 x19_1).f1) ((rd_T64 t203 x19_1).f2) ((rd_T64 t203 x19_1).f3)) else (impl_readForm.j1 k1 x5_1 t208 (rd l0_2 t208) (rd l0_3 t210) t203 (t203.length : Int) x19_1 a0_0 a0_1 l0_2 l0_3 l0_4 ((rd_T64 t203 x19_1).f0) ((rd_T64 t203 x19_1).f1) ((rd_T64 t203 x19_1).f2) ((rd_T64 t203 x19_1).f3)))) else (none)) else (none))) else (none)) else (none)) = some r := H
      have A13 := Aside0.mk A130
      clear A130
      by_cases c14 : 0 ≤ t208
      ·rw [if_pos c14] at H
       have c14b0 : decide (0 ≤ t208) = true := decide_eq_true c14
       clear c14
       by_cases c15 : t208 < (l0_2.length : Int)
       ·rw [if_pos c15] at H
        have c15b0 : decide (t208 < (l0_2.length : Int)) = true := decide_eq_true c15
        clear c15
        replace H := Option.bind_eq_some_iff.mp H
        obtain ⟨t210, A160, H⟩ := H
        replace H : (if 0 ≤ t210 then (if t210 < (l0_3.length : Int) then ((impl_downLeaf.f ((rd_T64 t203 x19_1).f0) ((rd_T64 t203 x19_1).f1) ((rd_T64 t203 x19_1).f2) ((rd_T64 t203 x19_1).f3)).bind fun t212 => (if t212 = true then (impl_readForm.j1 k1 x5_1 t208 (rd l0_3 t210) (rd l0_2 t208) t203 (t203.length : Int) x19_1 a0_0 a0_1 l0_2 l0_3 l0_4 ((rd_T64 t203 x19_1).f0) ((rd_T64 t203 x19_1).f1) ((rd_T64 t203 x19_1).f2) ((rd_T64 t203 x19_1).f3)) else (impl_readForm.j1 k1 x5_1 t208 (rd l0_2 t208) (rd l0_3 t210) t203 (t203.length : Int) x19_1 a0_0 a0_1 l0_2 l0_3 l0_4 ((rd_T64 t203 x19_1).f0) ((rd_T64 t203 x19_1).f1) ((rd_T64 t203 x19_1).f2) ((rd_T64 t203 x19_1).f3)))) else (none)) else (none)) = some r := H
        have A16 := Aside0.mk A160
        clear A160
        by_cases c17 : 0 ≤ t210
        ·rw [if_pos c17] at H
         have c17b0 : decide (0 ≤ t210) = true := decide_eq_true c17
         clear c17
         by_cases c18 : t210 < (l0_3.length : Int)
         ·rw [if_pos c18] at H
          have c18b0 : decide (t210 < (l0_3.length : Int)) = true := decide_eq_true c18
          clear c18
          replace H := Option.bind_eq_some_iff.mp H
          obtain ⟨t212, A190, H⟩ := H
          replace H : (if t212 = true then (impl_readForm.j1 k1 x5_1 t208 (rd l0_3 t210) (rd l0_2 t208) t203 (t203.length : Int) x19_1 a0_0 a0_1 l0_2 l0_3 l0_4 ((rd_T64 t203 x19_1).f0) ((rd_T64 t203 x19_1).f1) ((rd_T64 t203 x19_1).f2) ((rd_T64 t203 x19_1).f3)) else (impl_readForm.j1 k1 x5_1 t208 (rd l0_2 t208) (rd l0_3 t210) t203 (t203.length : Int) x19_1 a0_0 a0_1 l0_2 l0_3 l0_4 ((rd_T64 t203 x19_1).f0) ((rd_T64 t203 x19_1).f1) ((rd_T64 t203 x19_1).f2) ((rd_T64 t203 x19_1).f3))) = some r := H
          have A19 := Aside0.mk A190
          clear A190
          have HC20 := Aside0.mk H
          clear H
          have p206 : 0 ≤ (x19_1 : Int) := of_decide_eq_true z77_
          have q206 : x19_1 < (t203.length : Int) := of_decide_eq_true z77_
          obtain ⟨ad206, e206, hx206_0, hx206_1, hx206_2, hx206_3⟩ := at_T64 (Kd.R_reads' HO_17.out).2.2 x19_1 p206 q206
          cases e206
          replace p206 := eq_true p206
          replace q206 := eq_true q206
          go_upto_if 47 with (first | ((with_reducible refine gate_dst (N := 7) rfl ?_); refine box_event ?hg (N := 7) ?hd (cs := #[.int .i64 0, .int .i64 0, .bool false, .bool false]) (t := 64) ?hr ?_; (case hd => rfl); (case hg => rfl); (case hr => first | (go_simp; done) | (go_simp; rfl)); intro gb207 hg w21 hbox hb; replace HO_5 := a_ (Kd.R_below (ra_ HO_5.out) hb); replace HO_17 := a_ (Kd.R_below (Kd.R_elderB (ra_ HO_17.out) gb207 (Nat.le_of_eq hg.symm)) hb); have BK207 := a_ (hbox); have GW207 := a_ ((z11_ : w.heap.size ≤ gb207)); have GE207 := a_ ((z11_ : w.heap.size ≤ gb207)); replace HB := a_ (below_step z23_ hb); have NB199_207 := a_ ((by rw [hg]; exact Nat.ne_of_lt (blk_lt (g := gb199) (rb_ BK199.out)) : gb199 ≠ gb207)); have NB207_199 := a_ ((by rw [hg]; exact Nat.ne_of_gt (blk_lt (g := gb199) (rb_ BK199.out)) : gb207 ≠ gb199)); replace BK199 := a_ (blk_below (g := gb199) (rb_ BK199.out) hb); clear hb hbox hg; have hnb22 := NB207_199.out; have hnc22 := NB199_207.out; obtain ⟨hcz23_0, hcz23_1, hcz23_2, hcz23_3, hfz23_0, hfz23_1, hfz23_2, hfz23_3⟩ := cz4_ (w := w21) BK207.out; obtain ⟨hcz24_0, hcz24_1, hcz24_2, hcz24_3, hcz24_4, hfz24_0, hfz24_1, hfz24_2, hfz24_3, hfz24_4⟩ := cz5_ (w := w21) BK199.out) | (go_at_call 46; (with_reducible refine (impl_frontPlace.calls a0_0 ((rd_T64 t203 x19_1).f0) ((rd_T64 t203 x19_1).f1) t208 _ A13.out).mono ?_); rintro e w' ⟨rfl, ⟨nd, rfl⟩⟩; (try first | exact ⟨rfl, _, World.drewN_drewN _ _ _⟩ | exact ⟨rfl, _, Eq.trans (World.drewN_drewN _ _ _) (congrArg (World.drewN _) (Nat.add_assoc _ _ _))⟩); have p209 : 0 ≤ (t208 : Int) := of_decide_eq_true z77_; have q209 : t208 < (l0_2.length : Int) := of_decide_eq_true z77_; obtain ⟨ad209, e209, hx209_0⟩ := Kd.at_int HR0_2.out t208 p209 q209; cases e209; have hn209_0 : ad209.block ≠ gb207 := Nat.ne_of_lt (Nat.lt_of_lt_of_le z68_ GW207.out); have hn209_1 : ad209.block ≠ gb207 := Nat.ne_of_lt (Nat.lt_of_lt_of_le z68_ GW207.out); have hn209_2 : ad209.block ≠ gb207 := Nat.ne_of_lt (Nat.lt_of_lt_of_le z68_ GW207.out); have hn209_3 : ad209.block ≠ gb207 := Nat.ne_of_lt (Nat.lt_of_lt_of_le z68_ GW207.out); replace hx209_0 := (HB.out.cell (World.block_lt_of_cell? _ _ hx209_0)).trans hx209_0; replace hx209_0 := (cell_far (p := ⟨gb207, 0, none⟩) z39_ (.int .i64 ((rd_T64 t203 x19_1).f0))).trans hx209_0; replace hx209_0 := (cell_far (p := ⟨gb207, 1, none⟩) z40_ (.int .i64 ((rd_T64 t203 x19_1).f1))).trans hx209_0; replace hx209_0 := (cell_far (p := ⟨gb207, 2, none⟩) z41_ (.bool ((rd_T64 t203 x19_1).f2))).trans hx209_0; replace hx209_0 := (cell_far (p := ⟨gb207, 3, none⟩) z42_ (.bool ((rd_T64 t203 x19_1).f3))).trans hx209_0; (try have hy209_0 := fun (n_ : Nat) => (show ((((((w21.drewN n_).setCell ⟨gb207, 0, none⟩ (.int .i64 ((rd_T64 t203 x19_1).f0))).setCell ⟨gb207, 1, none⟩ (.int .i64 ((rd_T64 t203 x19_1).f1))).setCell ⟨gb207, 2, none⟩ (.bool ((rd_T64 t203 x19_1).f2))).setCell ⟨gb207, 3, none⟩ (.bool ((rd_T64 t203 x19_1).f3)))).cell? _ = some _ from hx209_0)); clear hn209_0; clear hn209_1; clear hn209_2; clear hn209_3; replace p209 := eq_true p209; replace q209 := eq_true q209) | (go_at_call 47; (with_reducible refine (impl_backPlace.calls a0_0 ((rd_T64 t203 x19_1).f0) ((rd_T64 t203 x19_1).f1) t210 _ A16.out).mono ?_); rintro e w' ⟨rfl, ⟨nd, rfl⟩⟩; (try first | exact ⟨rfl, _, World.drewN_drewN _ _ _⟩ | exact ⟨rfl, _, Eq.trans (World.drewN_drewN _ _ _) (congrArg (World.drewN _) (Nat.add_assoc _ _ _))⟩); have p211 : 0 ≤ (t210 : Int) := of_decide_eq_true z77_; have q211 : t210 < (l0_3.length : Int) := of_decide_eq_true z77_; obtain ⟨ad211, e211, hx211_0⟩ := Kd.at_int HR0_3.out t210 p211 q211; cases e211; have hn211_0 : ad211.block ≠ gb207 := Nat.ne_of_lt (Nat.lt_of_lt_of_le z69_ GW207.out); have hn211_1 : ad211.block ≠ gb207 := Nat.ne_of_lt (Nat.lt_of_lt_of_le z69_ GW207.out); have hn211_2 : ad211.block ≠ gb207 := Nat.ne_of_lt (Nat.lt_of_lt_of_le z69_ GW207.out); have hn211_3 : ad211.block ≠ gb207 := Nat.ne_of_lt (Nat.lt_of_lt_of_le z69_ GW207.out); replace hx211_0 := (HB.out.cell (World.block_lt_of_cell? _ _ hx211_0)).trans hx211_0; replace hx211_0 := (cell_far (p := ⟨gb207, 0, none⟩) z43_ (.int .i64 ((rd_T64 t203 x19_1).f0))).trans hx211_0; replace hx211_0 := (cell_far (p := ⟨gb207, 1, none⟩) z44_ (.int .i64 ((rd_T64 t203 x19_1).f1))).trans hx211_0; replace hx211_0 := (cell_far (p := ⟨gb207, 2, none⟩) z45_ (.bool ((rd_T64 t203 x19_1).f2))).trans hx211_0; replace hx211_0 := (cell_far (p := ⟨gb207, 3, none⟩) z46_ (.bool ((rd_T64 t203 x19_1).f3))).trans hx211_0; (try have hy211_0 := fun (n_ : Nat) => (show ((((((w21.drewN n_).setCell ⟨gb207, 0, none⟩ (.int .i64 ((rd_T64 t203 x19_1).f0))).setCell ⟨gb207, 1, none⟩ (.int .i64 ((rd_T64 t203 x19_1).f1))).setCell ⟨gb207, 2, none⟩ (.bool ((rd_T64 t203 x19_1).f2))).setCell ⟨gb207, 3, none⟩ (.bool ((rd_T64 t203 x19_1).f3)))).cell? _ = some _ from hx211_0)); clear hn211_0; clear hn211_1; clear hn211_2; clear hn211_3; replace p211 := eq_true p211; replace q211 := eq_true q211) | (go_at_call 45; (with_reducible refine (impl_downLeaf.calls ((rd_T64 t203 x19_1).f0) ((rd_T64 t203 x19_1).f1) ((rd_T64 t203 x19_1).f2) ((rd_T64 t203 x19_1).f3) t212 _ A19.out).mono ?_); rintro e w25 ⟨rfl, hb⟩; replace HO_5 := a_ (Kd.R_below (rc_ (h := by exact Kd.R_mono (rt4_ HO_5.out BK207.out) (fun _ h_ => h_.1))) hb); replace HO_17 := a_ (Kd.R_below (rc_ (h := by exact Kd.R_mono (Kd.R_far (p := ⟨gb207, 3, none⟩) (Kd.R_far (p := ⟨gb207, 2, none⟩) (Kd.R_far (p := ⟨gb207, 1, none⟩) (Kd.R_far (p := ⟨gb207, 0, none⟩) (Kd.R_mono HO_17.out (fun k_ hk => (⟨hk, hk.2⟩ : _ ∧ k_ ≠ gb207))) (fun _ hk => hk.2) (.int .i64 ((rd_T64 t203 x19_1).f0))) (fun _ hk => hk.2) (.int .i64 ((rd_T64 t203 x19_1).f1))) (fun _ hk => hk.2) (.bool ((rd_T64 t203 x19_1).f2))) (fun _ hk => hk.2) (.bool ((rd_T64 t203 x19_1).f3))) (fun _ h_ => h_.1))) hb); replace BK199 := a_ (blk_below (g := gb199) (o := .cells #[.int .i64 a0_0, .int .i64 a0_1, .slice (some ad209) l0_2.length c0_2, .slice (some ad211) l0_3.length c0_3, .slice A0_4 l0_4.length c0_4] 28 (0, 0)) (rb2_ (h := by exact bf4_ NB199_207.out BK199.out)) hb); replace BK207 := a_ (blk_below (g := gb207) (o := .cells #[.int .i64 ((rd_T64 t203 x19_1).f0), .int .i64 ((rd_T64 t203 x19_1).f1), .bool ((rd_T64 t203 x19_1).f2), .bool ((rd_T64 t203 x19_1).f3)] 64 (0, 0)) (rb2_ (h := by exact bp4x4_ BK207.out)) hb); replace HB := a_ (below_step z7_ hb); (try clear hb); (try clear hb2); (try clear hk); (try clear hi)))
          repeat (go_quiet (first | ((with_reducible refine gate_dst (N := 7) rfl ?_); refine box_event ?hg (N := 7) ?hd (cs := #[.int .i64 0, .int .i64 0, .bool false, .bool false]) (t := 64) ?hr ?_; (case hd => rfl); (case hg => rfl); (case hr => first | (go_simp; done) | (go_simp; rfl)); intro gb207 hg w21 hbox hb; replace HO_5 := a_ (Kd.R_below (ra_ HO_5.out) hb); replace HO_17 := a_ (Kd.R_below (Kd.R_elderB (ra_ HO_17.out) gb207 (Nat.le_of_eq hg.symm)) hb); have BK207 := a_ (hbox); have GW207 := a_ ((z11_ : w.heap.size ≤ gb207)); have GE207 := a_ ((z11_ : w.heap.size ≤ gb207)); replace HB := a_ (below_step z23_ hb); have NB199_207 := a_ ((by rw [hg]; exact Nat.ne_of_lt (blk_lt (g := gb199) (rb_ BK199.out)) : gb199 ≠ gb207)); have NB207_199 := a_ ((by rw [hg]; exact Nat.ne_of_gt (blk_lt (g := gb199) (rb_ BK199.out)) : gb207 ≠ gb199)); replace BK199 := a_ (blk_below (g := gb199) (rb_ BK199.out) hb); clear hb hbox hg; have hnb22 := NB207_199.out; have hnc22 := NB199_207.out; obtain ⟨hcz23_0, hcz23_1, hcz23_2, hcz23_3, hfz23_0, hfz23_1, hfz23_2, hfz23_3⟩ := cz4_ (w := w21) BK207.out; obtain ⟨hcz24_0, hcz24_1, hcz24_2, hcz24_3, hcz24_4, hfz24_0, hfz24_1, hfz24_2, hfz24_3, hfz24_4⟩ := cz5_ (w := w21) BK199.out) | (go_at_call 46; (with_reducible refine (impl_frontPlace.calls a0_0 ((rd_T64 t203 x19_1).f0) ((rd_T64 t203 x19_1).f1) t208 _ A13.out).mono ?_); rintro e w' ⟨rfl, ⟨nd, rfl⟩⟩; (try first | exact ⟨rfl, _, World.drewN_drewN _ _ _⟩ | exact ⟨rfl, _, Eq.trans (World.drewN_drewN _ _ _) (congrArg (World.drewN _) (Nat.add_assoc _ _ _))⟩); have p209 : 0 ≤ (t208 : Int) := of_decide_eq_true z77_; have q209 : t208 < (l0_2.length : Int) := of_decide_eq_true z77_; obtain ⟨ad209, e209, hx209_0⟩ := Kd.at_int HR0_2.out t208 p209 q209; cases e209; have hn209_0 : ad209.block ≠ gb207 := Nat.ne_of_lt (Nat.lt_of_lt_of_le z68_ GW207.out); have hn209_1 : ad209.block ≠ gb207 := Nat.ne_of_lt (Nat.lt_of_lt_of_le z68_ GW207.out); have hn209_2 : ad209.block ≠ gb207 := Nat.ne_of_lt (Nat.lt_of_lt_of_le z68_ GW207.out); have hn209_3 : ad209.block ≠ gb207 := Nat.ne_of_lt (Nat.lt_of_lt_of_le z68_ GW207.out); replace hx209_0 := (HB.out.cell (World.block_lt_of_cell? _ _ hx209_0)).trans hx209_0; replace hx209_0 := (cell_far (p := ⟨gb207, 0, none⟩) z39_ (.int .i64 ((rd_T64 t203 x19_1).f0))).trans hx209_0; replace hx209_0 := (cell_far (p := ⟨gb207, 1, none⟩) z40_ (.int .i64 ((rd_T64 t203 x19_1).f1))).trans hx209_0; replace hx209_0 := (cell_far (p := ⟨gb207, 2, none⟩) z41_ (.bool ((rd_T64 t203 x19_1).f2))).trans hx209_0; replace hx209_0 := (cell_far (p := ⟨gb207, 3, none⟩) z42_ (.bool ((rd_T64 t203 x19_1).f3))).trans hx209_0; (try have hy209_0 := fun (n_ : Nat) => (show ((((((w21.drewN n_).setCell ⟨gb207, 0, none⟩ (.int .i64 ((rd_T64 t203 x19_1).f0))).setCell ⟨gb207, 1, none⟩ (.int .i64 ((rd_T64 t203 x19_1).f1))).setCell ⟨gb207, 2, none⟩ (.bool ((rd_T64 t203 x19_1).f2))).setCell ⟨gb207, 3, none⟩ (.bool ((rd_T64 t203 x19_1).f3)))).cell? _ = some _ from hx209_0)); clear hn209_0; clear hn209_1; clear hn209_2; clear hn209_3; replace p209 := eq_true p209; replace q209 := eq_true q209) | (go_at_call 47; (with_reducible refine (impl_backPlace.calls a0_0 ((rd_T64 t203 x19_1).f0) ((rd_T64 t203 x19_1).f1) t210 _ A16.out).mono ?_); rintro e w' ⟨rfl, ⟨nd, rfl⟩⟩; (try first | exact ⟨rfl, _, World.drewN_drewN _ _ _⟩ | exact ⟨rfl, _, Eq.trans (World.drewN_drewN _ _ _) (congrArg (World.drewN _) (Nat.add_assoc _ _ _))⟩); have p211 : 0 ≤ (t210 : Int) := of_decide_eq_true z77_; have q211 : t210 < (l0_3.length : Int) := of_decide_eq_true z77_; obtain ⟨ad211, e211, hx211_0⟩ := Kd.at_int HR0_3.out t210 p211 q211; cases e211; have hn211_0 : ad211.block ≠ gb207 := Nat.ne_of_lt (Nat.lt_of_lt_of_le z69_ GW207.out); have hn211_1 : ad211.block ≠ gb207 := Nat.ne_of_lt (Nat.lt_of_lt_of_le z69_ GW207.out); have hn211_2 : ad211.block ≠ gb207 := Nat.ne_of_lt (Nat.lt_of_lt_of_le z69_ GW207.out); have hn211_3 : ad211.block ≠ gb207 := Nat.ne_of_lt (Nat.lt_of_lt_of_le z69_ GW207.out); replace hx211_0 := (HB.out.cell (World.block_lt_of_cell? _ _ hx211_0)).trans hx211_0; replace hx211_0 := (cell_far (p := ⟨gb207, 0, none⟩) z43_ (.int .i64 ((rd_T64 t203 x19_1).f0))).trans hx211_0; replace hx211_0 := (cell_far (p := ⟨gb207, 1, none⟩) z44_ (.int .i64 ((rd_T64 t203 x19_1).f1))).trans hx211_0; replace hx211_0 := (cell_far (p := ⟨gb207, 2, none⟩) z45_ (.bool ((rd_T64 t203 x19_1).f2))).trans hx211_0; replace hx211_0 := (cell_far (p := ⟨gb207, 3, none⟩) z46_ (.bool ((rd_T64 t203 x19_1).f3))).trans hx211_0; (try have hy211_0 := fun (n_ : Nat) => (show ((((((w21.drewN n_).setCell ⟨gb207, 0, none⟩ (.int .i64 ((rd_T64 t203 x19_1).f0))).setCell ⟨gb207, 1, none⟩ (.int .i64 ((rd_T64 t203 x19_1).f1))).setCell ⟨gb207, 2, none⟩ (.bool ((rd_T64 t203 x19_1).f2))).setCell ⟨gb207, 3, none⟩ (.bool ((rd_T64 t203 x19_1).f3)))).cell? _ = some _ from hx211_0)); clear hn211_0; clear hn211_1; clear hn211_2; clear hn211_3; replace p211 := eq_true p211; replace q211 := eq_true q211) | (go_at_call 45; (with_reducible refine (impl_downLeaf.calls ((rd_T64 t203 x19_1).f0) ((rd_T64 t203 x19_1).f1) ((rd_T64 t203 x19_1).f2) ((rd_T64 t203 x19_1).f3) t212 _ A19.out).mono ?_); rintro e w25 ⟨rfl, hb⟩; replace HO_5 := a_ (Kd.R_below (rc_ (h := by exact Kd.R_mono (rt4_ HO_5.out BK207.out) (fun _ h_ => h_.1))) hb); replace HO_17 := a_ (Kd.R_below (rc_ (h := by exact Kd.R_mono (Kd.R_far (p := ⟨gb207, 3, none⟩) (Kd.R_far (p := ⟨gb207, 2, none⟩) (Kd.R_far (p := ⟨gb207, 1, none⟩) (Kd.R_far (p := ⟨gb207, 0, none⟩) (Kd.R_mono HO_17.out (fun k_ hk => (⟨hk, hk.2⟩ : _ ∧ k_ ≠ gb207))) (fun _ hk => hk.2) (.int .i64 ((rd_T64 t203 x19_1).f0))) (fun _ hk => hk.2) (.int .i64 ((rd_T64 t203 x19_1).f1))) (fun _ hk => hk.2) (.bool ((rd_T64 t203 x19_1).f2))) (fun _ hk => hk.2) (.bool ((rd_T64 t203 x19_1).f3))) (fun _ h_ => h_.1))) hb); replace BK199 := a_ (blk_below (g := gb199) (o := .cells #[.int .i64 a0_0, .int .i64 a0_1, .slice (some ad209) l0_2.length c0_2, .slice (some ad211) l0_3.length c0_3, .slice A0_4 l0_4.length c0_4] 28 (0, 0)) (rb2_ (h := by exact bf4_ NB199_207.out BK199.out)) hb); replace BK207 := a_ (blk_below (g := gb207) (o := .cells #[.int .i64 ((rd_T64 t203 x19_1).f0), .int .i64 ((rd_T64 t203 x19_1).f1), .bool ((rd_T64 t203 x19_1).f2), .bool ((rd_T64 t203 x19_1).f3)] 64 (0, 0)) (rb2_ (h := by exact bp4x4_ BK207.out)) hb); replace HB := a_ (below_step z7_ hb); (try clear hb); (try clear hb2); (try clear hk); (try clear hi))); go_upto_if 47 with (first | ((with_reducible refine gate_dst (N := 7) rfl ?_); refine box_event ?hg (N := 7) ?hd (cs := #[.int .i64 0, .int .i64 0, .bool false, .bool false]) (t := 64) ?hr ?_; (case hd => rfl); (case hg => rfl); (case hr => first | (go_simp; done) | (go_simp; rfl)); intro gb207 hg w21 hbox hb; replace HO_5 := a_ (Kd.R_below (ra_ HO_5.out) hb); replace HO_17 := a_ (Kd.R_below (Kd.R_elderB (ra_ HO_17.out) gb207 (Nat.le_of_eq hg.symm)) hb); have BK207 := a_ (hbox); have GW207 := a_ ((z11_ : w.heap.size ≤ gb207)); have GE207 := a_ ((z11_ : w.heap.size ≤ gb207)); replace HB := a_ (below_step z23_ hb); have NB199_207 := a_ ((by rw [hg]; exact Nat.ne_of_lt (blk_lt (g := gb199) (rb_ BK199.out)) : gb199 ≠ gb207)); have NB207_199 := a_ ((by rw [hg]; exact Nat.ne_of_gt (blk_lt (g := gb199) (rb_ BK199.out)) : gb207 ≠ gb199)); replace BK199 := a_ (blk_below (g := gb199) (rb_ BK199.out) hb); clear hb hbox hg; have hnb22 := NB207_199.out; have hnc22 := NB199_207.out; obtain ⟨hcz23_0, hcz23_1, hcz23_2, hcz23_3, hfz23_0, hfz23_1, hfz23_2, hfz23_3⟩ := cz4_ (w := w21) BK207.out; obtain ⟨hcz24_0, hcz24_1, hcz24_2, hcz24_3, hcz24_4, hfz24_0, hfz24_1, hfz24_2, hfz24_3, hfz24_4⟩ := cz5_ (w := w21) BK199.out) | (go_at_call 46; (with_reducible refine (impl_frontPlace.calls a0_0 ((rd_T64 t203 x19_1).f0) ((rd_T64 t203 x19_1).f1) t208 _ A13.out).mono ?_); rintro e w' ⟨rfl, ⟨nd, rfl⟩⟩; (try first | exact ⟨rfl, _, World.drewN_drewN _ _ _⟩ | exact ⟨rfl, _, Eq.trans (World.drewN_drewN _ _ _) (congrArg (World.drewN _) (Nat.add_assoc _ _ _))⟩); have p209 : 0 ≤ (t208 : Int) := of_decide_eq_true z77_; have q209 : t208 < (l0_2.length : Int) := of_decide_eq_true z77_; obtain ⟨ad209, e209, hx209_0⟩ := Kd.at_int HR0_2.out t208 p209 q209; cases e209; have hn209_0 : ad209.block ≠ gb207 := Nat.ne_of_lt (Nat.lt_of_lt_of_le z68_ GW207.out); have hn209_1 : ad209.block ≠ gb207 := Nat.ne_of_lt (Nat.lt_of_lt_of_le z68_ GW207.out); have hn209_2 : ad209.block ≠ gb207 := Nat.ne_of_lt (Nat.lt_of_lt_of_le z68_ GW207.out); have hn209_3 : ad209.block ≠ gb207 := Nat.ne_of_lt (Nat.lt_of_lt_of_le z68_ GW207.out); replace hx209_0 := (HB.out.cell (World.block_lt_of_cell? _ _ hx209_0)).trans hx209_0; replace hx209_0 := (cell_far (p := ⟨gb207, 0, none⟩) z39_ (.int .i64 ((rd_T64 t203 x19_1).f0))).trans hx209_0; replace hx209_0 := (cell_far (p := ⟨gb207, 1, none⟩) z40_ (.int .i64 ((rd_T64 t203 x19_1).f1))).trans hx209_0; replace hx209_0 := (cell_far (p := ⟨gb207, 2, none⟩) z41_ (.bool ((rd_T64 t203 x19_1).f2))).trans hx209_0; replace hx209_0 := (cell_far (p := ⟨gb207, 3, none⟩) z42_ (.bool ((rd_T64 t203 x19_1).f3))).trans hx209_0; (try have hy209_0 := fun (n_ : Nat) => (show ((((((w21.drewN n_).setCell ⟨gb207, 0, none⟩ (.int .i64 ((rd_T64 t203 x19_1).f0))).setCell ⟨gb207, 1, none⟩ (.int .i64 ((rd_T64 t203 x19_1).f1))).setCell ⟨gb207, 2, none⟩ (.bool ((rd_T64 t203 x19_1).f2))).setCell ⟨gb207, 3, none⟩ (.bool ((rd_T64 t203 x19_1).f3)))).cell? _ = some _ from hx209_0)); clear hn209_0; clear hn209_1; clear hn209_2; clear hn209_3; replace p209 := eq_true p209; replace q209 := eq_true q209) | (go_at_call 47; (with_reducible refine (impl_backPlace.calls a0_0 ((rd_T64 t203 x19_1).f0) ((rd_T64 t203 x19_1).f1) t210 _ A16.out).mono ?_); rintro e w' ⟨rfl, ⟨nd, rfl⟩⟩; (try first | exact ⟨rfl, _, World.drewN_drewN _ _ _⟩ | exact ⟨rfl, _, Eq.trans (World.drewN_drewN _ _ _) (congrArg (World.drewN _) (Nat.add_assoc _ _ _))⟩); have p211 : 0 ≤ (t210 : Int) := of_decide_eq_true z77_; have q211 : t210 < (l0_3.length : Int) := of_decide_eq_true z77_; obtain ⟨ad211, e211, hx211_0⟩ := Kd.at_int HR0_3.out t210 p211 q211; cases e211; have hn211_0 : ad211.block ≠ gb207 := Nat.ne_of_lt (Nat.lt_of_lt_of_le z69_ GW207.out); have hn211_1 : ad211.block ≠ gb207 := Nat.ne_of_lt (Nat.lt_of_lt_of_le z69_ GW207.out); have hn211_2 : ad211.block ≠ gb207 := Nat.ne_of_lt (Nat.lt_of_lt_of_le z69_ GW207.out); have hn211_3 : ad211.block ≠ gb207 := Nat.ne_of_lt (Nat.lt_of_lt_of_le z69_ GW207.out); replace hx211_0 := (HB.out.cell (World.block_lt_of_cell? _ _ hx211_0)).trans hx211_0; replace hx211_0 := (cell_far (p := ⟨gb207, 0, none⟩) z43_ (.int .i64 ((rd_T64 t203 x19_1).f0))).trans hx211_0; replace hx211_0 := (cell_far (p := ⟨gb207, 1, none⟩) z44_ (.int .i64 ((rd_T64 t203 x19_1).f1))).trans hx211_0; replace hx211_0 := (cell_far (p := ⟨gb207, 2, none⟩) z45_ (.bool ((rd_T64 t203 x19_1).f2))).trans hx211_0; replace hx211_0 := (cell_far (p := ⟨gb207, 3, none⟩) z46_ (.bool ((rd_T64 t203 x19_1).f3))).trans hx211_0; (try have hy211_0 := fun (n_ : Nat) => (show ((((((w21.drewN n_).setCell ⟨gb207, 0, none⟩ (.int .i64 ((rd_T64 t203 x19_1).f0))).setCell ⟨gb207, 1, none⟩ (.int .i64 ((rd_T64 t203 x19_1).f1))).setCell ⟨gb207, 2, none⟩ (.bool ((rd_T64 t203 x19_1).f2))).setCell ⟨gb207, 3, none⟩ (.bool ((rd_T64 t203 x19_1).f3)))).cell? _ = some _ from hx211_0)); clear hn211_0; clear hn211_1; clear hn211_2; clear hn211_3; replace p211 := eq_true p211; replace q211 := eq_true q211) | (go_at_call 45; (with_reducible refine (impl_downLeaf.calls ((rd_T64 t203 x19_1).f0) ((rd_T64 t203 x19_1).f1) ((rd_T64 t203 x19_1).f2) ((rd_T64 t203 x19_1).f3) t212 _ A19.out).mono ?_); rintro e w25 ⟨rfl, hb⟩; replace HO_5 := a_ (Kd.R_below (rc_ (h := by exact Kd.R_mono (rt4_ HO_5.out BK207.out) (fun _ h_ => h_.1))) hb); replace HO_17 := a_ (Kd.R_below (rc_ (h := by exact Kd.R_mono (Kd.R_far (p := ⟨gb207, 3, none⟩) (Kd.R_far (p := ⟨gb207, 2, none⟩) (Kd.R_far (p := ⟨gb207, 1, none⟩) (Kd.R_far (p := ⟨gb207, 0, none⟩) (Kd.R_mono HO_17.out (fun k_ hk => (⟨hk, hk.2⟩ : _ ∧ k_ ≠ gb207))) (fun _ hk => hk.2) (.int .i64 ((rd_T64 t203 x19_1).f0))) (fun _ hk => hk.2) (.int .i64 ((rd_T64 t203 x19_1).f1))) (fun _ hk => hk.2) (.bool ((rd_T64 t203 x19_1).f2))) (fun _ hk => hk.2) (.bool ((rd_T64 t203 x19_1).f3))) (fun _ h_ => h_.1))) hb); replace BK199 := a_ (blk_below (g := gb199) (o := .cells #[.int .i64 a0_0, .int .i64 a0_1, .slice (some ad209) l0_2.length c0_2, .slice (some ad211) l0_3.length c0_3, .slice A0_4 l0_4.length c0_4] 28 (0, 0)) (rb2_ (h := by exact bf4_ NB199_207.out BK199.out)) hb); replace BK207 := a_ (blk_below (g := gb207) (o := .cells #[.int .i64 ((rd_T64 t203 x19_1).f0), .int .i64 ((rd_T64 t203 x19_1).f1), .bool ((rd_T64 t203 x19_1).f2), .bool ((rd_T64 t203 x19_1).f3)] 64 (0, 0)) (rb2_ (h := by exact bp4x4_ BK207.out)) hb); replace HB := a_ (below_step z7_ hb); (try clear hb); (try clear hb2); (try clear hk); (try clear hi))))
          (try simp only [Act.put, List.setIfInBounds_toArray, List.set_cons_zero, List.set_cons_succ])
          go_cut [9, 10] (fun v9 v10 wc => ∃ (kq : Nat) (x9_19 : Int) (x10_19 : Int), v9 = .int .i64 x9_19 ∧ v10 = .int .i64 x10_19 ∧ Aside0 (impl_readForm.j1 kq x5_1 t208 x9_19 x10_19 t203 (t203.length : Int) x19_1 a0_0 a0_1 l0_2 l0_3 l0_4 ((rd_T64 t203 x19_1).f0) ((rd_T64 t203 x19_1).f1) ((rd_T64 t203 x19_1).f2) ((rd_T64 t203 x19_1).f3) = some r) ∧ Aside0 (kq ≤ k1) ∧ Aside0 (Kd.R (Kd.int .i64) 2 wc w.heap.size (fun _ => True) u5 x5_1) ∧ Aside0 (Kd.R k64 64 wc w.heap.size (fun k_ => k_ ≠ gb207) (.slice (some ad206) t203.length co9) t203) ∧ Aside0 (wc.heap[gb199]? = some (.cells #[.int .i64 a0_0, .int .i64 a0_1, (.slice (some ad209) l0_2.length c0_2), (.slice (some ad211) l0_3.length c0_3), (.slice A0_4 l0_4.length c0_4)] 28 (0, 0))) ∧ Aside0 (wc.heap[gb207]? = some (.cells #[.int .i64 ((rd_T64 t203 x19_1).f0), .int .i64 ((rd_T64 t203 x19_1).f1), .bool ((rd_T64 t203 x19_1).f2), .bool ((rd_T64 t203 x19_1).f3)] 64 (0, 0))) ∧ Aside0 (Below w.heap.size w wc))
          case first =>
           have H := HC20.out
           clear HC20
           by_cases c26 : t212 = true
           ·subst c26
            have H1 : (impl_readForm.j1 k1 x5_1 t208 (rd l0_3 t210) (rd l0_2 t208) t203 (t203.length : Int) x19_1 a0_0 a0_1 l0_2 l0_3 l0_4 ((rd_T64 t203 x19_1).f0) ((rd_T64 t203 x19_1).f1) ((rd_T64 t203 x19_1).f2) ((rd_T64 t203 x19_1).f3)) = some r := by rw [if_pos rfl] at H; exact H
            clear H
            have H := H1
            clear H1
            have H' := Aside0.mk H
            clear H
            go_wp2
            repeat (go_quiet (fail); try go_wp2)
            go_meet
            case rel => exact ⟨_, (rd l0_3 t210), (rd l0_2 t208), z78_, z78_, H', ⟨z76_⟩, ⟨z65_⟩, ⟨by (with_reducible repeat (first | apply Kd.R_alloc | apply Kd.R_drewN | apply Kd.R_drew)); exact Kd.R_mono HO_17.out (fun _ hk => hk.2)⟩, ⟨z56_⟩, ⟨by (with_reducible repeat (first | refine blk_drewN ?_ _ | refine blk_drew ?_ | refine blk_alloc ?_ _)); exact BK207.out⟩, ⟨z7_⟩⟩
           ·replace c26 := Bool.eq_false_iff.mpr c26
            subst c26
            have H1 : (impl_readForm.j1 k1 x5_1 t208 (rd l0_2 t208) (rd l0_3 t210) t203 (t203.length : Int) x19_1 a0_0 a0_1 l0_2 l0_3 l0_4 ((rd_T64 t203 x19_1).f0) ((rd_T64 t203 x19_1).f1) ((rd_T64 t203 x19_1).f2) ((rd_T64 t203 x19_1).f3)) = some r := by rw [if_neg (show ¬ (false = true) by decide)] at H; exact H
            clear H
            have H := H1
            clear H1
            have H' := Aside0.mk H
            clear H
            go_wp2
            repeat (go_quiet (fail); try go_wp2)
            go_meet
            case rel => exact ⟨_, (rd l0_2 t208), (rd l0_3 t210), z78_, z78_, H', ⟨z76_⟩, ⟨z65_⟩, ⟨by (with_reducible repeat (first | apply Kd.R_alloc | apply Kd.R_drewN | apply Kd.R_drew)); exact Kd.R_mono HO_17.out (fun _ hk => hk.2)⟩, ⟨z56_⟩, ⟨by (with_reducible repeat (first | refine blk_drewN ?_ _ | refine blk_drew ?_ | refine blk_alloc ?_ _)); exact BK207.out⟩, ⟨z7_⟩⟩
          case rest =>
           clear HC20; try clear c10b0; try clear c11b0; try clear c12b0; try clear c14b0; try clear c15b0; try clear c17b0; try clear c18b0; try clear hcz23_0 hcz23_1 hcz23_2 hcz23_3; try clear hcz24_0 hcz24_1 hcz24_2 hcz24_3 hcz24_4; try clear hfz23_0 hfz23_1 hfz23_2 hfz23_3; try clear hfz24_0 hfz24_1 hfz24_2 hfz24_3 hfz24_4; try clear hx206_0; try clear hx206_1; try clear hx206_2; try clear hx206_3; try clear hx209_0; try clear hx211_0; try clear p206; try clear p209; try clear p211; try clear q206; try clear q209; try clear q211
           obtain ⟨kq, x9_19, x10_19, rfl, rfl, HA, HJ19, HO_5, HO_17, BK199, BK207, HB⟩ := hcut
           cases kq with
           | zero => exact absurd HA.out (by simp [impl_readForm.j1])
           | succ kj19 =>
            have H := HA.out
            clear HA
            simp only [impl_readForm.j1] at H
            by_cases c27 : 0 ≤ t208
            ·rw [if_pos c27] at H
             have c27b0 : decide (0 ≤ t208) = true := decide_eq_true c27
             clear c27
             by_cases c28 : t208 < (l0_4.length : Int)
             ·rw [if_pos c28] at H
              have c28b0 : decide (t208 < (l0_4.length : Int)) = true := decide_eq_true c28
              clear c28
              replace H := Option.bind_eq_some_iff.mp H
              obtain ⟨t214, A290, H⟩ := H
              replace H : (if (rd l0_4 t208) = t214 then ((some (([x9_19, x10_19] : List Int) : List Int)).bind fun y215 => (if x5_1.length + y215.length < 17592186044416 then (impl_readForm.l0 kj19 (x5_1 ++ y215) t203 (t203.length : Int) (wrap64 (x19_1 + 1)) a0_0 a0_1 l0_2 l0_3 l0_4) else (none))) else ((some (([wrap64 (-x9_19), wrap64 (-x10_19)] : List Int) : List Int)).bind fun y221 => (if x5_1.length + y221.length < 17592186044416 then (impl_readForm.l0 kj19 (x5_1 ++ y221) t203 (t203.length : Int) (wrap64 (x19_1 + 1)) a0_0 a0_1 l0_2 l0_3 l0_4) else (none)))) = some r := H
              have A29 := Aside0.mk A290
              clear A290
              by_cases c30 : (rd l0_4 t208) = t214
              ·rw [if_pos c30] at H
               have c30b0 : ((rd l0_4 t208) == t214) = true := beq_iff_eq.mpr c30
               have c30b1 : ((rd l0_4 t208) != t214) = false := bne_eq_false_iff_eq.mpr c30
               clear c30
               obtain ⟨y215, hy215⟩ : ∃ y_ : List Int, y_ = (([x9_19, x10_19] : List Int)) := ⟨_, rfl⟩
               replace H : (if x5_1.length + y215.length < 17592186044416 then (impl_readForm.l0 kj19 (x5_1 ++ y215) t203 (t203.length : Int) (wrap64 (x19_1 + 1)) a0_0 a0_1 l0_2 l0_3 l0_4) else (none)) = some r := rh_ hy215 H
               have Ny215 := Aside0.mk hy215
               clear hy215
               by_cases c31 : x5_1.length + y215.length < 17592186044416
               ·rw [if_pos c31] at H
                have LMc31 := Aside0.mk c31
                clear c31
                obtain ⟨y218, hy218⟩ : ∃ y_ : List Int, y_ = (x5_1 ++ y215) := ⟨_, rfl⟩
                replace H : (impl_readForm.l0 kj19 y218 t203 (t203.length : Int) (wrap64 (x19_1 + 1)) a0_0 a0_1 l0_2 l0_3 l0_4) = some r := rh_ hy218 H
                have Ny218 := Aside0.mk hy218
                clear hy218
                have H' := Aside0.mk H
                clear H
                have hnb32 := NB199_207.out
                have hnc32 := NB207_199.out
                obtain ⟨hcz33_0, hcz33_1, hcz33_2, hcz33_3, hcz33_4, hfz33_0, hfz33_1, hfz33_2, hfz33_3, hfz33_4⟩ := cz5_ (w := wc) BK199.out
                have p213 : 0 ≤ (t208 : Int) := of_decide_eq_true z77_
                have q213 : t208 < (l0_4.length : Int) := of_decide_eq_true z77_
                obtain ⟨ad213, e213, hx213_0⟩ := Kd.at_int HR0_4.out t208 p213 q213
                cases e213
                replace hx213_0 := (HB.out.cell (World.block_lt_of_cell? _ _ hx213_0)).trans hx213_0
                replace p213 := eq_true p213
                replace q213 := eq_true q213
                obtain ⟨hcz34_0, hcz34_1, hcz34_2, hcz34_3, hfz34_0, hfz34_1, hfz34_2, hfz34_3⟩ := cz4_ (w := wc) BK207.out
                go_wp2_with (first | (go_at_call 48; (with_reducible refine (impl_toInt.calls ((rd_T64 t203 x19_1).f3) t214 _ A29.out).mono ?_); rintro e w' ⟨rfl, ⟨nd, rfl⟩⟩; (try first | exact ⟨rfl, _, World.drewN_drewN _ _ _⟩ | exact ⟨rfl, _, Eq.trans (World.drewN_drewN _ _ _) (congrArg (World.drewN _) (Nat.add_assoc _ _ _))⟩)) | ((with_reducible refine gate_dst (N := 66) rfl ?_); refine Kd.R_lit (Kd.int .i64) _ 2 ?hg (N := 66) ?hd (xs := ([x9_19, x10_19] : List Int)) (inner := [.int .i64 x9_19, .int .i64 x10_19]) (ok := fun _ => True) (okp := fun _ => True) ?hr ?hp (fun _ hk => hk) trivial (Below.refl _ _) (Nat.le_refl _) (by simp) ?_; (case hd => rfl); (case hg => rfl); (case hr => first | (go_simp; done) | (go_simp; rfl)); (case hp => exact (Reps.one (show Kd.M (Kd.int .i64) _ _ _ x9_19 [.int .i64 x9_19] from rfl) (Reps.one (show Kd.M (Kd.int .i64) _ _ _ x10_19 [.int .i64 x10_19] from rfl) (Reps.none _ _)))); intro v216 w35 ho36 hb hg_ hnew_; clear hg_ hnew_; (first | rw [← Ny215.out] at ho36 | (simp only [Int.reduceToNat] at ho36; rw [← Ny215.out] at ho36)); replace HO_17 := a_ (Kd.R_below (ra_ HO_17.out) hb); have HO217 := a_ (Kd.R_lower (Kd.R_new' ho36 (Kd.R_lt (ra_ HO_5.out))) (below_size z7_)); replace HO_5 := a_ (Kd.R_elder' (ra_ HO_5.out) (Kd.R_base ho36) hb); replace BK199 := a_ (blk_below (g := gb199) (rb_ BK199.out) hb); replace BK207 := a_ (blk_below (g := gb207) (rb_ BK207.out) hb); replace HB := a_ (below_step z7_ hb); clear hb ho36; obtain ⟨Ao38, co38, eo38⟩ := Kd.R_slice HO217.out; subst eo38) | ((with_reducible refine gate_builtin (b := .append) (xs := #[.tmp 63, .tmp 66]) rfl ?_); at_builtin; refine Kd.R_append_rows (Kd.int .i64) (w0 := w) w.heap.size rfl (.tmp 63) (.tmp 66) 22 2 (.int .i64 0) 8 rfl Tryz.underlying22 info2 rfl (by decide) (by omega) u5 x5_1 y215 _ _ _ (fun k_ => nb_ k_ Ao38 y215.length co38) (fun _ => False) rfl rfl ?aO ?aR (fun _ _ h => h) (fun _ h => h.elim) ?aF ?aB ?aS ?aL ?_; (case aR => repeat (first | exact (Kd.R_reads' HO217.out).2.2 | (with_reducible refine Kd.C_alloc ?_ _) | (with_reducible refine Kd.C_drewN ?_ _) | (with_reducible refine Kd.C_drew ?_))); (case aB => exact z7_); (case aF => exact (fun k_ hk => Kd.fresh' (Kd.R_lt (ra_ HO217.out)) k_ hk)); (case aO => exact (rc_ (h := by exact Kd.R_mono HO_5.out (fun _ hk => hk.2)))); (case aS => exact (below_size z7_)); (case aL => have := LMc31.out; omega); intro v219 w37 ho hb hg hat; rw [← Ny218.out] at ho; replace HO_17 := a_ (Kd.R_over' (ra_ HO_17.out) (Kd.R_typed (ra_ HO_5.out)) (by decide) hg); replace BK199 := a_ (blk_grown (g := gb199) (rb_ BK199.out) hg (Kd.R_ne HO_5.out BK199.out (by decide))); replace BK207 := a_ (blk_grown (g := gb207) (rb_ BK207.out) hg (Kd.R_ne HO_5.out BK207.out (by decide))); replace HO217 := a_ (Kd.R_after (ok := (fun _ => True)) (ra_ HO217.out) hg hat); replace HB := a_ (hb); have HO220 := a_ (ho); clear HO_5; clear ho hb hg hat))
                repeat (go_quiet (first | (go_at_call 48; (with_reducible refine (impl_toInt.calls ((rd_T64 t203 x19_1).f3) t214 _ A29.out).mono ?_); rintro e w' ⟨rfl, ⟨nd, rfl⟩⟩; (try first | exact ⟨rfl, _, World.drewN_drewN _ _ _⟩ | exact ⟨rfl, _, Eq.trans (World.drewN_drewN _ _ _) (congrArg (World.drewN _) (Nat.add_assoc _ _ _))⟩)) | ((with_reducible refine gate_dst (N := 66) rfl ?_); refine Kd.R_lit (Kd.int .i64) _ 2 ?hg (N := 66) ?hd (xs := ([x9_19, x10_19] : List Int)) (inner := [.int .i64 x9_19, .int .i64 x10_19]) (ok := fun _ => True) (okp := fun _ => True) ?hr ?hp (fun _ hk => hk) trivial (Below.refl _ _) (Nat.le_refl _) (by simp) ?_; (case hd => rfl); (case hg => rfl); (case hr => first | (go_simp; done) | (go_simp; rfl)); (case hp => exact (Reps.one (show Kd.M (Kd.int .i64) _ _ _ x9_19 [.int .i64 x9_19] from rfl) (Reps.one (show Kd.M (Kd.int .i64) _ _ _ x10_19 [.int .i64 x10_19] from rfl) (Reps.none _ _)))); intro v216 w35 ho36 hb hg_ hnew_; clear hg_ hnew_; (first | rw [← Ny215.out] at ho36 | (simp only [Int.reduceToNat] at ho36; rw [← Ny215.out] at ho36)); replace HO_17 := a_ (Kd.R_below (ra_ HO_17.out) hb); have HO217 := a_ (Kd.R_lower (Kd.R_new' ho36 (Kd.R_lt (ra_ HO_5.out))) (below_size z7_)); replace HO_5 := a_ (Kd.R_elder' (ra_ HO_5.out) (Kd.R_base ho36) hb); replace BK199 := a_ (blk_below (g := gb199) (rb_ BK199.out) hb); replace BK207 := a_ (blk_below (g := gb207) (rb_ BK207.out) hb); replace HB := a_ (below_step z7_ hb); clear hb ho36; obtain ⟨Ao38, co38, eo38⟩ := Kd.R_slice HO217.out; subst eo38) | ((with_reducible refine gate_builtin (b := .append) (xs := #[.tmp 63, .tmp 66]) rfl ?_); at_builtin; refine Kd.R_append_rows (Kd.int .i64) (w0 := w) w.heap.size rfl (.tmp 63) (.tmp 66) 22 2 (.int .i64 0) 8 rfl Tryz.underlying22 info2 rfl (by decide) (by omega) u5 x5_1 y215 _ _ _ (fun k_ => nb_ k_ Ao38 y215.length co38) (fun _ => False) rfl rfl ?aO ?aR (fun _ _ h => h) (fun _ h => h.elim) ?aF ?aB ?aS ?aL ?_; (case aR => repeat (first | exact (Kd.R_reads' HO217.out).2.2 | (with_reducible refine Kd.C_alloc ?_ _) | (with_reducible refine Kd.C_drewN ?_ _) | (with_reducible refine Kd.C_drew ?_))); (case aB => exact z7_); (case aF => exact (fun k_ hk => Kd.fresh' (Kd.R_lt (ra_ HO217.out)) k_ hk)); (case aO => exact (rc_ (h := by exact Kd.R_mono HO_5.out (fun _ hk => hk.2)))); (case aS => exact (below_size z7_)); (case aL => have := LMc31.out; omega); intro v219 w37 ho hb hg hat; rw [← Ny218.out] at ho; replace HO_17 := a_ (Kd.R_over' (ra_ HO_17.out) (Kd.R_typed (ra_ HO_5.out)) (by decide) hg); replace BK199 := a_ (blk_grown (g := gb199) (rb_ BK199.out) hg (Kd.R_ne HO_5.out BK199.out (by decide))); replace BK207 := a_ (blk_grown (g := gb207) (rb_ BK207.out) hg (Kd.R_ne HO_5.out BK207.out (by decide))); replace HO217 := a_ (Kd.R_after (ok := (fun _ => True)) (ra_ HO217.out) hg hat); replace HB := a_ (hb); have HO220 := a_ (ho); clear HO_5; clear ho hb hg hat)); try go_wp2_with (first | (go_at_call 48; (with_reducible refine (impl_toInt.calls ((rd_T64 t203 x19_1).f3) t214 _ A29.out).mono ?_); rintro e w' ⟨rfl, ⟨nd, rfl⟩⟩; (try first | exact ⟨rfl, _, World.drewN_drewN _ _ _⟩ | exact ⟨rfl, _, Eq.trans (World.drewN_drewN _ _ _) (congrArg (World.drewN _) (Nat.add_assoc _ _ _))⟩)) | ((with_reducible refine gate_dst (N := 66) rfl ?_); refine Kd.R_lit (Kd.int .i64) _ 2 ?hg (N := 66) ?hd (xs := ([x9_19, x10_19] : List Int)) (inner := [.int .i64 x9_19, .int .i64 x10_19]) (ok := fun _ => True) (okp := fun _ => True) ?hr ?hp (fun _ hk => hk) trivial (Below.refl _ _) (Nat.le_refl _) (by simp) ?_; (case hd => rfl); (case hg => rfl); (case hr => first | (go_simp; done) | (go_simp; rfl)); (case hp => exact (Reps.one (show Kd.M (Kd.int .i64) _ _ _ x9_19 [.int .i64 x9_19] from rfl) (Reps.one (show Kd.M (Kd.int .i64) _ _ _ x10_19 [.int .i64 x10_19] from rfl) (Reps.none _ _)))); intro v216 w35 ho36 hb hg_ hnew_; clear hg_ hnew_; (first | rw [← Ny215.out] at ho36 | (simp only [Int.reduceToNat] at ho36; rw [← Ny215.out] at ho36)); replace HO_17 := a_ (Kd.R_below (ra_ HO_17.out) hb); have HO217 := a_ (Kd.R_lower (Kd.R_new' ho36 (Kd.R_lt (ra_ HO_5.out))) (below_size z7_)); replace HO_5 := a_ (Kd.R_elder' (ra_ HO_5.out) (Kd.R_base ho36) hb); replace BK199 := a_ (blk_below (g := gb199) (rb_ BK199.out) hb); replace BK207 := a_ (blk_below (g := gb207) (rb_ BK207.out) hb); replace HB := a_ (below_step z7_ hb); clear hb ho36; obtain ⟨Ao38, co38, eo38⟩ := Kd.R_slice HO217.out; subst eo38) | ((with_reducible refine gate_builtin (b := .append) (xs := #[.tmp 63, .tmp 66]) rfl ?_); at_builtin; refine Kd.R_append_rows (Kd.int .i64) (w0 := w) w.heap.size rfl (.tmp 63) (.tmp 66) 22 2 (.int .i64 0) 8 rfl Tryz.underlying22 info2 rfl (by decide) (by omega) u5 x5_1 y215 _ _ _ (fun k_ => nb_ k_ Ao38 y215.length co38) (fun _ => False) rfl rfl ?aO ?aR (fun _ _ h => h) (fun _ h => h.elim) ?aF ?aB ?aS ?aL ?_; (case aR => repeat (first | exact (Kd.R_reads' HO217.out).2.2 | (with_reducible refine Kd.C_alloc ?_ _) | (with_reducible refine Kd.C_drewN ?_ _) | (with_reducible refine Kd.C_drew ?_))); (case aB => exact z7_); (case aF => exact (fun k_ hk => Kd.fresh' (Kd.R_lt (ra_ HO217.out)) k_ hk)); (case aO => exact (rc_ (h := by exact Kd.R_mono HO_5.out (fun _ hk => hk.2)))); (case aS => exact (below_size z7_)); (case aL => have := LMc31.out; omega); intro v219 w37 ho hb hg hat; rw [← Ny218.out] at ho; replace HO_17 := a_ (Kd.R_over' (ra_ HO_17.out) (Kd.R_typed (ra_ HO_5.out)) (by decide) hg); replace BK199 := a_ (blk_grown (g := gb199) (rb_ BK199.out) hg (Kd.R_ne HO_5.out BK199.out (by decide))); replace BK207 := a_ (blk_grown (g := gb207) (rb_ BK207.out) hg (Kd.R_ne HO_5.out BK207.out (by decide))); replace HO217 := a_ (Kd.R_after (ok := (fun _ => True)) (ra_ HO217.out) hg hat); replace HB := a_ (hb); have HO220 := a_ (ho); clear HO_5; clear ho hb hg hat)))
                go_roundg kj19
                case measure => have := HK1.out; have := HJ19.out; omega
                case rel => exact ⟨(y218), (wrap64 (x19_1 + 1)), z78_, H', ⟨by have := HK1.out; have := HJ19.out; omega⟩, ⟨by (with_reducible repeat (first | apply Kd.R_alloc | apply Kd.R_drewN | apply Kd.R_drew)); exact Kd.R_mono HO220.out (fun _ hk => trivial)⟩, ⟨by (with_reducible repeat (first | apply Kd.R_alloc | apply Kd.R_drewN | apply Kd.R_drew)); exact Kd.R_mono HO_17.out (fun _ hk => trivial)⟩, ⟨z56_⟩, ⟨z7_⟩⟩
               ·rw [if_neg c31] at H
                exact absurd H (by simp)
              ·rw [if_neg c30] at H
               have c30b0 : ((rd l0_4 t208) == t214) = false := beq_eq_false_iff_ne.mpr c30
               have c30b1 : ((rd l0_4 t208) != t214) = true := bne_iff_ne.mpr c30
               obtain ⟨y221, hy221⟩ : ∃ y_ : List Int, y_ = (([wrap64 (-x9_19), wrap64 (-x10_19)] : List Int)) := ⟨_, rfl⟩
               replace H : (if x5_1.length + y221.length < 17592186044416 then (impl_readForm.l0 kj19 (x5_1 ++ y221) t203 (t203.length : Int) (wrap64 (x19_1 + 1)) a0_0 a0_1 l0_2 l0_3 l0_4) else (none)) = some r := rh_ hy221 H
               have Ny221 := Aside0.mk hy221
               clear hy221
               by_cases c39 : x5_1.length + y221.length < 17592186044416
               ·rw [if_pos c39] at H
                have LMc39 := Aside0.mk c39
                clear c39
                obtain ⟨y224, hy224⟩ : ∃ y_ : List Int, y_ = (x5_1 ++ y221) := ⟨_, rfl⟩
                replace H : (impl_readForm.l0 kj19 y224 t203 (t203.length : Int) (wrap64 (x19_1 + 1)) a0_0 a0_1 l0_2 l0_3 l0_4) = some r := rh_ hy224 H
                have Ny224 := Aside0.mk hy224
                clear hy224
                have H' := Aside0.mk H
                clear H
                have hnb40 := NB199_207.out
                have hnc40 := NB207_199.out
                obtain ⟨hcz41_0, hcz41_1, hcz41_2, hcz41_3, hcz41_4, hfz41_0, hfz41_1, hfz41_2, hfz41_3, hfz41_4⟩ := cz5_ (w := wc) BK199.out
                have p213 : 0 ≤ (t208 : Int) := of_decide_eq_true z77_
                have q213 : t208 < (l0_4.length : Int) := of_decide_eq_true z77_
                obtain ⟨ad213, e213, hx213_0⟩ := Kd.at_int HR0_4.out t208 p213 q213
                cases e213
                replace hx213_0 := (HB.out.cell (World.block_lt_of_cell? _ _ hx213_0)).trans hx213_0
                replace p213 := eq_true p213
                replace q213 := eq_true q213
                obtain ⟨hcz42_0, hcz42_1, hcz42_2, hcz42_3, hfz42_0, hfz42_1, hfz42_2, hfz42_3⟩ := cz4_ (w := wc) BK207.out
                go_wp2_with (first | (go_at_call 48; (with_reducible refine (impl_toInt.calls ((rd_T64 t203 x19_1).f3) t214 _ A29.out).mono ?_); rintro e w' ⟨rfl, ⟨nd, rfl⟩⟩; (try first | exact ⟨rfl, _, World.drewN_drewN _ _ _⟩ | exact ⟨rfl, _, Eq.trans (World.drewN_drewN _ _ _) (congrArg (World.drewN _) (Nat.add_assoc _ _ _))⟩)) | ((with_reducible refine gate_dst (N := 66) rfl ?_); refine Kd.R_lit (Kd.int .i64) _ 2 ?hg (N := 66) ?hd (xs := ([wrap64 (-x9_19), wrap64 (-x10_19)] : List Int)) (inner := [.int .i64 (wrap64 (-x9_19)), .int .i64 (wrap64 (-x10_19))]) (ok := fun _ => True) (okp := fun _ => True) ?hr ?hp (fun _ hk => hk) trivial (Below.refl _ _) (Nat.le_refl _) (by simp) ?_; (case hd => rfl); (case hg => rfl); (case hr => first | (go_simp; done) | (go_simp; rfl)); (case hp => exact (Reps.one (show Kd.M (Kd.int .i64) _ _ _ (wrap64 (-x9_19)) [.int .i64 (wrap64 (-x9_19))] from rfl) (Reps.one (show Kd.M (Kd.int .i64) _ _ _ (wrap64 (-x10_19)) [.int .i64 (wrap64 (-x10_19))] from rfl) (Reps.none _ _)))); intro v222 w43 ho44 hb hg_ hnew_; clear hg_ hnew_; (first | rw [← Ny221.out] at ho44 | (simp only [Int.reduceToNat] at ho44; rw [← Ny221.out] at ho44)); replace HO_17 := a_ (Kd.R_below (ra_ HO_17.out) hb); have HO223 := a_ (Kd.R_lower (Kd.R_new' ho44 (Kd.R_lt (ra_ HO_5.out))) (below_size z7_)); replace HO_5 := a_ (Kd.R_elder' (ra_ HO_5.out) (Kd.R_base ho44) hb); replace BK199 := a_ (blk_below (g := gb199) (rb_ BK199.out) hb); replace BK207 := a_ (blk_below (g := gb207) (rb_ BK207.out) hb); replace HB := a_ (below_step z7_ hb); clear hb ho44; obtain ⟨Ao46, co46, eo46⟩ := Kd.R_slice HO223.out; subst eo46) | ((with_reducible refine gate_builtin (b := .append) (xs := #[.tmp 63, .tmp 66]) rfl ?_); at_builtin; refine Kd.R_append_rows (Kd.int .i64) (w0 := w) w.heap.size rfl (.tmp 63) (.tmp 66) 22 2 (.int .i64 0) 8 rfl Tryz.underlying22 info2 rfl (by decide) (by omega) u5 x5_1 y221 _ _ _ (fun k_ => nb_ k_ Ao46 y221.length co46) (fun _ => False) rfl rfl ?aO ?aR (fun _ _ h => h) (fun _ h => h.elim) ?aF ?aB ?aS ?aL ?_; (case aR => repeat (first | exact (Kd.R_reads' HO223.out).2.2 | (with_reducible refine Kd.C_alloc ?_ _) | (with_reducible refine Kd.C_drewN ?_ _) | (with_reducible refine Kd.C_drew ?_))); (case aB => exact z7_); (case aF => exact (fun k_ hk => Kd.fresh' (Kd.R_lt (ra_ HO223.out)) k_ hk)); (case aO => exact (rc_ (h := by exact Kd.R_mono HO_5.out (fun _ hk => hk.2)))); (case aS => exact (below_size z7_)); (case aL => have := LMc39.out; omega); intro v225 w45 ho hb hg hat; rw [← Ny224.out] at ho; replace HO_17 := a_ (Kd.R_over' (ra_ HO_17.out) (Kd.R_typed (ra_ HO_5.out)) (by decide) hg); replace BK199 := a_ (blk_grown (g := gb199) (rb_ BK199.out) hg (Kd.R_ne HO_5.out BK199.out (by decide))); replace BK207 := a_ (blk_grown (g := gb207) (rb_ BK207.out) hg (Kd.R_ne HO_5.out BK207.out (by decide))); replace HO223 := a_ (Kd.R_after (ok := (fun _ => True)) (ra_ HO223.out) hg hat); replace HB := a_ (hb); have HO226 := a_ (ho); clear HO_5; clear ho hb hg hat))
                repeat (go_quiet (first | (go_at_call 48; (with_reducible refine (impl_toInt.calls ((rd_T64 t203 x19_1).f3) t214 _ A29.out).mono ?_); rintro e w' ⟨rfl, ⟨nd, rfl⟩⟩; (try first | exact ⟨rfl, _, World.drewN_drewN _ _ _⟩ | exact ⟨rfl, _, Eq.trans (World.drewN_drewN _ _ _) (congrArg (World.drewN _) (Nat.add_assoc _ _ _))⟩)) | ((with_reducible refine gate_dst (N := 66) rfl ?_); refine Kd.R_lit (Kd.int .i64) _ 2 ?hg (N := 66) ?hd (xs := ([wrap64 (-x9_19), wrap64 (-x10_19)] : List Int)) (inner := [.int .i64 (wrap64 (-x9_19)), .int .i64 (wrap64 (-x10_19))]) (ok := fun _ => True) (okp := fun _ => True) ?hr ?hp (fun _ hk => hk) trivial (Below.refl _ _) (Nat.le_refl _) (by simp) ?_; (case hd => rfl); (case hg => rfl); (case hr => first | (go_simp; done) | (go_simp; rfl)); (case hp => exact (Reps.one (show Kd.M (Kd.int .i64) _ _ _ (wrap64 (-x9_19)) [.int .i64 (wrap64 (-x9_19))] from rfl) (Reps.one (show Kd.M (Kd.int .i64) _ _ _ (wrap64 (-x10_19)) [.int .i64 (wrap64 (-x10_19))] from rfl) (Reps.none _ _)))); intro v222 w43 ho44 hb hg_ hnew_; clear hg_ hnew_; (first | rw [← Ny221.out] at ho44 | (simp only [Int.reduceToNat] at ho44; rw [← Ny221.out] at ho44)); replace HO_17 := a_ (Kd.R_below (ra_ HO_17.out) hb); have HO223 := a_ (Kd.R_lower (Kd.R_new' ho44 (Kd.R_lt (ra_ HO_5.out))) (below_size z7_)); replace HO_5 := a_ (Kd.R_elder' (ra_ HO_5.out) (Kd.R_base ho44) hb); replace BK199 := a_ (blk_below (g := gb199) (rb_ BK199.out) hb); replace BK207 := a_ (blk_below (g := gb207) (rb_ BK207.out) hb); replace HB := a_ (below_step z7_ hb); clear hb ho44; obtain ⟨Ao46, co46, eo46⟩ := Kd.R_slice HO223.out; subst eo46) | ((with_reducible refine gate_builtin (b := .append) (xs := #[.tmp 63, .tmp 66]) rfl ?_); at_builtin; refine Kd.R_append_rows (Kd.int .i64) (w0 := w) w.heap.size rfl (.tmp 63) (.tmp 66) 22 2 (.int .i64 0) 8 rfl Tryz.underlying22 info2 rfl (by decide) (by omega) u5 x5_1 y221 _ _ _ (fun k_ => nb_ k_ Ao46 y221.length co46) (fun _ => False) rfl rfl ?aO ?aR (fun _ _ h => h) (fun _ h => h.elim) ?aF ?aB ?aS ?aL ?_; (case aR => repeat (first | exact (Kd.R_reads' HO223.out).2.2 | (with_reducible refine Kd.C_alloc ?_ _) | (with_reducible refine Kd.C_drewN ?_ _) | (with_reducible refine Kd.C_drew ?_))); (case aB => exact z7_); (case aF => exact (fun k_ hk => Kd.fresh' (Kd.R_lt (ra_ HO223.out)) k_ hk)); (case aO => exact (rc_ (h := by exact Kd.R_mono HO_5.out (fun _ hk => hk.2)))); (case aS => exact (below_size z7_)); (case aL => have := LMc39.out; omega); intro v225 w45 ho hb hg hat; rw [← Ny224.out] at ho; replace HO_17 := a_ (Kd.R_over' (ra_ HO_17.out) (Kd.R_typed (ra_ HO_5.out)) (by decide) hg); replace BK199 := a_ (blk_grown (g := gb199) (rb_ BK199.out) hg (Kd.R_ne HO_5.out BK199.out (by decide))); replace BK207 := a_ (blk_grown (g := gb207) (rb_ BK207.out) hg (Kd.R_ne HO_5.out BK207.out (by decide))); replace HO223 := a_ (Kd.R_after (ok := (fun _ => True)) (ra_ HO223.out) hg hat); replace HB := a_ (hb); have HO226 := a_ (ho); clear HO_5; clear ho hb hg hat)); try go_wp2_with (first | (go_at_call 48; (with_reducible refine (impl_toInt.calls ((rd_T64 t203 x19_1).f3) t214 _ A29.out).mono ?_); rintro e w' ⟨rfl, ⟨nd, rfl⟩⟩; (try first | exact ⟨rfl, _, World.drewN_drewN _ _ _⟩ | exact ⟨rfl, _, Eq.trans (World.drewN_drewN _ _ _) (congrArg (World.drewN _) (Nat.add_assoc _ _ _))⟩)) | ((with_reducible refine gate_dst (N := 66) rfl ?_); refine Kd.R_lit (Kd.int .i64) _ 2 ?hg (N := 66) ?hd (xs := ([wrap64 (-x9_19), wrap64 (-x10_19)] : List Int)) (inner := [.int .i64 (wrap64 (-x9_19)), .int .i64 (wrap64 (-x10_19))]) (ok := fun _ => True) (okp := fun _ => True) ?hr ?hp (fun _ hk => hk) trivial (Below.refl _ _) (Nat.le_refl _) (by simp) ?_; (case hd => rfl); (case hg => rfl); (case hr => first | (go_simp; done) | (go_simp; rfl)); (case hp => exact (Reps.one (show Kd.M (Kd.int .i64) _ _ _ (wrap64 (-x9_19)) [.int .i64 (wrap64 (-x9_19))] from rfl) (Reps.one (show Kd.M (Kd.int .i64) _ _ _ (wrap64 (-x10_19)) [.int .i64 (wrap64 (-x10_19))] from rfl) (Reps.none _ _)))); intro v222 w43 ho44 hb hg_ hnew_; clear hg_ hnew_; (first | rw [← Ny221.out] at ho44 | (simp only [Int.reduceToNat] at ho44; rw [← Ny221.out] at ho44)); replace HO_17 := a_ (Kd.R_below (ra_ HO_17.out) hb); have HO223 := a_ (Kd.R_lower (Kd.R_new' ho44 (Kd.R_lt (ra_ HO_5.out))) (below_size z7_)); replace HO_5 := a_ (Kd.R_elder' (ra_ HO_5.out) (Kd.R_base ho44) hb); replace BK199 := a_ (blk_below (g := gb199) (rb_ BK199.out) hb); replace BK207 := a_ (blk_below (g := gb207) (rb_ BK207.out) hb); replace HB := a_ (below_step z7_ hb); clear hb ho44; obtain ⟨Ao46, co46, eo46⟩ := Kd.R_slice HO223.out; subst eo46) | ((with_reducible refine gate_builtin (b := .append) (xs := #[.tmp 63, .tmp 66]) rfl ?_); at_builtin; refine Kd.R_append_rows (Kd.int .i64) (w0 := w) w.heap.size rfl (.tmp 63) (.tmp 66) 22 2 (.int .i64 0) 8 rfl Tryz.underlying22 info2 rfl (by decide) (by omega) u5 x5_1 y221 _ _ _ (fun k_ => nb_ k_ Ao46 y221.length co46) (fun _ => False) rfl rfl ?aO ?aR (fun _ _ h => h) (fun _ h => h.elim) ?aF ?aB ?aS ?aL ?_; (case aR => repeat (first | exact (Kd.R_reads' HO223.out).2.2 | (with_reducible refine Kd.C_alloc ?_ _) | (with_reducible refine Kd.C_drewN ?_ _) | (with_reducible refine Kd.C_drew ?_))); (case aB => exact z7_); (case aF => exact (fun k_ hk => Kd.fresh' (Kd.R_lt (ra_ HO223.out)) k_ hk)); (case aO => exact (rc_ (h := by exact Kd.R_mono HO_5.out (fun _ hk => hk.2)))); (case aS => exact (below_size z7_)); (case aL => have := LMc39.out; omega); intro v225 w45 ho hb hg hat; rw [← Ny224.out] at ho; replace HO_17 := a_ (Kd.R_over' (ra_ HO_17.out) (Kd.R_typed (ra_ HO_5.out)) (by decide) hg); replace BK199 := a_ (blk_grown (g := gb199) (rb_ BK199.out) hg (Kd.R_ne HO_5.out BK199.out (by decide))); replace BK207 := a_ (blk_grown (g := gb207) (rb_ BK207.out) hg (Kd.R_ne HO_5.out BK207.out (by decide))); replace HO223 := a_ (Kd.R_after (ok := (fun _ => True)) (ra_ HO223.out) hg hat); replace HB := a_ (hb); have HO226 := a_ (ho); clear HO_5; clear ho hb hg hat)))
                try (have hw1_ := Go.IntWalk.i64_left (-x9_19); have hw2_ := Go.IntWalk.i64_left (-x10_19); (go_quiet (first | (go_at_call 48; (with_reducible refine (impl_toInt.calls ((rd_T64 t203 x19_1).f3) t214 _ A29.out).mono ?_); rintro e w' ⟨rfl, ⟨nd, rfl⟩⟩; (try first | exact ⟨rfl, _, World.drewN_drewN _ _ _⟩ | exact ⟨rfl, _, Eq.trans (World.drewN_drewN _ _ _) (congrArg (World.drewN _) (Nat.add_assoc _ _ _))⟩)) | ((with_reducible refine gate_dst (N := 66) rfl ?_); refine Kd.R_lit (Kd.int .i64) _ 2 ?hg (N := 66) ?hd (xs := ([wrap64 (-x9_19), wrap64 (-x10_19)] : List Int)) (inner := [.int .i64 (wrap64 (-x9_19)), .int .i64 (wrap64 (-x10_19))]) (ok := fun _ => True) (okp := fun _ => True) ?hr ?hp (fun _ hk => hk) trivial (Below.refl _ _) (Nat.le_refl _) (by simp) ?_; (case hd => rfl); (case hg => rfl); (case hr => first | (go_simp; done) | (go_simp; rfl)); (case hp => exact (Reps.one (show Kd.M (Kd.int .i64) _ _ _ (wrap64 (-x9_19)) [.int .i64 (wrap64 (-x9_19))] from rfl) (Reps.one (show Kd.M (Kd.int .i64) _ _ _ (wrap64 (-x10_19)) [.int .i64 (wrap64 (-x10_19))] from rfl) (Reps.none _ _)))); intro v222 w43 ho44 hb hg_ hnew_; clear hg_ hnew_; (first | rw [← Ny221.out] at ho44 | (simp only [Int.reduceToNat] at ho44; rw [← Ny221.out] at ho44)); replace HO_17 := a_ (Kd.R_below (ra_ HO_17.out) hb); have HO223 := a_ (Kd.R_lower (Kd.R_new' ho44 (Kd.R_lt (ra_ HO_5.out))) (below_size z7_)); replace HO_5 := a_ (Kd.R_elder' (ra_ HO_5.out) (Kd.R_base ho44) hb); replace BK199 := a_ (blk_below (g := gb199) (rb_ BK199.out) hb); replace BK207 := a_ (blk_below (g := gb207) (rb_ BK207.out) hb); replace HB := a_ (below_step z7_ hb); clear hb ho44; obtain ⟨Ao46, co46, eo46⟩ := Kd.R_slice HO223.out; subst eo46) | ((with_reducible refine gate_builtin (b := .append) (xs := #[.tmp 63, .tmp 66]) rfl ?_); at_builtin; refine Kd.R_append_rows (Kd.int .i64) (w0 := w) w.heap.size rfl (.tmp 63) (.tmp 66) 22 2 (.int .i64 0) 8 rfl Tryz.underlying22 info2 rfl (by decide) (by omega) u5 x5_1 y221 _ _ _ (fun k_ => nb_ k_ Ao46 y221.length co46) (fun _ => False) rfl rfl ?aO ?aR (fun _ _ h => h) (fun _ h => h.elim) ?aF ?aB ?aS ?aL ?_; (case aR => repeat (first | exact (Kd.R_reads' HO223.out).2.2 | (with_reducible refine Kd.C_alloc ?_ _) | (with_reducible refine Kd.C_drewN ?_ _) | (with_reducible refine Kd.C_drew ?_))); (case aB => exact z7_); (case aF => exact (fun k_ hk => Kd.fresh' (Kd.R_lt (ra_ HO223.out)) k_ hk)); (case aO => exact (rc_ (h := by exact Kd.R_mono HO_5.out (fun _ hk => hk.2)))); (case aS => exact (below_size z7_)); (case aL => have := LMc39.out; omega); intro v225 w45 ho hb hg hat; rw [← Ny224.out] at ho; replace HO_17 := a_ (Kd.R_over' (ra_ HO_17.out) (Kd.R_typed (ra_ HO_5.out)) (by decide) hg); replace BK199 := a_ (blk_grown (g := gb199) (rb_ BK199.out) hg (Kd.R_ne HO_5.out BK199.out (by decide))); replace BK207 := a_ (blk_grown (g := gb207) (rb_ BK207.out) hg (Kd.R_ne HO_5.out BK207.out (by decide))); replace HO223 := a_ (Kd.R_after (ok := (fun _ => True)) (ra_ HO223.out) hg hat); replace HB := a_ (hb); have HO226 := a_ (ho); clear HO_5; clear ho hb hg hat))); (try go_wp2_with (first | (go_at_call 48; (with_reducible refine (impl_toInt.calls ((rd_T64 t203 x19_1).f3) t214 _ A29.out).mono ?_); rintro e w' ⟨rfl, ⟨nd, rfl⟩⟩; (try first | exact ⟨rfl, _, World.drewN_drewN _ _ _⟩ | exact ⟨rfl, _, Eq.trans (World.drewN_drewN _ _ _) (congrArg (World.drewN _) (Nat.add_assoc _ _ _))⟩)) | ((with_reducible refine gate_dst (N := 66) rfl ?_); refine Kd.R_lit (Kd.int .i64) _ 2 ?hg (N := 66) ?hd (xs := ([wrap64 (-x9_19), wrap64 (-x10_19)] : List Int)) (inner := [.int .i64 (wrap64 (-x9_19)), .int .i64 (wrap64 (-x10_19))]) (ok := fun _ => True) (okp := fun _ => True) ?hr ?hp (fun _ hk => hk) trivial (Below.refl _ _) (Nat.le_refl _) (by simp) ?_; (case hd => rfl); (case hg => rfl); (case hr => first | (go_simp; done) | (go_simp; rfl)); (case hp => exact (Reps.one (show Kd.M (Kd.int .i64) _ _ _ (wrap64 (-x9_19)) [.int .i64 (wrap64 (-x9_19))] from rfl) (Reps.one (show Kd.M (Kd.int .i64) _ _ _ (wrap64 (-x10_19)) [.int .i64 (wrap64 (-x10_19))] from rfl) (Reps.none _ _)))); intro v222 w43 ho44 hb hg_ hnew_; clear hg_ hnew_; (first | rw [← Ny221.out] at ho44 | (simp only [Int.reduceToNat] at ho44; rw [← Ny221.out] at ho44)); replace HO_17 := a_ (Kd.R_below (ra_ HO_17.out) hb); have HO223 := a_ (Kd.R_lower (Kd.R_new' ho44 (Kd.R_lt (ra_ HO_5.out))) (below_size z7_)); replace HO_5 := a_ (Kd.R_elder' (ra_ HO_5.out) (Kd.R_base ho44) hb); replace BK199 := a_ (blk_below (g := gb199) (rb_ BK199.out) hb); replace BK207 := a_ (blk_below (g := gb207) (rb_ BK207.out) hb); replace HB := a_ (below_step z7_ hb); clear hb ho44; obtain ⟨Ao46, co46, eo46⟩ := Kd.R_slice HO223.out; subst eo46) | ((with_reducible refine gate_builtin (b := .append) (xs := #[.tmp 63, .tmp 66]) rfl ?_); at_builtin; refine Kd.R_append_rows (Kd.int .i64) (w0 := w) w.heap.size rfl (.tmp 63) (.tmp 66) 22 2 (.int .i64 0) 8 rfl Tryz.underlying22 info2 rfl (by decide) (by omega) u5 x5_1 y221 _ _ _ (fun k_ => nb_ k_ Ao46 y221.length co46) (fun _ => False) rfl rfl ?aO ?aR (fun _ _ h => h) (fun _ h => h.elim) ?aF ?aB ?aS ?aL ?_; (case aR => repeat (first | exact (Kd.R_reads' HO223.out).2.2 | (with_reducible refine Kd.C_alloc ?_ _) | (with_reducible refine Kd.C_drewN ?_ _) | (with_reducible refine Kd.C_drew ?_))); (case aB => exact z7_); (case aF => exact (fun k_ hk => Kd.fresh' (Kd.R_lt (ra_ HO223.out)) k_ hk)); (case aO => exact (rc_ (h := by exact Kd.R_mono HO_5.out (fun _ hk => hk.2)))); (case aS => exact (below_size z7_)); (case aL => have := LMc39.out; omega); intro v225 w45 ho hb hg hat; rw [← Ny224.out] at ho; replace HO_17 := a_ (Kd.R_over' (ra_ HO_17.out) (Kd.R_typed (ra_ HO_5.out)) (by decide) hg); replace BK199 := a_ (blk_grown (g := gb199) (rb_ BK199.out) hg (Kd.R_ne HO_5.out BK199.out (by decide))); replace BK207 := a_ (blk_grown (g := gb207) (rb_ BK207.out) hg (Kd.R_ne HO_5.out BK207.out (by decide))); replace HO223 := a_ (Kd.R_after (ok := (fun _ => True)) (ra_ HO223.out) hg hat); replace HB := a_ (hb); have HO226 := a_ (ho); clear HO_5; clear ho hb hg hat))))
                go_roundg kj19
                case measure => have := HK1.out; have := HJ19.out; omega
                case rel => exact ⟨(y224), (wrap64 (x19_1 + 1)), z78_, H', ⟨by have := HK1.out; have := HJ19.out; omega⟩, ⟨by (with_reducible repeat (first | apply Kd.R_alloc | apply Kd.R_drewN | apply Kd.R_drew)); exact Kd.R_mono HO226.out (fun _ hk => trivial)⟩, ⟨by (with_reducible repeat (first | apply Kd.R_alloc | apply Kd.R_drewN | apply Kd.R_drew)); exact Kd.R_mono HO_17.out (fun _ hk => trivial)⟩, ⟨z56_⟩, ⟨z7_⟩⟩
               ·rw [if_neg c39] at H
                exact absurd H (by simp)
             ·rw [if_neg c28] at H
              exact absurd H (by simp)
            ·rw [if_neg c27] at H
             exact absurd H (by simp)
         ·rw [if_neg c18] at H
          exact absurd H (by simp)
        ·rw [if_neg c17] at H
         exact absurd H (by simp)
       ·rw [if_neg c15] at H
        exact absurd H (by simp)
      ·rw [if_neg c14] at H
       exact absurd H (by simp)
     ·rw [if_neg c12] at H
      exact absurd H (by simp)
    ·rw [if_neg c11] at H
     exact absurd H (by simp)
   ·rw [if_neg c10] at H
    have c10b0 : decide (x19_1 < (t203.length : Int)) = false := decide_eq_false c10
    clear c10
    obtain rfl := Option.some.inj H
    go_wp2
    repeat (go_quiet (fail); try go_wp2)
    go_ret
    exact ⟨_, z34_, z65_, z23_⟩

end Go.Proofs.YtkpidjmhdagkfaaGreatDoor.QFnExactReadForm
-- halved
