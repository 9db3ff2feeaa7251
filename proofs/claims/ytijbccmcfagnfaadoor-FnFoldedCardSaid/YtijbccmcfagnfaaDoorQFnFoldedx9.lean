-- Written by own_print.py of this session's repo over the kit's print (its output, turned at some places).
import Derived.Test.YtijbccmcfagnfaaDoorQFnFoldedx0
import Derived.Test.YtijbccmcfagnfaaDoorQFnFoldedx2
import Derived.Test.YtijbccmcfagnfaaDoorQFnFoldedx6
import Derived.Test.YtijbccmcfagnfaaDoorQFnFoldedx8
namespace Go.Proofs.YtijbccmcfagnfaaDoor.QFnFolded
open Go.RowKit Go.Proofs.YtijbccmcfagnfaaDoorW.PrintWords Go.Proofs.YtijbccmcfagnfaaDoorW.PrintLast Go.Proofs.YtijbccmcfagnfaaDoorW.PrintMore
attribute [local go_sem] max2_int min2_int max_two min_two max_three min_three max_four min_four   -- for this text's walks alone
set_option linter.unusedVariables false
set_option linter.unusedSimpArgs false

/-! ### spec_LeafOf: function 14 -/
mutual
def spec_LeafOf.j0 : Nat → Int → Int → ByteArray → Int → Int → Int → Bool → Option (Int × Int)
 | 0, _, _, _, _, _, _, _ => none
 | k + 1, x0, x1, x2, x3, x4, x12, x34 => if x34 = true then (spec_LeafOf.j1 k x0 x1 x2 x3 x4 2) else (spec_LeafOf.j1 k x0 x1 x2 x3 x4 x12)
def spec_LeafOf.j1 : Nat → Int → Int → ByteArray → Int → Int → Int → Option (Int × Int)
 | 0, _, _, _, _, _, _ => none
 | k + 1, x0, x1, x2, x3, x4, x12 => if x12 = 0 then ((spec_l04Leaves.f k x0 x1 x2).bind fun t273 => (spec_LeafOf.l0 k x3 x4 t273 0)) else (some (0, x12))
def spec_LeafOf.l0 : Nat → Int → Int → List (S39) → Int → Option (Int × Int)
 | 0, _, _, _, _ => none
 | k + 1, x3, x4, x13, x14 => if 0 ≤ x14 then (if x14 < (x13.length : Int) then (if ((rd_T39 x13 x14).f0) = x3 then (if ((rd_T39 x13 x14).f1) = x4 then (some (x14, 0)) else (spec_LeafOf.l0 k x3 x4 x13 (wrap64 (x14 + 1)))) else (spec_LeafOf.l0 k x3 x4 x13 (wrap64 (x14 + 1)))) else (none)) else (none)
end
def spec_LeafOf.f (k : Nat) (a0 : Int) (a1 : Int) (a2 : ByteArray) (a3 : Int) (a4 : Int) : Option (Int × Int) := (spec_l04Code.f k a0 a1 a2).bind fun t270 => (if t270 = 0 then ((spec_l01In.f a3 0 (wrap64 (a0 - 1))).bind fun t271 => (if t271 = true then ((spec_l01In.f a4 0 (wrap64 (a1 - 1))).bind fun t272 => (spec_LeafOf.j0 k a0 a1 a2 a3 a4 t270 (!t272))) else (spec_LeafOf.j0 k a0 a1 a2 a3 a4 t270 true))) else (spec_LeafOf.j0 k a0 a1 a2 a3 a4 t270 false))
theorem spec_LeafOf.mono_l : ∀ k, (∀ y0 y1 y2 y3 y4 y5 y6, LeO (spec_LeafOf.j0 k y0 y1 y2 y3 y4 y5 y6) (spec_LeafOf.j0 (k + 1) y0 y1 y2 y3 y4 y5 y6)) ∧ (∀ y0 y1 y2 y3 y4 y5, LeO (spec_LeafOf.j1 k y0 y1 y2 y3 y4 y5) (spec_LeafOf.j1 (k + 1) y0 y1 y2 y3 y4 y5)) ∧ (∀ y0 y1 y2 y3, LeO (spec_LeafOf.l0 k y0 y1 y2 y3) (spec_LeafOf.l0 (k + 1) y0 y1 y2 y3))
 | 0 => ⟨fun _ _ _ _ _ _ _ r h => by simp [spec_LeafOf.j0] at h, fun _ _ _ _ _ _ r h => by simp [spec_LeafOf.j1] at h, fun _ _ _ _ r h => by simp [spec_LeafOf.l0] at h⟩
 | k + 1 => by
  obtain ⟨ih0, ih1, ih2⟩ := spec_LeafOf.mono_l k
  refine ⟨?_, ?_, ?_⟩
  ·intro y0 y1 y2 y3 y4 y5 y6
   unfold spec_LeafOf.j0
   repeat' first
   | (with_reducible exact ih0 _ _ _ _ _ _ _)
   | (with_reducible exact ih1 _ _ _ _ _ _)
   | (with_reducible exact ih2 _ _ _ _)
   | (with_reducible exact spec_l04Code.mono _ _ _ _)
   | (with_reducible exact spec_l04Leaves.mono _ _ _ _)
   | (with_reducible exact LeO.refl _)
   | (with_reducible exact LeO.none _)
   | (with_reducible refine LeO.ite ?_ ?_)
   | (with_reducible refine LeO.bind ?_ (fun _ => ?_))
   | exact ih0 _ _ _ _ _ _ _
   | exact ih1 _ _ _ _ _ _
   | exact ih2 _ _ _ _
   | exact spec_l04Code.mono _ _ _ _
   | exact spec_l04Leaves.mono _ _ _ _
   | exact LeO.none _
   | refine LeO.ite ?_ ?_
   | refine LeO.bind ?_ (fun _ => ?_)
  ·intro y0 y1 y2 y3 y4 y5
   unfold spec_LeafOf.j1
   repeat' first
   | (with_reducible exact ih0 _ _ _ _ _ _ _)
   | (with_reducible exact ih1 _ _ _ _ _ _)
   | (with_reducible exact ih2 _ _ _ _)
   | (with_reducible exact spec_l04Code.mono _ _ _ _)
   | (with_reducible exact spec_l04Leaves.mono _ _ _ _)
   | (with_reducible exact LeO.refl _)
   | (with_reducible exact LeO.none _)
   | (with_reducible refine LeO.ite ?_ ?_)
   | (with_reducible refine LeO.bind ?_ (fun _ => ?_))
   | exact ih0 _ _ _ _ _ _ _
   | exact ih1 _ _ _ _ _ _
   | exact ih2 _ _ _ _
   | exact spec_l04Code.mono _ _ _ _
   | exact spec_l04Leaves.mono _ _ _ _
   | exact LeO.none _
   | refine LeO.ite ?_ ?_
   | refine LeO.bind ?_ (fun _ => ?_)
  ·intro y0 y1 y2 y3
   unfold spec_LeafOf.l0
   repeat' first
   | (with_reducible exact ih0 _ _ _ _ _ _ _)
   | (with_reducible exact ih1 _ _ _ _ _ _)
   | (with_reducible exact ih2 _ _ _ _)
   | (with_reducible exact spec_l04Code.mono _ _ _ _)
   | (with_reducible exact spec_l04Leaves.mono _ _ _ _)
   | (with_reducible exact LeO.refl _)
   | (with_reducible exact LeO.none _)
   | (with_reducible refine LeO.ite ?_ ?_)
   | (with_reducible refine LeO.bind ?_ (fun _ => ?_))
   | exact ih0 _ _ _ _ _ _ _
   | exact ih1 _ _ _ _ _ _
   | exact ih2 _ _ _ _
   | exact spec_l04Code.mono _ _ _ _
   | exact spec_l04Leaves.mono _ _ _ _
   | exact LeO.none _
   | refine LeO.ite ?_ ?_
   | refine LeO.bind ?_ (fun _ => ?_)
theorem spec_LeafOf.mono : ∀ a0 a1 a2 a3 a4 k, LeO (spec_LeafOf.f k a0 a1 a2 a3 a4) (spec_LeafOf.f (k + 1) a0 a1 a2 a3 a4) := by
 intro a0 a1 a2 a3 a4 k
 obtain ⟨ih0, ih1, ih2⟩ := spec_LeafOf.mono_l k
 unfold spec_LeafOf.f
 repeat' first
   | (with_reducible exact ih0 _ _ _ _ _ _ _)
   | (with_reducible exact ih1 _ _ _ _ _ _)
   | (with_reducible exact ih2 _ _ _ _)
   | (with_reducible exact spec_l04Code.mono _ _ _ _)
   | (with_reducible exact spec_l04Leaves.mono _ _ _ _)
   | (with_reducible exact LeO.refl _)
   | (with_reducible exact LeO.none _)
   | (with_reducible refine LeO.ite ?_ ?_)
   | (with_reducible refine LeO.bind ?_ (fun _ => ?_))
   | exact ih0 _ _ _ _ _ _ _
   | exact ih1 _ _ _ _ _ _
   | exact ih2 _ _ _ _
   | exact spec_l04Code.mono _ _ _ _
   | exact spec_l04Leaves.mono _ _ _ _
   | exact LeO.none _
   | refine LeO.ite ?_ ?_
   | refine LeO.bind ?_ (fun _ => ?_)
set_option maxHeartbeats 8000000 in
set_option maxRecDepth 100000 in
theorem spec_LeafOf.calls (k : Nat) (a0 : Int) (a1 : Int) (a2 : ByteArray) (a3 : Int) (a4 : Int) (r1 : Int) (r2 : Int) (w : World) (h : spec_LeafOf.f k a0 a1 a2 a3 a4 = some (r1, r2)) :
  Calls Tryd.prog 14 #[.int .i64 a0, .int .i64 a1, .string a2, .int .i64 a3, .int .i64 a4] w fun e w' => e = .returned (.tuple #[.int .i64 r1, .int .i64 r2]) ∧ Below w.heap.size w w' := by
 have HB := Aside0.mk (Below.refl w.heap.size w)
 have H : ((spec_l04Code.f k a0 a1 a2).bind fun t270 => (if t270 = 0 then ((spec_l01In.f a3 0 (wrap64 (a0 - 1))).bind fun t271 => (if t271 = true then ((spec_l01In.f a4 0 (wrap64 (a1 - 1))).bind fun t272 => (spec_LeafOf.j0 k a0 a1 a2 a3 a4 t270 (!t272))) else (spec_LeafOf.j0 k a0 a1 a2 a3 a4 t270 true))) else (spec_LeafOf.j0 k a0 a1 a2 a3 a4 t270 false))) = some (r1, r2) := h
 clear h
 replace H := Option.bind_eq_some_iff.mp H
 obtain ⟨t270, A60, H⟩ := H
 replace H : (if t270 = 0 then ((spec_l01In.f a3 0 (wrap64 (a0 - 1))).bind fun t271 => (if t271 = true then ((spec_l01In.f a4 0 (wrap64 (a1 - 1))).bind fun t272 => (spec_LeafOf.j0 k a0 a1 a2 a3 a4 t270 (!t272))) else (spec_LeafOf.j0 k a0 a1 a2 a3 a4 t270 true))) else (spec_LeafOf.j0 k a0 a1 a2 a3 a4 t270 false)) = some (r1, r2) := H
 have A6 := Aside0.mk A60
 clear A60
 have HC7 := Aside0.mk H
 clear H
 go_enter Tryd.func14, Tryd.ntmps14
 go_upto_region 2 with (first | ((with_reducible refine gate_callee (f := 45) rfl ?_); refine goesL_ (some 18) rfl rfl Tryd.func45 (by kernel_rfl) rfl #[.int .i64 a0, .int .i64 a1, .string a2] rfl (by (try simp only [List.map_toArray, List.map_cons, List.map_nil]); first | done | rfl | (simp only [List.length_drop, List.length_take]; rfl)) ?_; (with_reducible refine (spec_l04Code.calls k a0 a1 a2 t270 _ A6.out).mono ?_); rintro e w' ⟨rfl, ⟨nd, rfl⟩⟩; refine ⟨_, rfl, ?_⟩))
 (try simp only [Act.put, List.setIfInBounds_toArray, List.set_cons_zero, List.set_cons_succ])
 go_cut [34] (fun v34 wc => ∃ (kq : Nat) (x34_6 : Bool), v34 = .bool x34_6 ∧ Aside0 (spec_LeafOf.j0 kq a0 a1 a2 a3 a4 t270 x34_6 = some (r1, r2)) ∧ Aside0 (kq ≤ k) ∧ Aside0 (Below w.heap.size w wc))
 case first =>
  have H := HC7.out
  clear HC7
  by_cases c8 : t270 = 0
  ·rw [if_pos c8] at H
   have c8b0 : (t270 == 0) = true := beq_iff_eq.mpr c8
   have c8b1 : (t270 != 0) = false := bne_eq_false_iff_eq.mpr c8
   clear c8
   (first | rw [c8b0] | (simp only [i64_w, i32_w]; rw [c8b0]) | skip)
   replace H := Option.bind_eq_some_iff.mp H
   obtain ⟨t271, A90, H⟩ := H
   replace H : (if t271 = true then ((spec_l01In.f a4 0 (wrap64 (a1 - 1))).bind fun t272 => (spec_LeafOf.j0 k a0 a1 a2 a3 a4 t270 (!t272))) else (spec_LeafOf.j0 k a0 a1 a2 a3 a4 t270 true)) = some (r1, r2) := H
   have A9 := Aside0.mk A90
   clear A90
   by_cases c10 : t271 = true
   ·subst c10
    have H1 : ((spec_l01In.f a4 0 (wrap64 (a1 - 1))).bind fun t272 => (spec_LeafOf.j0 k a0 a1 a2 a3 a4 t270 (!t272))) = some (r1, r2) := by rw [if_pos rfl] at H; exact H
    clear H
    have H := H1
    clear H1
    replace H := Option.bind_eq_some_iff.mp H
    obtain ⟨t272, A110, H⟩ := H
    replace H : (spec_LeafOf.j0 k a0 a1 a2 a3 a4 t270 (!t272)) = some (r1, r2) := H
    have A11 := Aside0.mk A110
    clear A110
    have H' := Aside0.mk H
    clear H
    go_wp2_with (first | (go_at_call 51; (with_reducible refine (spec_l01In.calls a3 0 (wrap64 (a0 - 1)) true _ A9.out).mono ?_); rintro e w' ⟨rfl, ⟨nd, rfl⟩⟩) | (go_at_call 51; (with_reducible refine (spec_l01In.calls a4 0 (wrap64 (a1 - 1)) t272 _ A11.out).mono ?_); rintro e w' ⟨rfl, ⟨nd, rfl⟩⟩))
    go_meet
    case rel => exact ⟨_, (!t272), (by first | rfl | (simp; done) | (simp [*]; done)), H', ⟨by first | omega | exact Nat.le_refl _⟩, ⟨by repeat (first | (with_reducible first | exact HB.out | apply below_alloc | apply pw_below_drewN | apply below_drew1) | exact HB.out)⟩⟩
   ·replace c10 := Bool.eq_false_iff.mpr c10
    subst c10
    have H1 : (spec_LeafOf.j0 k a0 a1 a2 a3 a4 t270 true) = some (r1, r2) := by rw [if_neg (show ¬ (false = true) by decide)] at H; exact H
    clear H
    have H := H1
    clear H1
    have H' := Aside0.mk H
    clear H
    go_wp2_with (first | (go_at_call 51; (with_reducible refine (spec_l01In.calls a3 0 (wrap64 (a0 - 1)) false _ A9.out).mono ?_); rintro e w' ⟨rfl, ⟨nd, rfl⟩⟩))
    go_meet
    case rel => exact ⟨_, (true), (by first | rfl | (simp; done) | (simp [*]; done)), H', ⟨by first | omega | exact Nat.le_refl _⟩, ⟨by repeat (first | (with_reducible first | exact HB.out | apply below_alloc | apply pw_below_drewN | apply below_drew1) | exact HB.out)⟩⟩
  ·rw [if_neg c8] at H
   have c8b0 : (t270 == 0) = false := beq_eq_false_iff_ne.mpr c8
   have c8b1 : (t270 != 0) = true := bne_iff_ne.mpr c8
   (first | rw [c8b0] | (simp only [i64_w, i32_w]; rw [c8b0]) | skip)
   have H' := Aside0.mk H
   clear H
   go_wp2
   go_meet
   case rel => exact ⟨_, (false), (by first | rfl | (simp; done) | (simp [*]; done)), H', ⟨by first | omega | exact Nat.le_refl _⟩, ⟨by repeat (first | (with_reducible first | exact HB.out | apply below_alloc | apply pw_below_drewN | apply below_drew1) | exact HB.out)⟩⟩
 case rest =>
  clear HC7
  try clear c1
  try clear p2
  try clear c4
  try clear p6
  try clear c8
  try clear c8b0
  try clear c8b1
  try clear c10
  obtain ⟨kq, x34_6, rfl, HA, HJ6, HB⟩ := hcut
  cases kq with
  | zero => exact absurd HA.out (by simp [spec_LeafOf.j0])
  | succ kj6 =>
   have H := HA.out
   clear HA
   simp only [spec_LeafOf.j0] at H
   have HC12 := Aside0.mk H
   clear H
   go_upto_if 34 with (fail)
   go_cut [12] (fun v12 wc => ∃ (kq : Nat) (x12_11 : Int), v12 = .int .i64 x12_11 ∧ Aside0 (spec_LeafOf.j1 kq a0 a1 a2 a3 a4 x12_11 = some (r1, r2)) ∧ Aside0 (kq ≤ kj6) ∧ Aside0 (Below w.heap.size w wc))
   case first =>
    have H := HC12.out
    clear HC12
    by_cases c13 : x34_6 = true
    ·subst c13
     have H1 : (spec_LeafOf.j1 kj6 a0 a1 a2 a3 a4 2) = some (r1, r2) := by rw [if_pos rfl] at H; exact H
     clear H
     have H := H1
     clear H1
     have H' := Aside0.mk H
     clear H
     go_wp2
     go_meet
     case rel => exact ⟨_, (2), (by first | rfl | (simp; done) | (simp [*]; done)), H', ⟨by have := HJ6.out; first | omega | exact Nat.le_refl _⟩, ⟨by repeat (first | (with_reducible first | exact HB.out | apply below_alloc | apply pw_below_drewN | apply below_drew1) | exact HB.out)⟩⟩
    ·replace c13 := Bool.eq_false_iff.mpr c13
     subst c13
     have H1 : (spec_LeafOf.j1 kj6 a0 a1 a2 a3 a4 t270) = some (r1, r2) := by rw [if_neg (show ¬ (false = true) by decide)] at H; exact H
     clear H
     have H := H1
     clear H1
     have H' := Aside0.mk H
     clear H
     go_wp2
     go_meet
     case rel => exact ⟨_, (t270), (by first | rfl | (simp; done) | (simp [*]; done)), H', ⟨by have := HJ6.out; first | omega | exact Nat.le_refl _⟩, ⟨by repeat (first | (with_reducible first | exact HB.out | apply below_alloc | apply pw_below_drewN | apply below_drew1) | exact HB.out)⟩⟩
   case rest =>
    clear HC12
    try clear c1
    try clear p2
    try clear c4
    try clear p6
    try clear c8
    try clear c8b0
    try clear c8b1
    try clear c10
    try clear c13
    try clear p2
    try clear p6
    obtain ⟨kq, x12_11, rfl, HA, HJ11, HB⟩ := hcut
    cases kq with
    | zero => exact absurd HA.out (by simp [spec_LeafOf.j1])
    | succ kj11 =>
     have H := HA.out
     clear HA
     simp only [spec_LeafOf.j1] at H
     by_cases c14 : x12_11 = 0
     ·rw [if_pos c14] at H
      have c14b0 : (x12_11 == 0) = true := beq_iff_eq.mpr c14
      have c14b1 : (x12_11 != 0) = false := bne_eq_false_iff_eq.mpr c14
      clear c14
      replace H := Option.bind_eq_some_iff.mp H
      obtain ⟨t273, A150, H⟩ := H
      replace H : (spec_LeafOf.l0 kj11 a3 a4 t273 0) = some (r1, r2) := H
      have A15 := Aside0.mk A150
      clear A150
      have H' := Aside0.mk H
      clear H
      go_wp2_with (first | ((with_reducible refine gate_callee (f := 46) rfl ?_); refine goesL_ (some 41) rfl rfl Tryd.func46 (by kernel_rfl) rfl #[.int .i64 a0, .int .i64 a1, .string a2] rfl (by (try simp only [List.map_toArray, List.map_cons, List.map_nil]); first | done | rfl | (simp only [List.length_drop, List.length_take]; rfl)) ?_; (with_reducible refine (spec_l04Leaves.calls kj11 a0 a1 a2 t273 _ A15.out).mono ?_); rintro e w16 ⟨v274, rfl, ho0, hb⟩; refine ⟨_, rfl, ?_⟩; have n0_ := Aside0.mk (Kd.R_lower ho0 (below_size (by repeat (first | (with_reducible first | exact HB.out | apply below_alloc | apply pw_below_drewN | apply below_drew1) | exact HB.out)))); have n1_ := Aside0.mk (below_step (by repeat (first | (with_reducible first | exact HB.out | apply below_alloc | apply pw_below_drewN | apply below_drew1) | exact HB.out)) hb); clear HB; have HO275 := n0_; have HB := n1_; clear n0_ n1_; (try clear hb); (try clear hb2); (try clear hk); (try clear hi); (try clear ho0)))
      go_loopg [14] kj11 (fun kq v14 w' => ∃ (x14_3 : Int), v14 = .int .i64 x14_3 ∧ Aside0 (spec_LeafOf.l0 kq a3 a4 t273 x14_3 = some (r1, r2)) ∧ Aside0 (kq ≤ kj11) ∧ Aside0 (Kd.R k39 39 w' w.heap.size (fun _ => True) v274 t273) ∧ Aside0 (Below w.heap.size w w'))
      case atStart => exact ⟨(0), (by first | rfl | (simp; done) | (simp [*]; done)), H', ⟨Nat.le_refl _⟩, ⟨by (with_reducible repeat (first | apply Kd.R_alloc | apply Kd.R_drewN | apply Kd.R_drew)); exact HO275.out⟩, ⟨by repeat (first | (with_reducible first | exact HB.out | apply below_alloc | apply pw_below_drewN | apply below_drew1) | exact HB.out)⟩⟩
      case round =>
       clear H'
       try clear c1
       try clear p2
       try clear c4
       try clear p6
       try clear c8
       try clear c8b0
       try clear c8b1
       try clear c10
       try clear c13
       try clear c14
       try clear c14b0
       try clear c14b1
       try clear p2
       try clear p6
       obtain ⟨x14_3, rfl, HA, HK3, HO_13, HB⟩ := hrel
       cases gk with
       | zero => exact absurd HA.out (by simp [spec_LeafOf.l0])
       | succ k3 =>
        have H := HA.out
        clear HA
        simp only [spec_LeafOf.l0] at H
        by_cases c17 : 0 ≤ x14_3
        ·rw [if_pos c17] at H
         have c17b0 : decide (0 ≤ x14_3) = true := decide_eq_true c17
         clear c17
         by_cases c18 : x14_3 < (t273.length : Int)
         ·rw [if_pos c18] at H
          have c18b0 : decide (x14_3 < (t273.length : Int)) = true := decide_eq_true c18
          clear c18
          by_cases c19 : ((rd_T39 t273 x14_3).f0) = a3
          ·rw [if_pos c19] at H
           have c19b0 : (((rd_T39 t273 x14_3).f0) == a3) = true := beq_iff_eq.mpr c19
           have c19b1 : (((rd_T39 t273 x14_3).f0) != a3) = false := bne_eq_false_iff_eq.mpr c19
           clear c19
           by_cases c20 : ((rd_T39 t273 x14_3).f1) = a4
           ·rw [if_pos c20] at H
            have c20b0 : (((rd_T39 t273 x14_3).f1) == a4) = true := beq_iff_eq.mpr c20
            have c20b1 : (((rd_T39 t273 x14_3).f1) != a4) = false := bne_eq_false_iff_eq.mpr c20
            clear c20
            simp only [Option.some.injEq, Prod.mk.injEq] at H
            obtain ⟨rfl, rfl⟩ := H
            obtain ⟨Ao21, co21, eo21⟩ := Kd.R_slice HO_13.out
            subst eo21
            have p276 : 0 ≤ (x14_3 : Int) := of_decide_eq_true (by first | (with_reducible assumption) | assumption)
            have q276 : x14_3 < (t273.length : Int) := of_decide_eq_true (by first | (with_reducible assumption) | assumption)
            obtain ⟨ad276, e276, hx276_0, hx276_1, hx276_2, hx276_3⟩ := at_T39 (Kd.R_reads' HO_13.out).2.2 x14_3 p276 q276
            cases e276
            replace p276 := eq_true p276
            replace q276 := eq_true q276
            have p277 : 0 ≤ (x14_3 : Int) := of_decide_eq_true (by first | (with_reducible assumption) | assumption)
            have q277 : x14_3 < (t273.length : Int) := of_decide_eq_true (by first | (with_reducible assumption) | assumption)
            obtain ⟨ad277, e277, hx277_0, hx277_1, hx277_2, hx277_3⟩ := at_T39 (Kd.R_reads' HO_13.out).2.2 x14_3 p277 q277
            obtain rfl : ad276 = ad277 := (by injection e277)
            replace p277 := eq_true p277
            replace q277 := eq_true q277
            go_wp2
            go_ret2
            exact ⟨by first | rfl | (simp only [Go.IntWalk.i64_left]; first | done | rfl) | (simp [errW_none, errW_some] <;> rfl) | (simp [*, errW_none, errW_some] <;> rfl), by repeat (first | (with_reducible first | exact HB.out | apply below_alloc | apply pw_below_drewN | apply below_drew1) | exact HB.out)⟩
           ·rw [if_neg c20] at H
            have c20b0 : (((rd_T39 t273 x14_3).f1) == a4) = false := beq_eq_false_iff_ne.mpr c20
            have c20b1 : (((rd_T39 t273 x14_3).f1) != a4) = true := bne_iff_ne.mpr c20
            have H' := Aside0.mk H
            clear H
            obtain ⟨Ao22, co22, eo22⟩ := Kd.R_slice HO_13.out
            subst eo22
            have p276 : 0 ≤ (x14_3 : Int) := of_decide_eq_true (by first | (with_reducible assumption) | assumption)
            have q276 : x14_3 < (t273.length : Int) := of_decide_eq_true (by first | (with_reducible assumption) | assumption)
            obtain ⟨ad276, e276, hx276_0, hx276_1, hx276_2, hx276_3⟩ := at_T39 (Kd.R_reads' HO_13.out).2.2 x14_3 p276 q276
            cases e276
            replace p276 := eq_true p276
            replace q276 := eq_true q276
            have p277 : 0 ≤ (x14_3 : Int) := of_decide_eq_true (by first | (with_reducible assumption) | assumption)
            have q277 : x14_3 < (t273.length : Int) := of_decide_eq_true (by first | (with_reducible assumption) | assumption)
            obtain ⟨ad277, e277, hx277_0, hx277_1, hx277_2, hx277_3⟩ := at_T39 (Kd.R_reads' HO_13.out).2.2 x14_3 p277 q277
            obtain rfl : ad276 = ad277 := (by injection e277)
            replace p277 := eq_true p277
            replace q277 := eq_true q277
            go_wp2
            go_roundg k3
            case measure => have := HJ6.out; have := HJ11.out; have := HK3.out; omega
            case rel => exact ⟨(wrap64 (x14_3 + 1)), (by first | rfl | (simp; done) | (simp [*]; done)), H', ⟨by have := HJ6.out; have := HJ11.out; have := HK3.out; omega⟩, ⟨by (with_reducible repeat (first | apply Kd.R_alloc | apply Kd.R_drewN | apply Kd.R_drew)); exact HO_13.out⟩, ⟨by repeat (first | (with_reducible first | exact HB.out | apply below_alloc | apply pw_below_drewN | apply below_drew1) | exact HB.out)⟩⟩
          ·rw [if_neg c19] at H
           have c19b0 : (((rd_T39 t273 x14_3).f0) == a3) = false := beq_eq_false_iff_ne.mpr c19
           have c19b1 : (((rd_T39 t273 x14_3).f0) != a3) = true := bne_iff_ne.mpr c19
           have H' := Aside0.mk H
           clear H
           obtain ⟨Ao23, co23, eo23⟩ := Kd.R_slice HO_13.out
           subst eo23
           have p276 : 0 ≤ (x14_3 : Int) := of_decide_eq_true (by first | (with_reducible assumption) | assumption)
           have q276 : x14_3 < (t273.length : Int) := of_decide_eq_true (by first | (with_reducible assumption) | assumption)
           obtain ⟨ad276, e276, hx276_0, hx276_1, hx276_2, hx276_3⟩ := at_T39 (Kd.R_reads' HO_13.out).2.2 x14_3 p276 q276
           cases e276
           replace p276 := eq_true p276
           replace q276 := eq_true q276
           go_wp2
           go_roundg k3
           case measure => have := HJ6.out; have := HJ11.out; have := HK3.out; omega
           case rel => exact ⟨(wrap64 (x14_3 + 1)), (by first | rfl | (simp; done) | (simp [*]; done)), H', ⟨by have := HJ6.out; have := HJ11.out; have := HK3.out; omega⟩, ⟨by (with_reducible repeat (first | apply Kd.R_alloc | apply Kd.R_drewN | apply Kd.R_drew)); exact HO_13.out⟩, ⟨by repeat (first | (with_reducible first | exact HB.out | apply below_alloc | apply pw_below_drewN | apply below_drew1) | exact HB.out)⟩⟩
         ·rw [if_neg c18] at H
          exact absurd H (by simp)
        ·rw [if_neg c17] at H
         exact absurd H (by simp)
     ·rw [if_neg c14] at H
      have c14b0 : (x12_11 == 0) = false := beq_eq_false_iff_ne.mpr c14
      have c14b1 : (x12_11 != 0) = true := bne_iff_ne.mpr c14
      simp only [Option.some.injEq, Prod.mk.injEq] at H
      obtain ⟨rfl, rfl⟩ := H
      go_wp2
      go_ret2
      exact ⟨by first | rfl | (simp only [Go.IntWalk.i64_left]; first | done | rfl) | (simp [errW_none, errW_some] <;> rfl) | (simp [*, errW_none, errW_some] <;> rfl), by repeat (first | (with_reducible first | exact HB.out | apply below_alloc | apply pw_below_drewN | apply below_drew1) | exact HB.out)⟩

/-! ### impl_inRange: function 52 -/
def impl_inRange.f (a0 : Int) (a1 : Int) (a2 : Int) : Option (Bool) := if a1 ≤ a0 then (some (decide (a0 ≤ a2))) else (some false)
set_option maxHeartbeats 8000000 in
set_option maxRecDepth 100000 in
theorem impl_inRange.calls (a0 : Int) (a1 : Int) (a2 : Int) (r : Bool) (w : World) (h : impl_inRange.f a0 a1 a2 = some r) :
  Calls Tryd.prog 52 #[.int .i64 a0, .int .i64 a1, .int .i64 a2] w fun e w' => e = .returned (.bool r) ∧ Drawn0 w w' := by
 have H : (if a1 ≤ a0 then (some (decide (a0 ≤ a2))) else (some false)) = some r := h
 clear h
 by_cases c4 : a1 ≤ a0
 ·rw [if_pos c4] at H
  have c4b0 : decide (a1 ≤ a0) = true := decide_eq_true c4
  clear c4
  obtain rfl := Option.some.inj H
  go_enter Tryd.func52, Tryd.ntmps52
  go_wp2
  go_ret
  exact ⟨by first | rfl | (simp only [Go.IntWalk.i64_left]; first | done | rfl) | (simp; done) | (simp [*]; done), by repeat (first | exact Drawn0.refl _ | apply Drawn0.step)⟩
 ·rw [if_neg c4] at H
  have c4b0 : decide (a1 ≤ a0) = false := decide_eq_false c4
  clear c4
  obtain rfl := Option.some.inj H
  go_enter Tryd.func52, Tryd.ntmps52
  go_wp2
  go_ret
  exact ⟨by first | rfl | (simp only [Go.IntWalk.i64_left]; first | done | rfl) | (simp; done) | (simp [*]; done), by repeat (first | exact Drawn0.refl _ | apply Drawn0.step)⟩

-- NOT PRINTED: function 53 (impl_Leaf_53)

-- NOT PRINTED: function 54 (impl_LeafOf_1)

/-! ### impl_LeafOf -/
def leaf_is (x y : Int) (v : S39) : Bool := if v.f0 = x then v.f1 == y else false
def leaf_idx (p : S39 → Bool) : List S39 → Int → Int
 | [], _ => -1
 | x :: t, i => if p x = true then i else leaf_idx p t (i + 1)
def impl_LeafOf.f (k : Nat) (a0 a1 : Int) (a2 : ByteArray) (a3 a4 : Int) : Option (Int × Int) := (impl_checkScheme.f k a0 a1 a2).bind fun c => if c = 0 then ((impl_inRange.f a3 0 (wrap64 (a0 - 1))).bind fun t => if t = true then ((impl_inRange.f a4 0 (wrap64 (a1 - 1))).bind fun u => if u = true then ((impl_foldSheet.f k a0 a1 a2).bind fun l => some (leaf_idx (leaf_is a3 a4) l 0, 0)) else some (0, 2)) else some (0, 2)) else some (0, c)
theorem impl_LeafOf.mono : ∀ a0 a1 a2 a3 a4 k, LeO (impl_LeafOf.f k a0 a1 a2 a3 a4) (impl_LeafOf.f (k + 1) a0 a1 a2 a3 a4) := by
 intro a0 a1 a2 a3 a4 k
 unfold impl_LeafOf.f
 exact LeO.bind (impl_checkScheme.mono _ _ _ _) (fun _ => LeO.ite (LeO.bind (LeO.refl _) (fun _ => LeO.ite (LeO.bind (LeO.refl _) (fun _ => LeO.ite (LeO.bind (impl_foldSheet.mono _ _ _ _) (fun _ => LeO.refl _)) (LeO.refl _))) (LeO.refl _))) (LeO.refl _))
set_option maxHeartbeats 2000000 in
theorem impl_LeafOf.closure (b1 b2 : Nat) (x y : Int) (v : S39) (w : World) (h1 : w.cell? ⟨b1, 0, none⟩ = some (.int .i64 x)) (h2 : w.cell? ⟨b2, 0, none⟩ = some (.int .i64 y)) :
  Calls Tryd.prog 54 #[.agg #[.int .i64 v.f0, .int .i64 v.f1, .bool v.f2, .bool v.f3], .pointer (some ⟨b1, 0, none⟩), .pointer (some ⟨b2, 0, none⟩)] w fun e w' => e = .returned (.bool (leaf_is x y v)) ∧ Below w.heap.size w w' := by
 have hb : ∀ o : Obj, Below w.heap.size w (w.alloc o) := fun o => below_alloc (Below.refl _ _) o
 have g1 : ∀ o : Obj, (w.alloc o).cell? ⟨b1, 0, none⟩ = some (.int .i64 x) := fun o => ((hb o).cell (World.block_lt_of_cell? _ _ h1)).trans h1
 have g2 : ∀ o : Obj, (w.alloc o).cell? ⟨b2, 0, none⟩ = some (.int .i64 y) := fun o => ((hb o).cell (World.block_lt_of_cell? _ _ h2)).trans h2
 have G := Aside0.mk hb
 clear h1 h2 hb
 obtain ⟨f0, f1, f2, f3⟩ := v
 by_cases c1 : f0 = x
 ·have d1 : (f0 == x) = true := by rw [c1]; exact beq_self_eq_true _
  have HP := Aside0.mk (show leaf_is x y ⟨f0, f1, f2, f3⟩ = (f1 == y) from if_pos c1)
  clear c1
  go_enter Tryd.func54, Tryd.ntmps54
  go_wp2
  go_ret
  exact ⟨by rw [HP.out]; rfl, G.out _⟩
 ·have d1 : (f0 == x) = false := beq_false_of_ne c1
  have HP := Aside0.mk (show leaf_is x y ⟨f0, f1, f2, f3⟩ = false from if_neg c1)
  clear c1
  go_enter Tryd.func54, Tryd.ntmps54
  go_wp2
  go_ret
  exact ⟨by rw [HP.out]; rfl, G.out _⟩
set_option maxHeartbeats 4000000 in
set_option maxRecDepth 100000 in
theorem impl_LeafOf.index (b1 b2 : Nat) (x y : Int) (A0 : Option Addr) (c0 : Nat) (l0 : List S39) (w : World) (h1 : w.cell? ⟨b1, 0, none⟩ = some (.int .i64 x)) (h2 : w.cell? ⟨b2, 0, none⟩ = some (.int .i64 y)) (hr0 : Kd.C k39 w A0 l0.length l0) (hc0 : l0.length ≤ c0) :
  Calls Tryd.prog 53 #[.slice A0 l0.length c0, .func (.func 54) #[] #[.pointer (some ⟨b1, 0, none⟩), .pointer (some ⟨b2, 0, none⟩)]] w fun e w' => e = .returned (.int .i64 (leaf_idx (leaf_is x y) l0 0)) ∧ Below w.heap.size w w' := by
 have hlm : l0.length ≤ 9223372036854775807 := hr0.2.1
 have HR0 := Aside0.mk hr0
 have HC0 := Aside0.mk hc0
 have H1 := Aside0.mk h1
 have H2 := Aside0.mk h2
 clear hr0 hc0 h1 h2
 go_enter Tryd.func53, Tryd.ntmps53
 go_wp2
 go_loopg [8] (l0.length + 1) (fun kq v8 w' => ∃ (i : Nat), v8 = .int .i64 (i : Int) ∧ Aside0 (i + kq = l0.length + 1 ∧ i ≤ l0.length) ∧ Aside0 (leaf_idx (leaf_is x y) (l0.drop i) i = leaf_idx (leaf_is x y) l0 0) ∧ Aside0 (Below w.heap.size w w'))
 case atStart => exact ⟨0, rfl, ⟨by omega, by omega⟩, ⟨by simp⟩, ⟨Below.refl _ _⟩⟩
 case round =>
  obtain ⟨i, rfl, HK, HD, HB⟩ := hrel
  cases gk with
  | zero =>
   exact absurd HK.out (fun h => by omega)
  | succ k1 =>
   by_cases hlt : i < l0.length
   ·obtain ⟨ad, e, hx0, hx1, hx2, hx3⟩ := at_T39 HR0.out (i : Int) (by omega) (by omega)
    cases e
    rw [Int.toNat_natCast] at hx0 hx1 hx2 hx3
    have hd : l0.drop i = rd_T39 l0 (i : Int) :: l0.drop (i + 1) := by
     rw [List.drop_eq_getElem_cons hlt]
     simp [rd_T39, List.getD_eq_getElem?_getD, hlt]
    have HD2 := HD.out
    rw [hd, leaf_idx] at HD2
    have HE := Aside0.mk HD2
    clear HD HD2 hd
    generalize rd_T39 l0 (i : Int) = v at hx0 hx1 hx2 hx3 HE
    replace hx0 := (HB.out.cell (World.block_lt_of_cell? _ _ hx0)).trans hx0
    replace hx1 := (HB.out.cell (World.block_lt_of_cell? _ _ hx1)).trans hx1
    replace hx2 := (HB.out.cell (World.block_lt_of_cell? _ _ hx2)).trans hx2
    replace hx3 := (HB.out.cell (World.block_lt_of_cell? _ _ hx3)).trans hx3
    have g1 := (HB.out.cell (World.block_lt_of_cell? _ _ H1.out)).trans H1.out
    have g2 := (HB.out.cell (World.block_lt_of_cell? _ _ H2.out)).trans H2.out
    have q1 := eq_true hlt
    have q2 := eq_true (show (i : Int) < (l0.length : Int) by omega)
    go_wp2_with fail
    refine (impl_LeafOf.closure b1 b2 x y v _ g1 g2).mono ?_
    rintro e w2 ⟨rfl, hb2⟩
    have HB2 := Aside0.mk (HB.out.trans (hb2.mono (below_size HB.out)))
    clear hb2 g1 g2 hx0 hx1 hx2 hx3
    generalize hp : leaf_is x y v = q at HE ⊢
    cases q with
    | true =>
     have HD2 := HE.out
     rw [if_pos rfl] at HD2
     have HF := Aside0.mk HD2
     clear HE HD2 hp
     go_wp2
     go_ret
     rw [← HF.out]
     exact ⟨rfl, HB2.out⟩
    | false =>
     have HD2 := HE.out
     rw [if_neg (by simp)] at HD2
     have HF := Aside0.mk HD2
     clear HE HD2 hp
     go_wp2
     go_roundg k1
     case measure => omega
     case rel => exact ⟨i + 1, by go_num, ⟨by have := HK.out; omega⟩, ⟨by rw [← HF.out]; rfl⟩, HB2⟩
   ·have HD2 := HD.out
    rw [List.drop_of_length_le (by omega)] at HD2
    have HF := Aside0.mk HD2
    clear HD HD2
    go_wp2
    go_ret
    rw [← HF.out]
    exact ⟨rfl, HB.out⟩
theorem impl_LeafOf.box {w : World} {a b : Value} {t : TypeId} {w1 : World} (hb : Below ((w.alloc (.cells #[a] t)).alloc (.cells #[b] t)).heap.size ((w.alloc (.cells #[a] t)).alloc (.cells #[b] t)) w1) : Below w.heap.size w w1 ∧ w1.cell? ⟨w.heap.size, 0, none⟩ = some a ∧ w1.cell? ⟨w.heap.size + 1, 0, none⟩ = some b := by
 have h0 : Below w.heap.size w ((w.alloc (.cells #[a] t)).alloc (.cells #[b] t)) := below_alloc (below_alloc (Below.refl _ _) _) _
 have k1 : ((w.alloc (.cells #[a] t)).alloc (.cells #[b] t)).heap[w.heap.size]? = some (.cells #[a] t (0, 0)) := (Lib.alloc_old (w.alloc (.cells #[a] t)) (.cells #[b] t) w.heap.size (by simp)).trans (heap_alloc_new _ _)
 have k2 : ((w.alloc (.cells #[a] t)).alloc (.cells #[b] t)).heap[w.heap.size + 1]? = some (.cells #[b] t (0, 0)) := by
  have := heap_alloc_new (w.alloc (.cells #[a] t)) (.cells #[b] t)
  rw [show (w.alloc (.cells #[a] t)).heap.size = w.heap.size + 1 by simp] at this
  exact this
 exact ⟨h0.trans (hb.mono (below_size h0)), (blk_cell ((hb.block _ (blk_lt k1)).trans k1) 0).trans rfl, (blk_cell ((hb.block _ (blk_lt k2)).trans k2) 0).trans rfl⟩
set_option maxHeartbeats 4000000 in
set_option maxRecDepth 100000 in
theorem impl_LeafOf.calls (k : Nat) (a0 a1 : Int) (a2 : ByteArray) (a3 a4 : Int) (r1 : Int) (r2 : Int) (w : World) (h : impl_LeafOf.f k a0 a1 a2 a3 a4 = some (r1, r2)) :
  Calls Tryd.prog 15 #[.int .i64 a0, .int .i64 a1, .string a2, .int .i64 a3, .int .i64 a4] w fun e w' => e = .returned (.tuple #[.int .i64 r1, .int .i64 r2]) ∧ Below w.heap.size w w' := by
 unfold impl_LeafOf.f at h
 obtain ⟨c, hc, h0⟩ := Option.bind_eq_some_iff.1 h
 clear h
 have h := h0
 clear h0
 have HC := Aside0.mk hc
 clear hc
 have hmf : ∀ (fn : Fn) (first cap : Array Value) (w : World), (Instr.makeFunc fn first cap).run Tryd.prog w = .ok (.func fn first cap) w := fun _ _ _ _ => rfl
 by_cases h0 : c = 0
 ·subst h0
  rw [if_pos rfl] at h
  obtain ⟨t, ht, h1⟩ := Option.bind_eq_some_iff.1 h
  clear h
  have HT := Aside0.mk ht
  clear ht
  cases t with
  | false =>
   rw [if_neg (by simp)] at h1
   injection h1 with h
   injection h with e1 e2
   subst e1 e2
   go_enter Tryd.func15, Tryd.ntmps15
   go_wp2_with (first | (go_at_call 48; (with_reducible refine (impl_checkScheme.calls k a0 a1 a2 0 _ HC.out).mono ?_); rintro e w1 ⟨rfl, hb1⟩; obtain ⟨h3, hc1, hc2⟩ := impl_LeafOf.box hb1; have HB1 := Aside0.mk h3; clear hb1 h3) | (go_at_call 52; (with_reducible refine (impl_inRange.calls a3 0 (wrap64 (a0 - 1)) false _ HT.out).mono ?_); rintro e w2 ⟨rfl, ⟨nd, rfl⟩⟩))
   go_ret2
   exact ⟨rfl, pw_below_drewN HB1.out _⟩
  | true =>
   rw [if_pos rfl] at h1
   obtain ⟨u, hu, h2⟩ := Option.bind_eq_some_iff.1 h1
   clear h1
   have HU := Aside0.mk hu
   clear hu
   cases u with
   | false =>
    rw [if_neg (by simp)] at h2
    injection h2 with h
    injection h with e1 e2
    subst e1 e2
    go_enter Tryd.func15, Tryd.ntmps15
    go_wp2_with (first | (go_at_call 48; (with_reducible refine (impl_checkScheme.calls k a0 a1 a2 0 _ HC.out).mono ?_); rintro e w1 ⟨rfl, hb1⟩; obtain ⟨h3, hc1, hc2⟩ := impl_LeafOf.box hb1; have HB1 := Aside0.mk h3; clear hb1 h3) | (go_at_call 52; (with_reducible refine (impl_inRange.calls a3 0 (wrap64 (a0 - 1)) true _ HT.out).mono ?_); rintro e w2 ⟨rfl, ⟨nd, rfl⟩⟩) | (go_at_call 52; (with_reducible refine (impl_inRange.calls a4 0 (wrap64 (a1 - 1)) false _ HU.out).mono ?_); rintro e w3 ⟨rfl, ⟨nd3, rfl⟩⟩))
    go_ret2
    exact ⟨rfl, by repeat (first | (with_reducible first | exact HB1.out | apply pw_below_drewN) | exact HB1.out)⟩
   | true =>
    rw [if_pos rfl] at h2
    obtain ⟨l, hl, h3⟩ := Option.bind_eq_some_iff.1 h2
    clear h2
    have HF := Aside0.mk hl
    clear hl
    injection h3 with h
    injection h with e1 e2
    subst e1 e2
    go_enter Tryd.func15, Tryd.ntmps15
    go_wp2_with (first | (go_at_call 48; (with_reducible refine (impl_checkScheme.calls k a0 a1 a2 0 _ HC.out).mono ?_); rintro e w1 ⟨rfl, hb1⟩; obtain ⟨h3, hc1, hc2⟩ := impl_LeafOf.box hb1; have HB1 := Aside0.mk h3; have HC1 := Aside0.mk hc1; have HC2 := Aside0.mk hc2; clear hb1 h3) | (go_at_call 52; (with_reducible refine (impl_inRange.calls a3 0 (wrap64 (a0 - 1)) true _ HT.out).mono ?_); rintro e w2 ⟨rfl, ⟨nd, rfl⟩⟩) | (go_at_call 52; (with_reducible refine (impl_inRange.calls a4 0 (wrap64 (a1 - 1)) true _ HU.out).mono ?_); rintro e w3 ⟨rfl, ⟨nd3, rfl⟩⟩) | (go_at_call 49; (with_reducible refine (impl_foldSheet.calls k a0 a1 a2 l _ HF.out).mono ?_); rintro e w4 ⟨v3, rfl, hR3, hb3⟩; obtain ⟨A3, c3, rfl⟩ := Kd.R_slice hR3; have HR3 := Aside0.mk (Kd.R_reads' hR3).2.2; have HC3 := Aside0.mk (Kd.R_reads' hR3).2.1; have HB4 := Aside0.mk (below_step (show Below w.heap.size w _ from by repeat (first | (with_reducible first | exact HB1.out | apply pw_below_drewN) | exact HB1.out)) hb3); have hc3 := (hb3.cell (World.block_lt_of_cell? _ _ HC1.out)).trans HC1.out; have hc4 := (hb3.cell (World.block_lt_of_cell? _ _ HC2.out)).trans HC2.out; clear hb3 hR3))
    go_wp2_with fail
    refine (impl_LeafOf.index w.heap.size (w.heap.size + 1) a3 a4 A3 c3 l _ hc3 hc4 HR3.out HC3.out).mono ?_
    rintro e w5 ⟨rfl, hb5⟩
    have HB6 := Aside0.mk (HB4.out.trans (hb5.mono (below_size HB4.out)))
    clear hb5
    go_wp2
    go_ret2
    exact ⟨rfl, HB6.out⟩
 ·rw [if_neg h0] at h
  injection h with h
  injection h with e1 e2
  subst e1 e2
  have d1 : (c == 0) = false := beq_false_of_ne h0
  have d2 : (c != 0) = true := bne_iff_ne.2 h0
  clear h0
  go_enter Tryd.func15, Tryd.ntmps15
  go_wp2_with (first | (go_at_call 48; (with_reducible refine (impl_checkScheme.calls k a0 a1 a2 c _ HC.out).mono ?_); rintro e w1 ⟨rfl, hb1⟩; obtain ⟨h3, hc1, hc2⟩ := impl_LeafOf.box hb1; have HB1 := Aside0.mk h3; clear hb1 h3))
  go_ret2
  exact ⟨rfl, HB1.out⟩

/-! ### spec_FoldSheet: function 16 -/
def spec_FoldSheet.f (k : Nat) (a0 : Int) (a1 : Int) (a2 : ByteArray) : Option ((List (S39)) × Int) := (spec_l04Code.f k a0 a1 a2).bind fun t278 => (if t278 = 0 then ((spec_l04Leaves.f k a0 a1 a2).bind fun t279 => (some (t279, 0))) else (some (([] : List (S39)), t278)))
theorem spec_FoldSheet.mono : ∀ a0 a1 a2 k, LeO (spec_FoldSheet.f k a0 a1 a2) (spec_FoldSheet.f (k + 1) a0 a1 a2) := by
 intro a0 a1 a2 k
 unfold spec_FoldSheet.f
 repeat' first
   | (with_reducible exact spec_l04Code.mono _ _ _ _)
   | (with_reducible exact spec_l04Leaves.mono _ _ _ _)
   | (with_reducible exact LeO.refl _)
   | (with_reducible exact LeO.none _)
   | (with_reducible refine LeO.ite ?_ ?_)
   | (with_reducible refine LeO.bind ?_ (fun _ => ?_))
   | exact spec_l04Code.mono _ _ _ _
   | exact spec_l04Leaves.mono _ _ _ _
   | exact LeO.none _
   | refine LeO.ite ?_ ?_
   | refine LeO.bind ?_ (fun _ => ?_)
set_option maxHeartbeats 8000000 in
set_option maxRecDepth 100000 in
theorem spec_FoldSheet.calls (k : Nat) (a0 : Int) (a1 : Int) (a2 : ByteArray) (r1 : List (S39)) (r2 : Int) (w : World) (h : spec_FoldSheet.f k a0 a1 a2 = some (r1, r2)) :
  Calls Tryd.prog 16 #[.int .i64 a0, .int .i64 a1, .string a2] w fun e w' => ∃ v0_ : Value, e = .returned (.tuple #[v0_, .int .i64 r2]) ∧ Kd.R k39 39 w' w.heap.size (fun _ => True) v0_ r1 ∧ Below w.heap.size w w' := by
 have HB := Aside0.mk (Below.refl w.heap.size w)
 have H : ((spec_l04Code.f k a0 a1 a2).bind fun t278 => (if t278 = 0 then ((spec_l04Leaves.f k a0 a1 a2).bind fun t279 => (some (t279, 0))) else (some (([] : List (S39)), t278)))) = some (r1, r2) := h
 clear h
 replace H := Option.bind_eq_some_iff.mp H
 obtain ⟨t278, A40, H⟩ := H
 replace H : (if t278 = 0 then ((spec_l04Leaves.f k a0 a1 a2).bind fun t279 => (some (t279, 0))) else (some (([] : List (S39)), t278))) = some (r1, r2) := H
 have A4 := Aside0.mk A40
 clear A40
 by_cases c5 : t278 = 0
 ·rw [if_pos c5] at H
  have c5b0 : (t278 == 0) = true := beq_iff_eq.mpr c5
  have c5b1 : (t278 != 0) = false := bne_eq_false_iff_eq.mpr c5
  clear c5
  replace H := Option.bind_eq_some_iff.mp H
  obtain ⟨t279, A60, H⟩ := H
  replace H : (some (t279, 0)) = some (r1, r2) := H
  have A6 := Aside0.mk A60
  clear A60
  simp only [Option.some.injEq, Prod.mk.injEq] at H
  obtain ⟨rfl, rfl⟩ := H
  go_enter Tryd.func16, Tryd.ntmps16
  go_wp2_with (first | ((with_reducible refine gate_callee (f := 45) rfl ?_); refine goesL_ (some 12) rfl rfl Tryd.func45 (by kernel_rfl) rfl #[.int .i64 a0, .int .i64 a1, .string a2] rfl (by (try simp only [List.map_toArray, List.map_cons, List.map_nil]); first | done | rfl | (simp only [List.length_drop, List.length_take]; rfl)) ?_; (with_reducible refine (spec_l04Code.calls k a0 a1 a2 t278 _ A4.out).mono ?_); rintro e w' ⟨rfl, ⟨nd, rfl⟩⟩; refine ⟨_, rfl, ?_⟩) | ((with_reducible refine gate_callee (f := 46) rfl ?_); refine goesL_ (some 19) rfl rfl Tryd.func46 (by kernel_rfl) rfl #[.int .i64 a0, .int .i64 a1, .string a2] rfl (by (try simp only [List.map_toArray, List.map_cons, List.map_nil]); first | done | rfl | (simp only [List.length_drop, List.length_take]; rfl)) ?_; (with_reducible refine (spec_l04Leaves.calls k a0 a1 a2 t279 _ A6.out).mono ?_); rintro e w7 ⟨v280, rfl, ho0, hb⟩; refine ⟨_, rfl, ?_⟩; have n0_ := Aside0.mk (Kd.R_lower ho0 (below_size (by repeat (first | (with_reducible first | exact HB.out | apply below_alloc | apply pw_below_drewN | apply below_drew1) | exact HB.out)))); have n1_ := Aside0.mk (below_step (by repeat (first | (with_reducible first | exact HB.out | apply below_alloc | apply pw_below_drewN | apply below_drew1) | exact HB.out)) hb); clear HB; have HO281 := n0_; have HB := n1_; clear n0_ n1_; (try clear hb); (try clear hb2); (try clear hk); (try clear hi); (try clear ho0)))
  go_ret2
  exact ⟨_, by first | rfl | (simp only [Go.IntWalk.i64_left]; first | done | rfl) | (simp [errW_none, errW_some] <;> rfl) | (simp [*, errW_none, errW_some] <;> rfl), by (with_reducible repeat (first | apply Kd.R_alloc | apply Kd.R_drewN | apply Kd.R_drew)); exact HO281.out, by repeat (first | (with_reducible first | exact HB.out | apply below_alloc | apply pw_below_drewN | apply below_drew1) | exact HB.out)⟩
 ·rw [if_neg c5] at H
  have c5b0 : (t278 == 0) = false := beq_eq_false_iff_ne.mpr c5
  have c5b1 : (t278 != 0) = true := bne_iff_ne.mpr c5
  simp only [Option.some.injEq, Prod.mk.injEq] at H
  obtain ⟨rfl, rfl⟩ := H
  go_enter Tryd.func16, Tryd.ntmps16
  go_wp2_with (first | ((with_reducible refine gate_callee (f := 45) rfl ?_); refine goesL_ (some 12) rfl rfl Tryd.func45 (by kernel_rfl) rfl #[.int .i64 a0, .int .i64 a1, .string a2] rfl (by (try simp only [List.map_toArray, List.map_cons, List.map_nil]); first | done | rfl | (simp only [List.length_drop, List.length_take]; rfl)) ?_; (with_reducible refine (spec_l04Code.calls k a0 a1 a2 t278 _ A4.out).mono ?_); rintro e w' ⟨rfl, ⟨nd, rfl⟩⟩; refine ⟨_, rfl, ?_⟩))
  go_ret2
  exact ⟨_, by first | rfl | (simp only [Go.IntWalk.i64_left]; first | done | rfl) | (simp [errW_none, errW_some] <;> rfl) | (simp [*, errW_none, errW_some] <;> rfl), by first | exact Kd.R_nil _ _ _ _ _ | exact Kd.N_nil _ _ _ _ _ | exact Kd.V_nil _ _ _ _ _ | exact Kd.Q_nil _ _ _ _ _ | exact Kd.S_nil _ _ _ _ _, by repeat (first | (with_reducible first | exact HB.out | apply below_alloc | apply pw_below_drewN | apply below_drew1) | exact HB.out)⟩

/-! ### impl_FoldSheet: function 17 -/
def impl_FoldSheet.f (k : Nat) (a0 : Int) (a1 : Int) (a2 : ByteArray) : Option ((List (S39)) × Int) := (impl_checkScheme.f k a0 a1 a2).bind fun t282 => (if t282 = 0 then ((impl_foldSheet.f k a0 a1 a2).bind fun t283 => (some (t283, 0))) else (some (([] : List (S39)), t282)))
theorem impl_FoldSheet.mono : ∀ a0 a1 a2 k, LeO (impl_FoldSheet.f k a0 a1 a2) (impl_FoldSheet.f (k + 1) a0 a1 a2) := by
 intro a0 a1 a2 k
 unfold impl_FoldSheet.f
 repeat' first
   | (with_reducible exact impl_checkScheme.mono _ _ _ _)
   | (with_reducible exact impl_foldSheet.mono _ _ _ _)
   | (with_reducible exact LeO.refl _)
   | (with_reducible exact LeO.none _)
   | (with_reducible refine LeO.ite ?_ ?_)
   | (with_reducible refine LeO.bind ?_ (fun _ => ?_))
   | exact impl_checkScheme.mono _ _ _ _
   | exact impl_foldSheet.mono _ _ _ _
   | exact LeO.none _
   | refine LeO.ite ?_ ?_
   | refine LeO.bind ?_ (fun _ => ?_)
set_option maxHeartbeats 8000000 in
set_option maxRecDepth 100000 in
theorem impl_FoldSheet.calls (k : Nat) (a0 : Int) (a1 : Int) (a2 : ByteArray) (r1 : List (S39)) (r2 : Int) (w : World) (h : impl_FoldSheet.f k a0 a1 a2 = some (r1, r2)) :
  Calls Tryd.prog 17 #[.int .i64 a0, .int .i64 a1, .string a2] w fun e w' => ∃ v0_ : Value, e = .returned (.tuple #[v0_, .int .i64 r2]) ∧ Kd.R k39 39 w' w.heap.size (fun _ => True) v0_ r1 ∧ Below w.heap.size w w' := by
 have HB := Aside0.mk (Below.refl w.heap.size w)
 have H : ((impl_checkScheme.f k a0 a1 a2).bind fun t282 => (if t282 = 0 then ((impl_foldSheet.f k a0 a1 a2).bind fun t283 => (some (t283, 0))) else (some (([] : List (S39)), t282)))) = some (r1, r2) := h
 clear h
 replace H := Option.bind_eq_some_iff.mp H
 obtain ⟨t282, A40, H⟩ := H
 replace H : (if t282 = 0 then ((impl_foldSheet.f k a0 a1 a2).bind fun t283 => (some (t283, 0))) else (some (([] : List (S39)), t282))) = some (r1, r2) := H
 have A4 := Aside0.mk A40
 clear A40
 by_cases c5 : t282 = 0
 ·rw [if_pos c5] at H
  have c5b0 : (t282 == 0) = true := beq_iff_eq.mpr c5
  have c5b1 : (t282 != 0) = false := bne_eq_false_iff_eq.mpr c5
  clear c5
  replace H := Option.bind_eq_some_iff.mp H
  obtain ⟨t283, A60, H⟩ := H
  replace H : (some (t283, 0)) = some (r1, r2) := H
  have A6 := Aside0.mk A60
  clear A60
  simp only [Option.some.injEq, Prod.mk.injEq] at H
  obtain ⟨rfl, rfl⟩ := H
  go_enter Tryd.func17, Tryd.ntmps17
  go_wp2_with (first | ((with_reducible refine gate_callee (f := 48) rfl ?_); refine goesL_ (some 12) rfl rfl Tryd.func48 (by kernel_rfl) rfl #[.int .i64 a0, .int .i64 a1, .string a2] rfl (by (try simp only [List.map_toArray, List.map_cons, List.map_nil]); first | done | rfl | (simp only [List.length_drop, List.length_take]; rfl)) ?_; (with_reducible refine (impl_checkScheme.calls k a0 a1 a2 t282 _ A4.out).mono ?_); rintro e w7 ⟨rfl, hb⟩; refine ⟨_, rfl, ?_⟩; have n0_ := Aside0.mk (below_step (by repeat (first | (with_reducible first | exact HB.out | apply below_alloc | apply pw_below_drewN | apply below_drew1) | exact HB.out)) hb); clear HB; have HB := n0_; clear n0_; (try clear hb); (try clear hb2); (try clear hk); (try clear hi)) | ((with_reducible refine gate_callee (f := 49) rfl ?_); refine goesL_ (some 19) rfl rfl Tryd.func49 (by kernel_rfl) rfl #[.int .i64 a0, .int .i64 a1, .string a2] rfl (by (try simp only [List.map_toArray, List.map_cons, List.map_nil]); first | done | rfl | (simp only [List.length_drop, List.length_take]; rfl)) ?_; (with_reducible refine (impl_foldSheet.calls k a0 a1 a2 t283 _ A6.out).mono ?_); rintro e w8 ⟨v284, rfl, ho0, hb⟩; refine ⟨_, rfl, ?_⟩; have n0_ := Aside0.mk (Kd.R_lower ho0 (below_size (by repeat (first | (with_reducible first | exact HB.out | apply below_alloc | apply pw_below_drewN | apply below_drew1) | exact HB.out)))); have n1_ := Aside0.mk (below_step (by repeat (first | (with_reducible first | exact HB.out | apply below_alloc | apply pw_below_drewN | apply below_drew1) | exact HB.out)) hb); clear HB; have HO285 := n0_; have HB := n1_; clear n0_ n1_; (try clear hb); (try clear hb2); (try clear hk); (try clear hi); (try clear ho0)))
  go_ret2
  exact ⟨_, by first | rfl | (simp only [Go.IntWalk.i64_left]; first | done | rfl) | (simp [errW_none, errW_some] <;> rfl) | (simp [*, errW_none, errW_some] <;> rfl), by (with_reducible repeat (first | apply Kd.R_alloc | apply Kd.R_drewN | apply Kd.R_drew)); exact HO285.out, by repeat (first | (with_reducible first | exact HB.out | apply below_alloc | apply pw_below_drewN | apply below_drew1) | exact HB.out)⟩
 ·rw [if_neg c5] at H
  have c5b0 : (t282 == 0) = false := beq_eq_false_iff_ne.mpr c5
  have c5b1 : (t282 != 0) = true := bne_iff_ne.mpr c5
  simp only [Option.some.injEq, Prod.mk.injEq] at H
  obtain ⟨rfl, rfl⟩ := H
  go_enter Tryd.func17, Tryd.ntmps17
  go_wp2_with (first | ((with_reducible refine gate_callee (f := 48) rfl ?_); refine goesL_ (some 12) rfl rfl Tryd.func48 (by kernel_rfl) rfl #[.int .i64 a0, .int .i64 a1, .string a2] rfl (by (try simp only [List.map_toArray, List.map_cons, List.map_nil]); first | done | rfl | (simp only [List.length_drop, List.length_take]; rfl)) ?_; (with_reducible refine (impl_checkScheme.calls k a0 a1 a2 t282 _ A4.out).mono ?_); rintro e w9 ⟨rfl, hb⟩; refine ⟨_, rfl, ?_⟩; have n0_ := Aside0.mk (below_step (by repeat (first | (with_reducible first | exact HB.out | apply below_alloc | apply pw_below_drewN | apply below_drew1) | exact HB.out)) hb); clear HB; have HB := n0_; clear n0_; (try clear hb); (try clear hb2); (try clear hk); (try clear hi)))
  go_ret2
  exact ⟨_, by first | rfl | (simp only [Go.IntWalk.i64_left]; first | done | rfl) | (simp [errW_none, errW_some] <;> rfl) | (simp [*, errW_none, errW_some] <;> rfl), by first | exact Kd.R_nil _ _ _ _ _ | exact Kd.N_nil _ _ _ _ _ | exact Kd.V_nil _ _ _ _ _ | exact Kd.Q_nil _ _ _ _ _ | exact Kd.S_nil _ _ _ _ _, by repeat (first | (with_reducible first | exact HB.out | apply below_alloc | apply pw_below_drewN | apply below_drew1) | exact HB.out)⟩

/-! ### laws_big: function 21 -/
def laws_big.f (l0 : List Int) : Option (Bool) := some (decide ((l0.length : Int) > 4096))
set_option maxHeartbeats 8000000 in
set_option maxRecDepth 100000 in
theorem laws_big.calls (A0 : Option Addr) (c0 : Nat) (l0 : List Int) (r : Bool) (w : World) (hr0 : Kd.C (Kd.int .u8) w A0 l0.length l0) (hc0 : l0.length ≤ c0) (h : laws_big.f l0 = some r) :
  Calls Tryd.prog 21 #[.slice A0 l0.length c0] w fun e w' => e = .returned (.bool r) ∧ Drawn0 w w' := by
 have HR0 := Aside0.mk hr0
 have HC0 := Aside0.mk hc0
 clear hr0 hc0
 have H : (some (decide ((l0.length : Int) > 4096))) = some r := h
 clear h
 obtain rfl := Option.some.inj H
 go_enter Tryd.func21, Tryd.ntmps21
 go_wp2
 go_ret
 exact ⟨by first | rfl | (simp only [Go.IntWalk.i64_left]; first | done | rfl) | (simp; done) | (simp [*]; done), by repeat (first | exact Drawn0.refl _ | apply Drawn0.step)⟩

end Go.Proofs.YtijbccmcfagnfaaDoor.QFnFolded
-- halved
