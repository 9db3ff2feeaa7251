-- Written by own_print.py of this session's repo over the kit's print (its output, turned at some places).
import Derived.Test.YtkpidjmhdagkfaaQFnPagePlacesx0
import Derived.Test.YtkpidjmhdagkfaaQFnPagePlacesx2
import Derived.Test.YtkpidjmhdagkfaaQFnPagePlacesx8
namespace Go.Proofs.Ytkpidjmhdagkfaa.QFnPagePlaces
open Go.RowKit Go.Proofs.YtkpidjmhdagkfaaW.PrintWords Go.Proofs.YtkpidjmhdagkfaaW.PrintLast Go.Proofs.YtkpidjmhdagkfaaW.PrintMore
attribute [local go_sem] max2_int min2_int max_two min_two max_three min_three max_four min_four   -- for this text's walks alone
set_option linter.unusedVariables false
set_option linter.unusedSimpArgs false

/-! ### spec_l04Draw: function 74 -/
def spec_l04Draw.l0 : Nat → Int → Int → Int → Int → List Int → List Int → Int → Int → Option (Int × Int × ByteArray × Int × Int)
 | 0, _, _, _, _, _, _, _, _ => none
 | k + 1, x5, x6, x7, x9, x11, x1000, x1001, x1002 => if (wrap64 (x7 + x9)) > 0 then ((spec_l01Next.f x1000 x1001 x1002 (wrap64 (x7 + x9))).bind fun bt248 => (if bt248.1 < x7 then ((spec_l01Next.f x1000 bt248.2.1 bt248.2.2 2).bind fun bt251 => (if 0 ≤ bt251.1 then (if bt251.1 < 2 then (if x11.length < 140737488355328 then (spec_l04Draw.l0 k x5 x6 (wrap64 (x7 - 1)) x9 (x11 ++ [bt (⟨#[76, 82]⟩ : ByteArray) bt251.1]) x1000 bt251.2.1 bt251.2.2) else (none)) else (none)) else (none))) else ((spec_l01Next.f x1000 bt248.2.1 bt248.2.2 2).bind fun bt257 => (if 0 ≤ bt257.1 then (if bt257.1 < 2 then (if x11.length < 140737488355328 then (spec_l04Draw.l0 k x5 x6 x7 (wrap64 (x9 - 1)) (x11 ++ [bt (⟨#[84, 66]⟩ : ByteArray) bt257.1]) x1000 bt257.2.1 bt257.2.2) else (none)) else (none)) else (none))))) else ((spec_l01Next.f x1000 x1001 x1002 40).bind fun bt263 => (if bt263.1 = 0 then (if (strOfNums x11).size + 1 ≤ 9223372036854775807 then (some (x5, x6, (strOfNums x11) ++ (⟨#[76]⟩ : ByteArray), bt263.2.1, bt263.2.2)) else (none)) else (if bt263.1 = 1 then (some (x5, x6, (⟨#[120]⟩ : ByteArray), bt263.2.1, bt263.2.2)) else (some (x5, x6, strOfNums x11, bt263.2.1, bt263.2.2)))))
def spec_l04Draw.f (k : Nat) (s0_0 : List Int) (s0_1 : Int) (s0_2 : Int) : Option (Int × Int × ByteArray × Int × Int) := (spec_l04DrawSide.f s0_0 s0_1 s0_2).bind fun bt235 => ((spec_l04DrawSide.f s0_0 bt235.2.1 bt235.2.2).bind fun bt238 => ((spec_l04Power.f bt235.1).bind fun bt241 => ((spec_l04Power.f bt238.1).bind fun bt243 => (spec_l04Draw.l0 k bt235.1 bt238.1 bt241.1 bt243.1 (([] : List Int)) s0_0 bt238.2.1 bt238.2.2))))
theorem spec_l04Draw.mono_l : ∀ k, (∀ y0 y1 y2 y3 y4 y5 y6 y7, LeO (spec_l04Draw.l0 k y0 y1 y2 y3 y4 y5 y6 y7) (spec_l04Draw.l0 (k + 1) y0 y1 y2 y3 y4 y5 y6 y7))
 | 0 => fun _ _ _ _ _ _ _ _ r h => by simp [spec_l04Draw.l0] at h
 | k + 1 => by
  have ih0 := spec_l04Draw.mono_l k
  ·intro y0 y1 y2 y3 y4 y5 y6 y7
   unfold spec_l04Draw.l0
   repeat' first
   | (with_reducible exact ih0 _ _ _ _ _ _ _ _)
   | (with_reducible exact LeO.refl _)
   | (with_reducible exact LeO.none _)
   | (with_reducible refine LeO.ite ?_ ?_)
   | (with_reducible refine LeO.bind ?_ (fun _ => ?_))
   | exact ih0 _ _ _ _ _ _ _ _
   | exact LeO.none _
   | refine LeO.ite ?_ ?_
   | refine LeO.bind ?_ (fun _ => ?_)
theorem spec_l04Draw.mono : ∀ a0 a1 a2 k, LeO (spec_l04Draw.f k a0 a1 a2) (spec_l04Draw.f (k + 1) a0 a1 a2) := by
 intro a0 a1 a2 k
 have ih0 := spec_l04Draw.mono_l k
 unfold spec_l04Draw.f
 repeat' first
   | (with_reducible exact ih0 _ _ _ _ _ _ _ _)
   | (with_reducible exact LeO.refl _)
   | (with_reducible exact LeO.none _)
   | (with_reducible refine LeO.ite ?_ ?_)
   | (with_reducible refine LeO.bind ?_ (fun _ => ?_))
   | exact ih0 _ _ _ _ _ _ _ _
   | exact LeO.none _
   | refine LeO.ite ?_ ?_
   | refine LeO.bind ?_ (fun _ => ?_)
set_option maxHeartbeats 8000000 in
set_option maxRecDepth 100000 in
theorem spec_l04Draw.calls (k : Nat) (g : Nat) (s0_0 : List Int) (s0_1 : Int) (s0_2 : Int) (r1 : Int) (r2 : Int) (r3 : ByteArray) (r4 : Int) (r5 : Int) (w0 w : World) (hI : IsS84 w0 w g s0_0 s0_1 s0_2) (hB : Below w0.heap.size w0 w) (h : spec_l04Draw.f k s0_0 s0_1 s0_2 = some (r1, r2, r3, r4, r5)) :
  Calls Try.prog 74 #[.pointer (some ⟨g, 0, none⟩)] w fun e w' => e = .returned (.tuple #[.int .i64 r1, .int .i64 r2, .string r3]) ∧ IsS84 w0 w' g s0_0 r4 r5 ∧ Below w0.heap.size w0 w' ∧ KeepBut w w' g none := by
 have HI0 := Aside0.mk hI
 have HK := a_ (KeepBut.refl w g none)
 have HL := Aside0.mk hB.size
 clear hI
 have HW0 := Aside0.mk hB.size
 have HB := Aside0.mk hB
 clear hB
 have H : ((spec_l04DrawSide.f s0_0 s0_1 s0_2).bind fun bt235 => ((spec_l04DrawSide.f s0_0 bt235.2.1 bt235.2.2).bind fun bt238 => ((spec_l04Power.f bt235.1).bind fun bt241 => ((spec_l04Power.f bt238.1).bind fun bt243 => (spec_l04Draw.l0 k bt235.1 bt238.1 bt241.1 bt243.1 (([] : List Int)) s0_0 bt238.2.1 bt238.2.2))))) = some (r1, r2, r3, r4, r5) := h
 clear h
 replace H := Option.bind_eq_some_iff.mp H
 obtain ⟨⟨t235, t236, t237⟩, A20, H⟩ := H
 replace H : ((spec_l04DrawSide.f s0_0 t236 t237).bind fun bt238 => ((spec_l04Power.f t235).bind fun bt241 => ((spec_l04Power.f bt238.1).bind fun bt243 => (spec_l04Draw.l0 k t235 bt238.1 bt241.1 bt243.1 (([] : List Int)) s0_0 bt238.2.1 bt238.2.2)))) = some (r1, r2, r3, r4, r5) := H
 have A2 := Aside0.mk A20
 clear A20
 replace H := Option.bind_eq_some_iff.mp H
 obtain ⟨⟨t238, t239, t240⟩, A30, H⟩ := H
 replace H : ((spec_l04Power.f t235).bind fun bt241 => ((spec_l04Power.f t238).bind fun bt243 => (spec_l04Draw.l0 k t235 t238 bt241.1 bt243.1 (([] : List Int)) s0_0 t239 t240))) = some (r1, r2, r3, r4, r5) := H
 have A3 := Aside0.mk A30
 clear A30
 replace H := Option.bind_eq_some_iff.mp H
 obtain ⟨⟨t241, t242⟩, A40, H⟩ := H
 replace H : ((spec_l04Power.f t238).bind fun bt243 => (spec_l04Draw.l0 k t235 t238 t241 bt243.1 (([] : List Int)) s0_0 t239 t240)) = some (r1, r2, r3, r4, r5) := H
 have A4 := Aside0.mk A40
 clear A40
 replace H := Option.bind_eq_some_iff.mp H
 obtain ⟨⟨t243, t244⟩, A50, H⟩ := H
 replace H : (spec_l04Draw.l0 k t235 t238 t241 t243 (([] : List Int)) s0_0 t239 t240) = some (r1, r2, r3, r4, r5) := H
 have A5 := Aside0.mk A50
 clear A50
 obtain ⟨y245, hy245⟩ : ∃ y_ : List Int, y_ = (([] : List Int)) := ⟨_, rfl⟩
 replace H : (spec_l04Draw.l0 k t235 t238 t241 t243 y245 s0_0 t239 t240) = some (r1, r2, r3, r4, r5) := rh_ hy245 H
 have Ny245 := Aside0.mk hy245
 clear hy245
 have H' := Aside0.mk H
 clear H
 go_enter Try.func74, Try.ntmps74
 go_wp2_with (first | (go_at_call 85; (with_reducible refine (spec_l04DrawSide.calls g s0_0 s0_1 s0_2 t235 t236 t237 w0 _ ?side1 ?side2 A2.out).mono ?_); (case side1 => exact z36_); (case side2 => exact z35_); rintro e w6 ⟨rfl, hi, hb, hk⟩; replace HK := a_ (KeepBut.trans z52_ hk (.inl rfl)); replace HB := a_ (hb); replace HI0 := a_ (hi); (try clear hb); (try clear hb2); (try clear hk); (try clear hi)) | (go_at_call 85; (with_reducible refine (spec_l04DrawSide.calls g s0_0 t236 t237 t238 t239 t240 w0 _ ?side1 ?side2 A3.out).mono ?_); (case side1 => exact z36_); (case side2 => exact z35_); rintro e w7 ⟨rfl, hi, hb, hk⟩; replace HK := a_ (KeepBut.trans z52_ hk (.inl rfl)); replace HB := a_ (hb); replace HI0 := a_ (hi); (try clear hb); (try clear hb2); (try clear hk); (try clear hi)) | (go_at_call 66; (with_reducible refine (spec_l04Power.calls t235 t241 t242 _ A4.out).mono ?_); rintro e w' ⟨rfl, ⟨nd, rfl⟩⟩; (try first | exact ⟨rfl, _, World.drewN_drewN _ _ _⟩ | exact ⟨rfl, _, Eq.trans (World.drewN_drewN _ _ _) (congrArg (World.drewN _) (Nat.add_assoc _ _ _))⟩)) | (go_at_call 66; (with_reducible refine (spec_l04Power.calls t238 t243 t244 _ A5.out).mono ?_); rintro e w' ⟨rfl, ⟨nd, rfl⟩⟩; (try first | exact ⟨rfl, _, World.drewN_drewN _ _ _⟩ | exact ⟨rfl, _, Eq.trans (World.drewN_drewN _ _ _) (congrArg (World.drewN _) (Nat.add_assoc _ _ _))⟩)) | ((with_reducible refine gate_dst (N := 26) rfl ?_); refine Kd.R_lit (Kd.int .u8) _ 5 ?hg (N := 26) ?hd (xs := ([] : List Int)) (inner := []) (ok := fun _ => True) (okp := fun _ => True) ?hr ?hp (fun _ hk => hk) trivial (Below.refl _ _) (Nat.le_refl _) (by simp) ?_; (case hd => rfl); (case hg => rfl); (case hr => first | (go_simp; done) | (go_simp; rfl)); (case hp => exact (Reps.none _ _)); intro v246 w8 ho9 hb hg_ hnew_; clear hg_ hnew_; (first | rw [← Ny245.out] at ho9 | (simp only [Int.reduceToNat] at ho9; rw [← Ny245.out] at ho9)); have HO247 := a_ (Kd.R_lower ho9 (keep_size (w := w) (g := g) (row := none) z52_)); replace HK := a_ (KeepBut.trans z52_ (KeepBut.of_below hb g none) (.inl rfl)); replace HB := a_ (below_step z35_ hb); replace HI0 := a_ (IsS84.below z36_ hb); clear hb ho9))
 repeat (go_quiet (first | (go_at_call 85; (with_reducible refine (spec_l04DrawSide.calls g s0_0 s0_1 s0_2 t235 t236 t237 w0 _ ?side1 ?side2 A2.out).mono ?_); (case side1 => exact z36_); (case side2 => exact z35_); rintro e w6 ⟨rfl, hi, hb, hk⟩; replace HK := a_ (KeepBut.trans z52_ hk (.inl rfl)); replace HB := a_ (hb); replace HI0 := a_ (hi); (try clear hb); (try clear hb2); (try clear hk); (try clear hi)) | (go_at_call 85; (with_reducible refine (spec_l04DrawSide.calls g s0_0 t236 t237 t238 t239 t240 w0 _ ?side1 ?side2 A3.out).mono ?_); (case side1 => exact z36_); (case side2 => exact z35_); rintro e w7 ⟨rfl, hi, hb, hk⟩; replace HK := a_ (KeepBut.trans z52_ hk (.inl rfl)); replace HB := a_ (hb); replace HI0 := a_ (hi); (try clear hb); (try clear hb2); (try clear hk); (try clear hi)) | (go_at_call 66; (with_reducible refine (spec_l04Power.calls t235 t241 t242 _ A4.out).mono ?_); rintro e w' ⟨rfl, ⟨nd, rfl⟩⟩; (try first | exact ⟨rfl, _, World.drewN_drewN _ _ _⟩ | exact ⟨rfl, _, Eq.trans (World.drewN_drewN _ _ _) (congrArg (World.drewN _) (Nat.add_assoc _ _ _))⟩)) | (go_at_call 66; (with_reducible refine (spec_l04Power.calls t238 t243 t244 _ A5.out).mono ?_); rintro e w' ⟨rfl, ⟨nd, rfl⟩⟩; (try first | exact ⟨rfl, _, World.drewN_drewN _ _ _⟩ | exact ⟨rfl, _, Eq.trans (World.drewN_drewN _ _ _) (congrArg (World.drewN _) (Nat.add_assoc _ _ _))⟩)) | ((with_reducible refine gate_dst (N := 26) rfl ?_); refine Kd.R_lit (Kd.int .u8) _ 5 ?hg (N := 26) ?hd (xs := ([] : List Int)) (inner := []) (ok := fun _ => True) (okp := fun _ => True) ?hr ?hp (fun _ hk => hk) trivial (Below.refl _ _) (Nat.le_refl _) (by simp) ?_; (case hd => rfl); (case hg => rfl); (case hr => first | (go_simp; done) | (go_simp; rfl)); (case hp => exact (Reps.none _ _)); intro v246 w8 ho9 hb hg_ hnew_; clear hg_ hnew_; (first | rw [← Ny245.out] at ho9 | (simp only [Int.reduceToNat] at ho9; rw [← Ny245.out] at ho9)); have HO247 := a_ (Kd.R_lower ho9 (keep_size (w := w) (g := g) (row := none) z52_)); replace HK := a_ (KeepBut.trans z52_ (KeepBut.of_below hb g none) (.inl rfl)); replace HB := a_ (below_step z35_ hb); replace HI0 := a_ (IsS84.below z36_ hb); clear hb ho9)); try go_wp2_with (first | (go_at_call 85; (with_reducible refine (spec_l04DrawSide.calls g s0_0 s0_1 s0_2 t235 t236 t237 w0 _ ?side1 ?side2 A2.out).mono ?_); (case side1 => exact z36_); (case side2 => exact z35_); rintro e w6 ⟨rfl, hi, hb, hk⟩; replace HK := a_ (KeepBut.trans z52_ hk (.inl rfl)); replace HB := a_ (hb); replace HI0 := a_ (hi); (try clear hb); (try clear hb2); (try clear hk); (try clear hi)) | (go_at_call 85; (with_reducible refine (spec_l04DrawSide.calls g s0_0 t236 t237 t238 t239 t240 w0 _ ?side1 ?side2 A3.out).mono ?_); (case side1 => exact z36_); (case side2 => exact z35_); rintro e w7 ⟨rfl, hi, hb, hk⟩; replace HK := a_ (KeepBut.trans z52_ hk (.inl rfl)); replace HB := a_ (hb); replace HI0 := a_ (hi); (try clear hb); (try clear hb2); (try clear hk); (try clear hi)) | (go_at_call 66; (with_reducible refine (spec_l04Power.calls t235 t241 t242 _ A4.out).mono ?_); rintro e w' ⟨rfl, ⟨nd, rfl⟩⟩; (try first | exact ⟨rfl, _, World.drewN_drewN _ _ _⟩ | exact ⟨rfl, _, Eq.trans (World.drewN_drewN _ _ _) (congrArg (World.drewN _) (Nat.add_assoc _ _ _))⟩)) | (go_at_call 66; (with_reducible refine (spec_l04Power.calls t238 t243 t244 _ A5.out).mono ?_); rintro e w' ⟨rfl, ⟨nd, rfl⟩⟩; (try first | exact ⟨rfl, _, World.drewN_drewN _ _ _⟩ | exact ⟨rfl, _, Eq.trans (World.drewN_drewN _ _ _) (congrArg (World.drewN _) (Nat.add_assoc _ _ _))⟩)) | ((with_reducible refine gate_dst (N := 26) rfl ?_); refine Kd.R_lit (Kd.int .u8) _ 5 ?hg (N := 26) ?hd (xs := ([] : List Int)) (inner := []) (ok := fun _ => True) (okp := fun _ => True) ?hr ?hp (fun _ hk => hk) trivial (Below.refl _ _) (Nat.le_refl _) (by simp) ?_; (case hd => rfl); (case hg => rfl); (case hr => first | (go_simp; done) | (go_simp; rfl)); (case hp => exact (Reps.none _ _)); intro v246 w8 ho9 hb hg_ hnew_; clear hg_ hnew_; (first | rw [← Ny245.out] at ho9 | (simp only [Int.reduceToNat] at ho9; rw [← Ny245.out] at ho9)); have HO247 := a_ (Kd.R_lower ho9 (keep_size (w := w) (g := g) (row := none) z52_)); replace HK := a_ (KeepBut.trans z52_ (KeepBut.of_below hb g none) (.inl rfl)); replace HB := a_ (below_step z35_ hb); replace HI0 := a_ (IsS84.below z36_ hb); clear hb ho9)))
 go_loopg [7, 9, 11] k (fun kq v7 v9 v11 w' => ∃ (x7_1 : Int) (x9_1 : Int) (x11_1 : List Int) (x1001_1 : Int) (x1002_1 : Int), v7 = .int .i64 x7_1 ∧ v9 = .int .i64 x9_1 ∧ Aside0 (spec_l04Draw.l0 kq t235 t238 x7_1 x9_1 x11_1 s0_0 x1001_1 x1002_1 = some (r1, r2, r3, r4, r5)) ∧ Aside0 (kq ≤ k) ∧ Aside0 (Kd.R (Kd.int .u8) 5 w' w.heap.size (fun _ => True) v11 x11_1) ∧ Aside0 (IsS84 w0 w' g s0_0 x1001_1 x1002_1) ∧ Aside0 (KeepBut w w' g none) ∧ Aside0 (Below w0.heap.size w0 w'))
 case atStart => exact ⟨(t241), (t243), (y245), (t239), (t240), z91_, z91_, H', ⟨Nat.le_refl _⟩, ⟨by (with_reducible repeat (first | apply Kd.R_alloc | apply Kd.R_drewN | apply Kd.R_drew)); exact HO247.out⟩, ⟨z36_⟩, ⟨z52_⟩, ⟨z35_⟩⟩
 case round =>
  clear H'
  obtain ⟨x7_1, x9_1, x11_1, x1001_1, x1002_1, rfl, rfl, HA, HK1, HO_11, HI0, HK, HB⟩ := hrel
  cases gk with
  | zero => exact absurd HA.out (by simp [spec_l04Draw.l0])
  | succ k1 =>
   have H := HA.out
   clear HA
   simp only [spec_l04Draw.l0] at H
   by_cases c10 : (wrap64 (x7_1 + x9_1)) > 0
   ·rw [if_pos c10] at H
    have c10b0 : decide (0 < (wrap64 (x7_1 + x9_1))) = true := decide_eq_true c10
    clear c10
    replace H := Option.bind_eq_some_iff.mp H
    obtain ⟨⟨t248, t249, t250⟩, A110, H⟩ := H
    replace H : (if t248 < x7_1 then ((spec_l01Next.f s0_0 t249 t250 2).bind fun bt251 => (if 0 ≤ bt251.1 then (if bt251.1 < 2 then (if x11_1.length < 140737488355328 then (spec_l04Draw.l0 k1 t235 t238 (wrap64 (x7_1 - 1)) x9_1 (x11_1 ++ [bt (⟨#[76, 82]⟩ : ByteArray) bt251.1]) s0_0 bt251.2.1 bt251.2.2) else (none)) else (none)) else (none))) else ((spec_l01Next.f s0_0 t249 t250 2).bind fun bt257 => (if 0 ≤ bt257.1 then (if bt257.1 < 2 then (if x11_1.length < 140737488355328 then (spec_l04Draw.l0 k1 t235 t238 x7_1 (wrap64 (x9_1 - 1)) (x11_1 ++ [bt (⟨#[84, 66]⟩ : ByteArray) bt257.1]) s0_0 bt257.2.1 bt257.2.2) else (none)) else (none)) else (none)))) = some (r1, r2, r3, r4, r5) := H
    have A11 := Aside0.mk A110
    clear A110
    by_cases c12 : t248 < x7_1
    ·rw [if_pos c12] at H
     have c12b0 : decide (t248 < x7_1) = true := decide_eq_true c12
     clear c12
     replace H := Option.bind_eq_some_iff.mp H
     obtain ⟨⟨t251, t252, t253⟩, A130, H⟩ := H
     replace H : (if 0 ≤ t251 then (if t251 < 2 then (if x11_1.length < 140737488355328 then (spec_l04Draw.l0 k1 t235 t238 (wrap64 (x7_1 - 1)) x9_1 (x11_1 ++ [bt (⟨#[76, 82]⟩ : ByteArray) t251]) s0_0 t252 t253) else (none)) else (none)) else (none)) = some (r1, r2, r3, r4, r5) := H
     have A13 := Aside0.mk A130
     clear A130
     by_cases c14 : 0 ≤ t251
     ·rw [if_pos c14] at H
      have c14b0 : decide (0 ≤ t251) = true := decide_eq_true c14
      clear c14
      by_cases c15 : t251 < 2
      ·rw [if_pos c15] at H
       have c15b0 : decide (t251 < 2) = true := decide_eq_true c15
       clear c15
       by_cases c17 : x11_1.length < 140737488355328
       ·rw [if_pos c17] at H
        have LMc17 := Aside0.mk c17
        clear c17
        obtain ⟨y254, hy254⟩ : ∃ y_ : List Int, y_ = (x11_1 ++ [bt (⟨#[76, 82]⟩ : ByteArray) t251]) := ⟨_, rfl⟩
        replace H : (spec_l04Draw.l0 k1 t235 t238 (wrap64 (x7_1 - 1)) x9_1 y254 s0_0 t252 t253) = some (r1, r2, r3, r4, r5) := rh_ hy254 H
        have Ny254 := Aside0.mk hy254
        clear hy254
        have H' := Aside0.mk H
        clear H
        go_wp2_with (first | (go_at_call 56; (with_reducible refine (spec_l01Next.calls g s0_0 x1001_1 x1002_1 (wrap64 (x7_1 + x9_1)) t248 t249 t250 w0 _ ?side1 ?side2 A11.out).mono ?_); (case side1 => exact z36_); (case side2 => exact z35_); rintro e w18 ⟨rfl, hi, hb, hk⟩; replace HO_11 := a_ (Kd.R_mono (Kd.R_keep (IsS84.apart (show IsS84 w0 _ g s0_0 x1001_1 x1002_1 from z36_) (ra_ HO_11.out) (by decide)) hk (fun _ h => h.2)) (fun _ h => h.1)); replace HK := a_ (KeepBut.trans z52_ hk (.inl rfl)); replace HB := a_ (hb); replace HI0 := a_ (hi); (try clear hb); (try clear hb2); (try clear hk); (try clear hi)) | (go_at_call 56; (with_reducible refine (spec_l01Next.calls g s0_0 t249 t250 2 t251 t252 t253 w0 _ ?side1 ?side2 A13.out).mono ?_); (case side1 => exact z36_); (case side2 => exact z35_); rintro e w19 ⟨rfl, hi, hb, hk⟩; replace HO_11 := a_ (Kd.R_mono (Kd.R_keep (IsS84.apart (show IsS84 w0 _ g s0_0 t249 t250 from z36_) (ra_ HO_11.out) (by decide)) hk (fun _ h => h.2)) (fun _ h => h.1)); replace HK := a_ (KeepBut.trans z52_ hk (.inl rfl)); replace HB := a_ (hb); replace HI0 := a_ (hi); (try clear hb); (try clear hb2); (try clear hk); (try clear hi); have p16 : 0 ≤ (t251 : Int) := of_decide_eq_true z90_; have q16 : t251 < (2 : Int) := of_decide_eq_true z90_; have hx16 := bt_at (⟨#[76, 82]⟩ : ByteArray) t251; replace p16 := eq_true p16; replace q16 := eq_true q16) | ((with_reducible refine gate_builtin (b := .append) (xs := #[.tmp 38, .tmp 42]) rfl ?_); at_builtin; refine Kd.R_append (Kd.int .u8) w.heap.size rfl (.tmp 38) (.tmp 42) 38 5 (.int .u8 0) 1 rfl Try.underlying38 info5 rfl (by decide) (by omega) u11 x11_1 (bt (⟨#[76, 82]⟩ : ByteArray) t251) [.int .u8 (bt (⟨#[76, 82]⟩ : ByteArray) t251)] (fun _ => True) (fun _ => False) rfl rfl ?aP (fun _ hk => hk.elim) ?aF ?aO (Below.refl _ _) ?aS ?aL ?_; (case aP => exact rfl); (case aF => exact (fun _ _ => trivial)); (case aO => exact (ra_ HO_11.out)); (case aS => exact (keep_size (w := w) (g := g) (row := none) z52_)); (case aL => have := LMc17.out; omega); intro v255 w20 ho hb hg hat; rw [← Ny254.out] at ho; replace HB := a_ (below_weaken z35_ HL.out hb); replace HI0 := a_ (IsS84.grown z36_ hg (IsS84.own_ne HI0.out HO_11.out (by decide))); replace HK := a_ (KeepBut.trans z52_ (KeepBut.of_grown hg g) (Kd.R_base2 HO_11.out)); have HO256 := a_ (ho); clear HO_11; clear ho hb hg hat))
        repeat (go_quiet (first | (go_at_call 56; (with_reducible refine (spec_l01Next.calls g s0_0 x1001_1 x1002_1 (wrap64 (x7_1 + x9_1)) t248 t249 t250 w0 _ ?side1 ?side2 A11.out).mono ?_); (case side1 => exact z36_); (case side2 => exact z35_); rintro e w18 ⟨rfl, hi, hb, hk⟩; replace HO_11 := a_ (Kd.R_mono (Kd.R_keep (IsS84.apart (show IsS84 w0 _ g s0_0 x1001_1 x1002_1 from z36_) (ra_ HO_11.out) (by decide)) hk (fun _ h => h.2)) (fun _ h => h.1)); replace HK := a_ (KeepBut.trans z52_ hk (.inl rfl)); replace HB := a_ (hb); replace HI0 := a_ (hi); (try clear hb); (try clear hb2); (try clear hk); (try clear hi)) | (go_at_call 56; (with_reducible refine (spec_l01Next.calls g s0_0 t249 t250 2 t251 t252 t253 w0 _ ?side1 ?side2 A13.out).mono ?_); (case side1 => exact z36_); (case side2 => exact z35_); rintro e w19 ⟨rfl, hi, hb, hk⟩; replace HO_11 := a_ (Kd.R_mono (Kd.R_keep (IsS84.apart (show IsS84 w0 _ g s0_0 t249 t250 from z36_) (ra_ HO_11.out) (by decide)) hk (fun _ h => h.2)) (fun _ h => h.1)); replace HK := a_ (KeepBut.trans z52_ hk (.inl rfl)); replace HB := a_ (hb); replace HI0 := a_ (hi); (try clear hb); (try clear hb2); (try clear hk); (try clear hi); have p16 : 0 ≤ (t251 : Int) := of_decide_eq_true z90_; have q16 : t251 < (2 : Int) := of_decide_eq_true z90_; have hx16 := bt_at (⟨#[76, 82]⟩ : ByteArray) t251; replace p16 := eq_true p16; replace q16 := eq_true q16) | ((with_reducible refine gate_builtin (b := .append) (xs := #[.tmp 38, .tmp 42]) rfl ?_); at_builtin; refine Kd.R_append (Kd.int .u8) w.heap.size rfl (.tmp 38) (.tmp 42) 38 5 (.int .u8 0) 1 rfl Try.underlying38 info5 rfl (by decide) (by omega) u11 x11_1 (bt (⟨#[76, 82]⟩ : ByteArray) t251) [.int .u8 (bt (⟨#[76, 82]⟩ : ByteArray) t251)] (fun _ => True) (fun _ => False) rfl rfl ?aP (fun _ hk => hk.elim) ?aF ?aO (Below.refl _ _) ?aS ?aL ?_; (case aP => exact rfl); (case aF => exact (fun _ _ => trivial)); (case aO => exact (ra_ HO_11.out)); (case aS => exact (keep_size (w := w) (g := g) (row := none) z52_)); (case aL => have := LMc17.out; omega); intro v255 w20 ho hb hg hat; rw [← Ny254.out] at ho; replace HB := a_ (below_weaken z35_ HL.out hb); replace HI0 := a_ (IsS84.grown z36_ hg (IsS84.own_ne HI0.out HO_11.out (by decide))); replace HK := a_ (KeepBut.trans z52_ (KeepBut.of_grown hg g) (Kd.R_base2 HO_11.out)); have HO256 := a_ (ho); clear HO_11; clear ho hb hg hat)); try go_wp2_with (first | (go_at_call 56; (with_reducible refine (spec_l01Next.calls g s0_0 x1001_1 x1002_1 (wrap64 (x7_1 + x9_1)) t248 t249 t250 w0 _ ?side1 ?side2 A11.out).mono ?_); (case side1 => exact z36_); (case side2 => exact z35_); rintro e w18 ⟨rfl, hi, hb, hk⟩; replace HO_11 := a_ (Kd.R_mono (Kd.R_keep (IsS84.apart (show IsS84 w0 _ g s0_0 x1001_1 x1002_1 from z36_) (ra_ HO_11.out) (by decide)) hk (fun _ h => h.2)) (fun _ h => h.1)); replace HK := a_ (KeepBut.trans z52_ hk (.inl rfl)); replace HB := a_ (hb); replace HI0 := a_ (hi); (try clear hb); (try clear hb2); (try clear hk); (try clear hi)) | (go_at_call 56; (with_reducible refine (spec_l01Next.calls g s0_0 t249 t250 2 t251 t252 t253 w0 _ ?side1 ?side2 A13.out).mono ?_); (case side1 => exact z36_); (case side2 => exact z35_); rintro e w19 ⟨rfl, hi, hb, hk⟩; replace HO_11 := a_ (Kd.R_mono (Kd.R_keep (IsS84.apart (show IsS84 w0 _ g s0_0 t249 t250 from z36_) (ra_ HO_11.out) (by decide)) hk (fun _ h => h.2)) (fun _ h => h.1)); replace HK := a_ (KeepBut.trans z52_ hk (.inl rfl)); replace HB := a_ (hb); replace HI0 := a_ (hi); (try clear hb); (try clear hb2); (try clear hk); (try clear hi); have p16 : 0 ≤ (t251 : Int) := of_decide_eq_true z90_; have q16 : t251 < (2 : Int) := of_decide_eq_true z90_; have hx16 := bt_at (⟨#[76, 82]⟩ : ByteArray) t251; replace p16 := eq_true p16; replace q16 := eq_true q16) | ((with_reducible refine gate_builtin (b := .append) (xs := #[.tmp 38, .tmp 42]) rfl ?_); at_builtin; refine Kd.R_append (Kd.int .u8) w.heap.size rfl (.tmp 38) (.tmp 42) 38 5 (.int .u8 0) 1 rfl Try.underlying38 info5 rfl (by decide) (by omega) u11 x11_1 (bt (⟨#[76, 82]⟩ : ByteArray) t251) [.int .u8 (bt (⟨#[76, 82]⟩ : ByteArray) t251)] (fun _ => True) (fun _ => False) rfl rfl ?aP (fun _ hk => hk.elim) ?aF ?aO (Below.refl _ _) ?aS ?aL ?_; (case aP => exact rfl); (case aF => exact (fun _ _ => trivial)); (case aO => exact (ra_ HO_11.out)); (case aS => exact (keep_size (w := w) (g := g) (row := none) z52_)); (case aL => have := LMc17.out; omega); intro v255 w20 ho hb hg hat; rw [← Ny254.out] at ho; replace HB := a_ (below_weaken z35_ HL.out hb); replace HI0 := a_ (IsS84.grown z36_ hg (IsS84.own_ne HI0.out HO_11.out (by decide))); replace HK := a_ (KeepBut.trans z52_ (KeepBut.of_grown hg g) (Kd.R_base2 HO_11.out)); have HO256 := a_ (ho); clear HO_11; clear ho hb hg hat)))
        try (have hw1_ := Go.IntWalk.i64_left (x7_1 + x9_1); (go_quiet (first | (go_at_call 56; (with_reducible refine (spec_l01Next.calls g s0_0 x1001_1 x1002_1 (wrap64 (x7_1 + x9_1)) t248 t249 t250 w0 _ ?side1 ?side2 A11.out).mono ?_); (case side1 => exact z36_); (case side2 => exact z35_); rintro e w18 ⟨rfl, hi, hb, hk⟩; replace HO_11 := a_ (Kd.R_mono (Kd.R_keep (IsS84.apart (show IsS84 w0 _ g s0_0 x1001_1 x1002_1 from z36_) (ra_ HO_11.out) (by decide)) hk (fun _ h => h.2)) (fun _ h => h.1)); replace HK := a_ (KeepBut.trans z52_ hk (.inl rfl)); replace HB := a_ (hb); replace HI0 := a_ (hi); (try clear hb); (try clear hb2); (try clear hk); (try clear hi)) | (go_at_call 56; (with_reducible refine (spec_l01Next.calls g s0_0 t249 t250 2 t251 t252 t253 w0 _ ?side1 ?side2 A13.out).mono ?_); (case side1 => exact z36_); (case side2 => exact z35_); rintro e w19 ⟨rfl, hi, hb, hk⟩; replace HO_11 := a_ (Kd.R_mono (Kd.R_keep (IsS84.apart (show IsS84 w0 _ g s0_0 t249 t250 from z36_) (ra_ HO_11.out) (by decide)) hk (fun _ h => h.2)) (fun _ h => h.1)); replace HK := a_ (KeepBut.trans z52_ hk (.inl rfl)); replace HB := a_ (hb); replace HI0 := a_ (hi); (try clear hb); (try clear hb2); (try clear hk); (try clear hi); have p16 : 0 ≤ (t251 : Int) := of_decide_eq_true z90_; have q16 : t251 < (2 : Int) := of_decide_eq_true z90_; have hx16 := bt_at (⟨#[76, 82]⟩ : ByteArray) t251; replace p16 := eq_true p16; replace q16 := eq_true q16) | ((with_reducible refine gate_builtin (b := .append) (xs := #[.tmp 38, .tmp 42]) rfl ?_); at_builtin; refine Kd.R_append (Kd.int .u8) w.heap.size rfl (.tmp 38) (.tmp 42) 38 5 (.int .u8 0) 1 rfl Try.underlying38 info5 rfl (by decide) (by omega) u11 x11_1 (bt (⟨#[76, 82]⟩ : ByteArray) t251) [.int .u8 (bt (⟨#[76, 82]⟩ : ByteArray) t251)] (fun _ => True) (fun _ => False) rfl rfl ?aP (fun _ hk => hk.elim) ?aF ?aO (Below.refl _ _) ?aS ?aL ?_; (case aP => exact rfl); (case aF => exact (fun _ _ => trivial)); (case aO => exact (ra_ HO_11.out)); (case aS => exact (keep_size (w := w) (g := g) (row := none) z52_)); (case aL => have := LMc17.out; omega); intro v255 w20 ho hb hg hat; rw [← Ny254.out] at ho; replace HB := a_ (below_weaken z35_ HL.out hb); replace HI0 := a_ (IsS84.grown z36_ hg (IsS84.own_ne HI0.out HO_11.out (by decide))); replace HK := a_ (KeepBut.trans z52_ (KeepBut.of_grown hg g) (Kd.R_base2 HO_11.out)); have HO256 := a_ (ho); clear HO_11; clear ho hb hg hat))); (try go_wp2_with (first | (go_at_call 56; (with_reducible refine (spec_l01Next.calls g s0_0 x1001_1 x1002_1 (wrap64 (x7_1 + x9_1)) t248 t249 t250 w0 _ ?side1 ?side2 A11.out).mono ?_); (case side1 => exact z36_); (case side2 => exact z35_); rintro e w18 ⟨rfl, hi, hb, hk⟩; replace HO_11 := a_ (Kd.R_mono (Kd.R_keep (IsS84.apart (show IsS84 w0 _ g s0_0 x1001_1 x1002_1 from z36_) (ra_ HO_11.out) (by decide)) hk (fun _ h => h.2)) (fun _ h => h.1)); replace HK := a_ (KeepBut.trans z52_ hk (.inl rfl)); replace HB := a_ (hb); replace HI0 := a_ (hi); (try clear hb); (try clear hb2); (try clear hk); (try clear hi)) | (go_at_call 56; (with_reducible refine (spec_l01Next.calls g s0_0 t249 t250 2 t251 t252 t253 w0 _ ?side1 ?side2 A13.out).mono ?_); (case side1 => exact z36_); (case side2 => exact z35_); rintro e w19 ⟨rfl, hi, hb, hk⟩; replace HO_11 := a_ (Kd.R_mono (Kd.R_keep (IsS84.apart (show IsS84 w0 _ g s0_0 t249 t250 from z36_) (ra_ HO_11.out) (by decide)) hk (fun _ h => h.2)) (fun _ h => h.1)); replace HK := a_ (KeepBut.trans z52_ hk (.inl rfl)); replace HB := a_ (hb); replace HI0 := a_ (hi); (try clear hb); (try clear hb2); (try clear hk); (try clear hi); have p16 : 0 ≤ (t251 : Int) := of_decide_eq_true z90_; have q16 : t251 < (2 : Int) := of_decide_eq_true z90_; have hx16 := bt_at (⟨#[76, 82]⟩ : ByteArray) t251; replace p16 := eq_true p16; replace q16 := eq_true q16) | ((with_reducible refine gate_builtin (b := .append) (xs := #[.tmp 38, .tmp 42]) rfl ?_); at_builtin; refine Kd.R_append (Kd.int .u8) w.heap.size rfl (.tmp 38) (.tmp 42) 38 5 (.int .u8 0) 1 rfl Try.underlying38 info5 rfl (by decide) (by omega) u11 x11_1 (bt (⟨#[76, 82]⟩ : ByteArray) t251) [.int .u8 (bt (⟨#[76, 82]⟩ : ByteArray) t251)] (fun _ => True) (fun _ => False) rfl rfl ?aP (fun _ hk => hk.elim) ?aF ?aO (Below.refl _ _) ?aS ?aL ?_; (case aP => exact rfl); (case aF => exact (fun _ _ => trivial)); (case aO => exact (ra_ HO_11.out)); (case aS => exact (keep_size (w := w) (g := g) (row := none) z52_)); (case aL => have := LMc17.out; omega); intro v255 w20 ho hb hg hat; rw [← Ny254.out] at ho; replace HB := a_ (below_weaken z35_ HL.out hb); replace HI0 := a_ (IsS84.grown z36_ hg (IsS84.own_ne HI0.out HO_11.out (by decide))); replace HK := a_ (KeepBut.trans z52_ (KeepBut.of_grown hg g) (Kd.R_base2 HO_11.out)); have HO256 := a_ (ho); clear HO_11; clear ho hb hg hat))))
        go_roundg k1
        case measure => have := HK1.out; omega
        case rel => exact ⟨(wrap64 (x7_1 - 1)), (x9_1), (y254), (t252), (t253), z91_, z91_, H', ⟨z94_⟩, ⟨by (with_reducible repeat (first | apply Kd.R_alloc | apply Kd.R_drewN | apply Kd.R_drew)); exact HO256.out⟩, ⟨z36_⟩, ⟨z52_⟩, ⟨z35_⟩⟩
       ·rw [if_neg c17] at H
        exact absurd H (by simp)
      ·rw [if_neg c15] at H
       exact absurd H (by simp)
     ·rw [if_neg c14] at H
      exact absurd H (by simp)
    ·rw [if_neg c12] at H
     have c12b0 : decide (t248 < x7_1) = false := decide_eq_false c12
     clear c12
     replace H := Option.bind_eq_some_iff.mp H
     obtain ⟨⟨t257, t258, t259⟩, A210, H⟩ := H
     replace H : (if 0 ≤ t257 then (if t257 < 2 then (if x11_1.length < 140737488355328 then (spec_l04Draw.l0 k1 t235 t238 x7_1 (wrap64 (x9_1 - 1)) (x11_1 ++ [bt (⟨#[84, 66]⟩ : ByteArray) t257]) s0_0 t258 t259) else (none)) else (none)) else (none)) = some (r1, r2, r3, r4, r5) := H
     have A21 := Aside0.mk A210
     clear A210
     by_cases c22 : 0 ≤ t257
     ·rw [if_pos c22] at H
      have c22b0 : decide (0 ≤ t257) = true := decide_eq_true c22
      clear c22
      by_cases c23 : t257 < 2
      ·rw [if_pos c23] at H
       have c23b0 : decide (t257 < 2) = true := decide_eq_true c23
       clear c23
       by_cases c25 : x11_1.length < 140737488355328
       ·rw [if_pos c25] at H
        have LMc25 := Aside0.mk c25
        clear c25
        obtain ⟨y260, hy260⟩ : ∃ y_ : List Int, y_ = (x11_1 ++ [bt (⟨#[84, 66]⟩ : ByteArray) t257]) := ⟨_, rfl⟩
        replace H : (spec_l04Draw.l0 k1 t235 t238 x7_1 (wrap64 (x9_1 - 1)) y260 s0_0 t258 t259) = some (r1, r2, r3, r4, r5) := rh_ hy260 H
        have Ny260 := Aside0.mk hy260
        clear hy260
        have H' := Aside0.mk H
        clear H
        go_wp2_with (first | (go_at_call 56; (with_reducible refine (spec_l01Next.calls g s0_0 x1001_1 x1002_1 (wrap64 (x7_1 + x9_1)) t248 t249 t250 w0 _ ?side1 ?side2 A11.out).mono ?_); (case side1 => exact z36_); (case side2 => exact z35_); rintro e w26 ⟨rfl, hi, hb, hk⟩; replace HO_11 := a_ (Kd.R_mono (Kd.R_keep (IsS84.apart (show IsS84 w0 _ g s0_0 x1001_1 x1002_1 from z36_) (ra_ HO_11.out) (by decide)) hk (fun _ h => h.2)) (fun _ h => h.1)); replace HK := a_ (KeepBut.trans z52_ hk (.inl rfl)); replace HB := a_ (hb); replace HI0 := a_ (hi); (try clear hb); (try clear hb2); (try clear hk); (try clear hi)) | (go_at_call 56; (with_reducible refine (spec_l01Next.calls g s0_0 t249 t250 2 t257 t258 t259 w0 _ ?side1 ?side2 A21.out).mono ?_); (case side1 => exact z36_); (case side2 => exact z35_); rintro e w27 ⟨rfl, hi, hb, hk⟩; replace HO_11 := a_ (Kd.R_mono (Kd.R_keep (IsS84.apart (show IsS84 w0 _ g s0_0 t249 t250 from z36_) (ra_ HO_11.out) (by decide)) hk (fun _ h => h.2)) (fun _ h => h.1)); replace HK := a_ (KeepBut.trans z52_ hk (.inl rfl)); replace HB := a_ (hb); replace HI0 := a_ (hi); (try clear hb); (try clear hb2); (try clear hk); (try clear hi); have p24 : 0 ≤ (t257 : Int) := of_decide_eq_true z90_; have q24 : t257 < (2 : Int) := of_decide_eq_true z90_; have hx24 := bt_at (⟨#[84, 66]⟩ : ByteArray) t257; replace p24 := eq_true p24; replace q24 := eq_true q24) | ((with_reducible refine gate_builtin (b := .append) (xs := #[.tmp 46, .tmp 50]) rfl ?_); at_builtin; refine Kd.R_append (Kd.int .u8) w.heap.size rfl (.tmp 46) (.tmp 50) 38 5 (.int .u8 0) 1 rfl Try.underlying38 info5 rfl (by decide) (by omega) u11 x11_1 (bt (⟨#[84, 66]⟩ : ByteArray) t257) [.int .u8 (bt (⟨#[84, 66]⟩ : ByteArray) t257)] (fun _ => True) (fun _ => False) rfl rfl ?aP (fun _ hk => hk.elim) ?aF ?aO (Below.refl _ _) ?aS ?aL ?_; (case aP => exact rfl); (case aF => exact (fun _ _ => trivial)); (case aO => exact (ra_ HO_11.out)); (case aS => exact (keep_size (w := w) (g := g) (row := none) z52_)); (case aL => have := LMc25.out; omega); intro v261 w28 ho hb hg hat; rw [← Ny260.out] at ho; replace HB := a_ (below_weaken z35_ HL.out hb); replace HI0 := a_ (IsS84.grown z36_ hg (IsS84.own_ne HI0.out HO_11.out (by decide))); replace HK := a_ (KeepBut.trans z52_ (KeepBut.of_grown hg g) (Kd.R_base2 HO_11.out)); have HO262 := a_ (ho); clear HO_11; clear ho hb hg hat))
        repeat (go_quiet (first | (go_at_call 56; (with_reducible refine (spec_l01Next.calls g s0_0 x1001_1 x1002_1 (wrap64 (x7_1 + x9_1)) t248 t249 t250 w0 _ ?side1 ?side2 A11.out).mono ?_); (case side1 => exact z36_); (case side2 => exact z35_); rintro e w26 ⟨rfl, hi, hb, hk⟩; replace HO_11 := a_ (Kd.R_mono (Kd.R_keep (IsS84.apart (show IsS84 w0 _ g s0_0 x1001_1 x1002_1 from z36_) (ra_ HO_11.out) (by decide)) hk (fun _ h => h.2)) (fun _ h => h.1)); replace HK := a_ (KeepBut.trans z52_ hk (.inl rfl)); replace HB := a_ (hb); replace HI0 := a_ (hi); (try clear hb); (try clear hb2); (try clear hk); (try clear hi)) | (go_at_call 56; (with_reducible refine (spec_l01Next.calls g s0_0 t249 t250 2 t257 t258 t259 w0 _ ?side1 ?side2 A21.out).mono ?_); (case side1 => exact z36_); (case side2 => exact z35_); rintro e w27 ⟨rfl, hi, hb, hk⟩; replace HO_11 := a_ (Kd.R_mono (Kd.R_keep (IsS84.apart (show IsS84 w0 _ g s0_0 t249 t250 from z36_) (ra_ HO_11.out) (by decide)) hk (fun _ h => h.2)) (fun _ h => h.1)); replace HK := a_ (KeepBut.trans z52_ hk (.inl rfl)); replace HB := a_ (hb); replace HI0 := a_ (hi); (try clear hb); (try clear hb2); (try clear hk); (try clear hi); have p24 : 0 ≤ (t257 : Int) := of_decide_eq_true z90_; have q24 : t257 < (2 : Int) := of_decide_eq_true z90_; have hx24 := bt_at (⟨#[84, 66]⟩ : ByteArray) t257; replace p24 := eq_true p24; replace q24 := eq_true q24) | ((with_reducible refine gate_builtin (b := .append) (xs := #[.tmp 46, .tmp 50]) rfl ?_); at_builtin; refine Kd.R_append (Kd.int .u8) w.heap.size rfl (.tmp 46) (.tmp 50) 38 5 (.int .u8 0) 1 rfl Try.underlying38 info5 rfl (by decide) (by omega) u11 x11_1 (bt (⟨#[84, 66]⟩ : ByteArray) t257) [.int .u8 (bt (⟨#[84, 66]⟩ : ByteArray) t257)] (fun _ => True) (fun _ => False) rfl rfl ?aP (fun _ hk => hk.elim) ?aF ?aO (Below.refl _ _) ?aS ?aL ?_; (case aP => exact rfl); (case aF => exact (fun _ _ => trivial)); (case aO => exact (ra_ HO_11.out)); (case aS => exact (keep_size (w := w) (g := g) (row := none) z52_)); (case aL => have := LMc25.out; omega); intro v261 w28 ho hb hg hat; rw [← Ny260.out] at ho; replace HB := a_ (below_weaken z35_ HL.out hb); replace HI0 := a_ (IsS84.grown z36_ hg (IsS84.own_ne HI0.out HO_11.out (by decide))); replace HK := a_ (KeepBut.trans z52_ (KeepBut.of_grown hg g) (Kd.R_base2 HO_11.out)); have HO262 := a_ (ho); clear HO_11; clear ho hb hg hat)); try go_wp2_with (first | (go_at_call 56; (with_reducible refine (spec_l01Next.calls g s0_0 x1001_1 x1002_1 (wrap64 (x7_1 + x9_1)) t248 t249 t250 w0 _ ?side1 ?side2 A11.out).mono ?_); (case side1 => exact z36_); (case side2 => exact z35_); rintro e w26 ⟨rfl, hi, hb, hk⟩; replace HO_11 := a_ (Kd.R_mono (Kd.R_keep (IsS84.apart (show IsS84 w0 _ g s0_0 x1001_1 x1002_1 from z36_) (ra_ HO_11.out) (by decide)) hk (fun _ h => h.2)) (fun _ h => h.1)); replace HK := a_ (KeepBut.trans z52_ hk (.inl rfl)); replace HB := a_ (hb); replace HI0 := a_ (hi); (try clear hb); (try clear hb2); (try clear hk); (try clear hi)) | (go_at_call 56; (with_reducible refine (spec_l01Next.calls g s0_0 t249 t250 2 t257 t258 t259 w0 _ ?side1 ?side2 A21.out).mono ?_); (case side1 => exact z36_); (case side2 => exact z35_); rintro e w27 ⟨rfl, hi, hb, hk⟩; replace HO_11 := a_ (Kd.R_mono (Kd.R_keep (IsS84.apart (show IsS84 w0 _ g s0_0 t249 t250 from z36_) (ra_ HO_11.out) (by decide)) hk (fun _ h => h.2)) (fun _ h => h.1)); replace HK := a_ (KeepBut.trans z52_ hk (.inl rfl)); replace HB := a_ (hb); replace HI0 := a_ (hi); (try clear hb); (try clear hb2); (try clear hk); (try clear hi); have p24 : 0 ≤ (t257 : Int) := of_decide_eq_true z90_; have q24 : t257 < (2 : Int) := of_decide_eq_true z90_; have hx24 := bt_at (⟨#[84, 66]⟩ : ByteArray) t257; replace p24 := eq_true p24; replace q24 := eq_true q24) | ((with_reducible refine gate_builtin (b := .append) (xs := #[.tmp 46, .tmp 50]) rfl ?_); at_builtin; refine Kd.R_append (Kd.int .u8) w.heap.size rfl (.tmp 46) (.tmp 50) 38 5 (.int .u8 0) 1 rfl Try.underlying38 info5 rfl (by decide) (by omega) u11 x11_1 (bt (⟨#[84, 66]⟩ : ByteArray) t257) [.int .u8 (bt (⟨#[84, 66]⟩ : ByteArray) t257)] (fun _ => True) (fun _ => False) rfl rfl ?aP (fun _ hk => hk.elim) ?aF ?aO (Below.refl _ _) ?aS ?aL ?_; (case aP => exact rfl); (case aF => exact (fun _ _ => trivial)); (case aO => exact (ra_ HO_11.out)); (case aS => exact (keep_size (w := w) (g := g) (row := none) z52_)); (case aL => have := LMc25.out; omega); intro v261 w28 ho hb hg hat; rw [← Ny260.out] at ho; replace HB := a_ (below_weaken z35_ HL.out hb); replace HI0 := a_ (IsS84.grown z36_ hg (IsS84.own_ne HI0.out HO_11.out (by decide))); replace HK := a_ (KeepBut.trans z52_ (KeepBut.of_grown hg g) (Kd.R_base2 HO_11.out)); have HO262 := a_ (ho); clear HO_11; clear ho hb hg hat)))
        try (have hw2_ := Go.IntWalk.i64_left (x7_1 + x9_1); (go_quiet (first | (go_at_call 56; (with_reducible refine (spec_l01Next.calls g s0_0 x1001_1 x1002_1 (wrap64 (x7_1 + x9_1)) t248 t249 t250 w0 _ ?side1 ?side2 A11.out).mono ?_); (case side1 => exact z36_); (case side2 => exact z35_); rintro e w26 ⟨rfl, hi, hb, hk⟩; replace HO_11 := a_ (Kd.R_mono (Kd.R_keep (IsS84.apart (show IsS84 w0 _ g s0_0 x1001_1 x1002_1 from z36_) (ra_ HO_11.out) (by decide)) hk (fun _ h => h.2)) (fun _ h => h.1)); replace HK := a_ (KeepBut.trans z52_ hk (.inl rfl)); replace HB := a_ (hb); replace HI0 := a_ (hi); (try clear hb); (try clear hb2); (try clear hk); (try clear hi)) | (go_at_call 56; (with_reducible refine (spec_l01Next.calls g s0_0 t249 t250 2 t257 t258 t259 w0 _ ?side1 ?side2 A21.out).mono ?_); (case side1 => exact z36_); (case side2 => exact z35_); rintro e w27 ⟨rfl, hi, hb, hk⟩; replace HO_11 := a_ (Kd.R_mono (Kd.R_keep (IsS84.apart (show IsS84 w0 _ g s0_0 t249 t250 from z36_) (ra_ HO_11.out) (by decide)) hk (fun _ h => h.2)) (fun _ h => h.1)); replace HK := a_ (KeepBut.trans z52_ hk (.inl rfl)); replace HB := a_ (hb); replace HI0 := a_ (hi); (try clear hb); (try clear hb2); (try clear hk); (try clear hi); have p24 : 0 ≤ (t257 : Int) := of_decide_eq_true z90_; have q24 : t257 < (2 : Int) := of_decide_eq_true z90_; have hx24 := bt_at (⟨#[84, 66]⟩ : ByteArray) t257; replace p24 := eq_true p24; replace q24 := eq_true q24) | ((with_reducible refine gate_builtin (b := .append) (xs := #[.tmp 46, .tmp 50]) rfl ?_); at_builtin; refine Kd.R_append (Kd.int .u8) w.heap.size rfl (.tmp 46) (.tmp 50) 38 5 (.int .u8 0) 1 rfl Try.underlying38 info5 rfl (by decide) (by omega) u11 x11_1 (bt (⟨#[84, 66]⟩ : ByteArray) t257) [.int .u8 (bt (⟨#[84, 66]⟩ : ByteArray) t257)] (fun _ => True) (fun _ => False) rfl rfl ?aP (fun _ hk => hk.elim) ?aF ?aO (Below.refl _ _) ?aS ?aL ?_; (case aP => exact rfl); (case aF => exact (fun _ _ => trivial)); (case aO => exact (ra_ HO_11.out)); (case aS => exact (keep_size (w := w) (g := g) (row := none) z52_)); (case aL => have := LMc25.out; omega); intro v261 w28 ho hb hg hat; rw [← Ny260.out] at ho; replace HB := a_ (below_weaken z35_ HL.out hb); replace HI0 := a_ (IsS84.grown z36_ hg (IsS84.own_ne HI0.out HO_11.out (by decide))); replace HK := a_ (KeepBut.trans z52_ (KeepBut.of_grown hg g) (Kd.R_base2 HO_11.out)); have HO262 := a_ (ho); clear HO_11; clear ho hb hg hat))); (try go_wp2_with (first | (go_at_call 56; (with_reducible refine (spec_l01Next.calls g s0_0 x1001_1 x1002_1 (wrap64 (x7_1 + x9_1)) t248 t249 t250 w0 _ ?side1 ?side2 A11.out).mono ?_); (case side1 => exact z36_); (case side2 => exact z35_); rintro e w26 ⟨rfl, hi, hb, hk⟩; replace HO_11 := a_ (Kd.R_mono (Kd.R_keep (IsS84.apart (show IsS84 w0 _ g s0_0 x1001_1 x1002_1 from z36_) (ra_ HO_11.out) (by decide)) hk (fun _ h => h.2)) (fun _ h => h.1)); replace HK := a_ (KeepBut.trans z52_ hk (.inl rfl)); replace HB := a_ (hb); replace HI0 := a_ (hi); (try clear hb); (try clear hb2); (try clear hk); (try clear hi)) | (go_at_call 56; (with_reducible refine (spec_l01Next.calls g s0_0 t249 t250 2 t257 t258 t259 w0 _ ?side1 ?side2 A21.out).mono ?_); (case side1 => exact z36_); (case side2 => exact z35_); rintro e w27 ⟨rfl, hi, hb, hk⟩; replace HO_11 := a_ (Kd.R_mono (Kd.R_keep (IsS84.apart (show IsS84 w0 _ g s0_0 t249 t250 from z36_) (ra_ HO_11.out) (by decide)) hk (fun _ h => h.2)) (fun _ h => h.1)); replace HK := a_ (KeepBut.trans z52_ hk (.inl rfl)); replace HB := a_ (hb); replace HI0 := a_ (hi); (try clear hb); (try clear hb2); (try clear hk); (try clear hi); have p24 : 0 ≤ (t257 : Int) := of_decide_eq_true z90_; have q24 : t257 < (2 : Int) := of_decide_eq_true z90_; have hx24 := bt_at (⟨#[84, 66]⟩ : ByteArray) t257; replace p24 := eq_true p24; replace q24 := eq_true q24) | ((with_reducible refine gate_builtin (b := .append) (xs := #[.tmp 46, .tmp 50]) rfl ?_); at_builtin; refine Kd.R_append (Kd.int .u8) w.heap.size rfl (.tmp 46) (.tmp 50) 38 5 (.int .u8 0) 1 rfl Try.underlying38 info5 rfl (by decide) (by omega) u11 x11_1 (bt (⟨#[84, 66]⟩ : ByteArray) t257) [.int .u8 (bt (⟨#[84, 66]⟩ : ByteArray) t257)] (fun _ => True) (fun _ => False) rfl rfl ?aP (fun _ hk => hk.elim) ?aF ?aO (Below.refl _ _) ?aS ?aL ?_; (case aP => exact rfl); (case aF => exact (fun _ _ => trivial)); (case aO => exact (ra_ HO_11.out)); (case aS => exact (keep_size (w := w) (g := g) (row := none) z52_)); (case aL => have := LMc25.out; omega); intro v261 w28 ho hb hg hat; rw [← Ny260.out] at ho; replace HB := a_ (below_weaken z35_ HL.out hb); replace HI0 := a_ (IsS84.grown z36_ hg (IsS84.own_ne HI0.out HO_11.out (by decide))); replace HK := a_ (KeepBut.trans z52_ (KeepBut.of_grown hg g) (Kd.R_base2 HO_11.out)); have HO262 := a_ (ho); clear HO_11; clear ho hb hg hat))))
        go_roundg k1
        case measure => have := HK1.out; omega
        case rel => exact ⟨(x7_1), (wrap64 (x9_1 - 1)), (y260), (t258), (t259), z91_, z91_, H', ⟨z94_⟩, ⟨by (with_reducible repeat (first | apply Kd.R_alloc | apply Kd.R_drewN | apply Kd.R_drew)); exact HO262.out⟩, ⟨z36_⟩, ⟨z52_⟩, ⟨z35_⟩⟩
       ·rw [if_neg c25] at H
        exact absurd H (by simp)
      ·rw [if_neg c23] at H
       exact absurd H (by simp)
     ·rw [if_neg c22] at H
      exact absurd H (by simp)
   ·rw [if_neg c10] at H
    have c10b0 : decide (0 < (wrap64 (x7_1 + x9_1))) = false := decide_eq_false c10
    clear c10
    replace H := Option.bind_eq_some_iff.mp H
    obtain ⟨⟨t263, t264, t265⟩, A290, H⟩ := H
    replace H : (if t263 = 0 then (if (strOfNums x11_1).size + 1 ≤ 9223372036854775807 then (some (t235, t238, (strOfNums x11_1) ++ (⟨#[76]⟩ : ByteArray), t264, t265)) else (none)) else (if t263 = 1 then (some (t235, t238, (⟨#[120]⟩ : ByteArray), t264, t265)) else (some (t235, t238, strOfNums x11_1, t264, t265)))) = some (r1, r2, r3, r4, r5) := H
    have A29 := Aside0.mk A290
    clear A290
    by_cases c30 : t263 = 0
    ·rw [if_pos c30] at H
     have c30b0 : (t263 == 0) = true := beq_iff_eq.mpr c30
     have c30b1 : (t263 != 0) = false := bne_eq_false_iff_eq.mpr c30
     clear c30
     by_cases c31 : (strOfNums x11_1).size + 1 ≤ 9223372036854775807
     ·rw [if_pos c31] at H
      have c31b0 := eq_true c31
      have c31b1 : decide ((strOfNums x11_1).size + 1 ≤ 9223372036854775807) = true := decide_eq_true c31
      try have c31b2 : (9223372036854775807 < (strOfNums x11_1).size + 1) = False := eq_false (Nat.not_lt.2 c31)
      (try (have c31s := c31; simp only [ByteArray.size_append, ByteArray.size_extract] at c31s; have c31s0 := eq_true c31s; have c31s1 := decide_eq_true c31s; have c31s2 := eq_false (Nat.not_lt.2 c31s)))
      simp only [Option.some.injEq, Prod.mk.injEq] at H
      obtain ⟨rfl, rfl, rfl, rfl, rfl⟩ := H
      go_wp2_with (first | (go_at_call 56; (with_reducible refine (spec_l01Next.calls g s0_0 x1001_1 x1002_1 40 t263 t264 t265 w0 _ ?side1 ?side2 A29.out).mono ?_); (case side1 => exact z36_); (case side2 => exact z35_); rintro e w32 ⟨rfl, hi, hb, hk⟩; replace HO_11 := a_ (Kd.R_mono (Kd.R_keep (IsS84.apart (show IsS84 w0 _ g s0_0 x1001_1 x1002_1 from z36_) (ra_ HO_11.out) (by decide)) hk (fun _ h => h.2)) (fun _ h => h.1)); replace HK := a_ (KeepBut.trans z52_ hk (.inl rfl)); replace HB := a_ (hb); replace HI0 := a_ (hi); (try clear hb); (try clear hb2); (try clear hk); (try clear hi); have hcv33 := own_string (P := Try.prog) Try.underlying38 Try.underlying5 Try.underlying9 (Kd.own_of_R HO_11.out); have hcv33q := fun n_ : Nat => own_string (P := Try.prog) Try.underlying38 Try.underlying5 Try.underlying9 (Kd.own_of_R (Kd.R_drewN HO_11.out n_))))
      repeat (go_quiet (first | (go_at_call 56; (with_reducible refine (spec_l01Next.calls g s0_0 x1001_1 x1002_1 40 t263 t264 t265 w0 _ ?side1 ?side2 A29.out).mono ?_); (case side1 => exact z36_); (case side2 => exact z35_); rintro e w32 ⟨rfl, hi, hb, hk⟩; replace HO_11 := a_ (Kd.R_mono (Kd.R_keep (IsS84.apart (show IsS84 w0 _ g s0_0 x1001_1 x1002_1 from z36_) (ra_ HO_11.out) (by decide)) hk (fun _ h => h.2)) (fun _ h => h.1)); replace HK := a_ (KeepBut.trans z52_ hk (.inl rfl)); replace HB := a_ (hb); replace HI0 := a_ (hi); (try clear hb); (try clear hb2); (try clear hk); (try clear hi); have hcv33 := own_string (P := Try.prog) Try.underlying38 Try.underlying5 Try.underlying9 (Kd.own_of_R HO_11.out); have hcv33q := fun n_ : Nat => own_string (P := Try.prog) Try.underlying38 Try.underlying5 Try.underlying9 (Kd.own_of_R (Kd.R_drewN HO_11.out n_)))); try go_wp2_with (first | (go_at_call 56; (with_reducible refine (spec_l01Next.calls g s0_0 x1001_1 x1002_1 40 t263 t264 t265 w0 _ ?side1 ?side2 A29.out).mono ?_); (case side1 => exact z36_); (case side2 => exact z35_); rintro e w32 ⟨rfl, hi, hb, hk⟩; replace HO_11 := a_ (Kd.R_mono (Kd.R_keep (IsS84.apart (show IsS84 w0 _ g s0_0 x1001_1 x1002_1 from z36_) (ra_ HO_11.out) (by decide)) hk (fun _ h => h.2)) (fun _ h => h.1)); replace HK := a_ (KeepBut.trans z52_ hk (.inl rfl)); replace HB := a_ (hb); replace HI0 := a_ (hi); (try clear hb); (try clear hb2); (try clear hk); (try clear hi); have hcv33 := own_string (P := Try.prog) Try.underlying38 Try.underlying5 Try.underlying9 (Kd.own_of_R HO_11.out); have hcv33q := fun n_ : Nat => own_string (P := Try.prog) Try.underlying38 Try.underlying5 Try.underlying9 (Kd.own_of_R (Kd.R_drewN HO_11.out n_)))))
      go_ret3
      exact ⟨z55_, z36_, z35_, z52_⟩
     ·rw [if_neg c31] at H
      exact absurd H (by simp)
    ·rw [if_neg c30] at H
     have c30b0 : (t263 == 0) = false := beq_eq_false_iff_ne.mpr c30
     have c30b1 : (t263 != 0) = true := bne_iff_ne.mpr c30
     by_cases c34 : t263 = 1
     ·rw [if_pos c34] at H
      have c34b0 : (t263 == 1) = true := beq_iff_eq.mpr c34
      have c34b1 : (t263 != 1) = false := bne_eq_false_iff_eq.mpr c34
      clear c34
      simp only [Option.some.injEq, Prod.mk.injEq] at H
      obtain ⟨rfl, rfl, rfl, rfl, rfl⟩ := H
      go_wp2_with (first | (go_at_call 56; (with_reducible refine (spec_l01Next.calls g s0_0 x1001_1 x1002_1 40 t263 t264 t265 w0 _ ?side1 ?side2 A29.out).mono ?_); (case side1 => exact z36_); (case side2 => exact z35_); rintro e w35 ⟨rfl, hi, hb, hk⟩; replace HO_11 := a_ (Kd.R_mono (Kd.R_keep (IsS84.apart (show IsS84 w0 _ g s0_0 x1001_1 x1002_1 from z36_) (ra_ HO_11.out) (by decide)) hk (fun _ h => h.2)) (fun _ h => h.1)); replace HK := a_ (KeepBut.trans z52_ hk (.inl rfl)); replace HB := a_ (hb); replace HI0 := a_ (hi); (try clear hb); (try clear hb2); (try clear hk); (try clear hi)))
      repeat (go_quiet (first | (go_at_call 56; (with_reducible refine (spec_l01Next.calls g s0_0 x1001_1 x1002_1 40 t263 t264 t265 w0 _ ?side1 ?side2 A29.out).mono ?_); (case side1 => exact z36_); (case side2 => exact z35_); rintro e w35 ⟨rfl, hi, hb, hk⟩; replace HO_11 := a_ (Kd.R_mono (Kd.R_keep (IsS84.apart (show IsS84 w0 _ g s0_0 x1001_1 x1002_1 from z36_) (ra_ HO_11.out) (by decide)) hk (fun _ h => h.2)) (fun _ h => h.1)); replace HK := a_ (KeepBut.trans z52_ hk (.inl rfl)); replace HB := a_ (hb); replace HI0 := a_ (hi); (try clear hb); (try clear hb2); (try clear hk); (try clear hi))); try go_wp2_with (first | (go_at_call 56; (with_reducible refine (spec_l01Next.calls g s0_0 x1001_1 x1002_1 40 t263 t264 t265 w0 _ ?side1 ?side2 A29.out).mono ?_); (case side1 => exact z36_); (case side2 => exact z35_); rintro e w35 ⟨rfl, hi, hb, hk⟩; replace HO_11 := a_ (Kd.R_mono (Kd.R_keep (IsS84.apart (show IsS84 w0 _ g s0_0 x1001_1 x1002_1 from z36_) (ra_ HO_11.out) (by decide)) hk (fun _ h => h.2)) (fun _ h => h.1)); replace HK := a_ (KeepBut.trans z52_ hk (.inl rfl)); replace HB := a_ (hb); replace HI0 := a_ (hi); (try clear hb); (try clear hb2); (try clear hk); (try clear hi))))
      go_ret3
      exact ⟨z55_, z36_, z35_, z52_⟩
     ·rw [if_neg c34] at H
      have c34b0 : (t263 == 1) = false := beq_eq_false_iff_ne.mpr c34
      have c34b1 : (t263 != 1) = true := bne_iff_ne.mpr c34
      simp only [Option.some.injEq, Prod.mk.injEq] at H
      obtain ⟨rfl, rfl, rfl, rfl, rfl⟩ := H
      go_wp2_with (first | (go_at_call 56; (with_reducible refine (spec_l01Next.calls g s0_0 x1001_1 x1002_1 40 t263 t264 t265 w0 _ ?side1 ?side2 A29.out).mono ?_); (case side1 => exact z36_); (case side2 => exact z35_); rintro e w36 ⟨rfl, hi, hb, hk⟩; replace HO_11 := a_ (Kd.R_mono (Kd.R_keep (IsS84.apart (show IsS84 w0 _ g s0_0 x1001_1 x1002_1 from z36_) (ra_ HO_11.out) (by decide)) hk (fun _ h => h.2)) (fun _ h => h.1)); replace HK := a_ (KeepBut.trans z52_ hk (.inl rfl)); replace HB := a_ (hb); replace HI0 := a_ (hi); (try clear hb); (try clear hb2); (try clear hk); (try clear hi); have hcv37 := own_string (P := Try.prog) Try.underlying38 Try.underlying5 Try.underlying9 (Kd.own_of_R HO_11.out); have hcv37q := fun n_ : Nat => own_string (P := Try.prog) Try.underlying38 Try.underlying5 Try.underlying9 (Kd.own_of_R (Kd.R_drewN HO_11.out n_))))
      repeat (go_quiet (first | (go_at_call 56; (with_reducible refine (spec_l01Next.calls g s0_0 x1001_1 x1002_1 40 t263 t264 t265 w0 _ ?side1 ?side2 A29.out).mono ?_); (case side1 => exact z36_); (case side2 => exact z35_); rintro e w36 ⟨rfl, hi, hb, hk⟩; replace HO_11 := a_ (Kd.R_mono (Kd.R_keep (IsS84.apart (show IsS84 w0 _ g s0_0 x1001_1 x1002_1 from z36_) (ra_ HO_11.out) (by decide)) hk (fun _ h => h.2)) (fun _ h => h.1)); replace HK := a_ (KeepBut.trans z52_ hk (.inl rfl)); replace HB := a_ (hb); replace HI0 := a_ (hi); (try clear hb); (try clear hb2); (try clear hk); (try clear hi); have hcv37 := own_string (P := Try.prog) Try.underlying38 Try.underlying5 Try.underlying9 (Kd.own_of_R HO_11.out); have hcv37q := fun n_ : Nat => own_string (P := Try.prog) Try.underlying38 Try.underlying5 Try.underlying9 (Kd.own_of_R (Kd.R_drewN HO_11.out n_)))); try go_wp2_with (first | (go_at_call 56; (with_reducible refine (spec_l01Next.calls g s0_0 x1001_1 x1002_1 40 t263 t264 t265 w0 _ ?side1 ?side2 A29.out).mono ?_); (case side1 => exact z36_); (case side2 => exact z35_); rintro e w36 ⟨rfl, hi, hb, hk⟩; replace HO_11 := a_ (Kd.R_mono (Kd.R_keep (IsS84.apart (show IsS84 w0 _ g s0_0 x1001_1 x1002_1 from z36_) (ra_ HO_11.out) (by decide)) hk (fun _ h => h.2)) (fun _ h => h.1)); replace HK := a_ (KeepBut.trans z52_ hk (.inl rfl)); replace HB := a_ (hb); replace HI0 := a_ (hi); (try clear hb); (try clear hb2); (try clear hk); (try clear hi); have hcv37 := own_string (P := Try.prog) Try.underlying38 Try.underlying5 Try.underlying9 (Kd.own_of_R HO_11.out); have hcv37q := fun n_ : Nat => own_string (P := Try.prog) Try.underlying38 Try.underlying5 Try.underlying9 (Kd.own_of_R (Kd.R_drewN HO_11.out n_)))))
      go_ret3
      exact ⟨z55_, z36_, z35_, z52_⟩

/-! ### spec_IsScheme: function 105 -/
mutual
def spec_IsScheme.l0 : Nat → ByteArray → Int → Bool → Int → Bool → Int → Option (Bool)
 | 0, _, _, _, _, _, _ => none
 | k + 1, x2, x7, x8, x9, x10, x11 => if x11 < (x2.size : Int) then (if 0 ≤ x11 then (if (bt x2 x11) = 76 then (spec_IsScheme.j1 k x2 x7 x8 x9 x10 x11 (bt x2 x11) ((bt x2 x11) == 76)) else (spec_IsScheme.j1 k x2 x7 x8 x9 x10 x11 (bt x2 x11) ((bt x2 x11) == 82))) else (none)) else (if x8 = true then (if x10 = true then (if x7 = 0 then (some (x9 == 0)) else (some false)) else (some false)) else (some false))
def spec_IsScheme.j1 : Nat → ByteArray → Int → Bool → Int → Bool → Int → Int → Bool → Option (Bool)
 | 0, _, _, _, _, _, _, _, _ => none
 | k + 1, x2, x7, x8, x9, x10, x11, x30, x31 => if x31 = true then (spec_IsScheme.l0 k x2 (wrap64 (x7 - 1)) x8 x9 x10 (wrap64 (x11 + 1))) else (if x30 = 84 then (spec_IsScheme.l0 k x2 x7 x8 (wrap64 (x9 - 1)) x10 (wrap64 (x11 + 1))) else (if x30 = 66 then (spec_IsScheme.l0 k x2 x7 x8 (wrap64 (x9 - 1)) x10 (wrap64 (x11 + 1))) else (some false)))
end
def spec_IsScheme.f (k : Nat) (a0 : Int) (a1 : Int) (a2 : ByteArray) : Option (Bool) := (spec_l04Power.f a0).bind fun bt266 => ((spec_l04Power.f a1).bind fun bt268 => (spec_IsScheme.l0 k a2 bt266.1 bt266.2 bt268.1 bt268.2 0))
theorem spec_IsScheme.mono_l : ∀ k, (∀ y0 y1 y2 y3 y4 y5, LeO (spec_IsScheme.l0 k y0 y1 y2 y3 y4 y5) (spec_IsScheme.l0 (k + 1) y0 y1 y2 y3 y4 y5)) ∧ (∀ y0 y1 y2 y3 y4 y5 y6 y7, LeO (spec_IsScheme.j1 k y0 y1 y2 y3 y4 y5 y6 y7) (spec_IsScheme.j1 (k + 1) y0 y1 y2 y3 y4 y5 y6 y7))
 | 0 => ⟨fun _ _ _ _ _ _ r h => by simp [spec_IsScheme.l0] at h, fun _ _ _ _ _ _ _ _ r h => by simp [spec_IsScheme.j1] at h⟩
 | k + 1 => by
  obtain ⟨ih0, ih1⟩ := spec_IsScheme.mono_l k
  refine ⟨?_, ?_⟩
  ·intro y0 y1 y2 y3 y4 y5
   unfold spec_IsScheme.l0
   repeat' first
   | (with_reducible exact ih0 _ _ _ _ _ _)
   | (with_reducible exact ih1 _ _ _ _ _ _ _ _)
   | (with_reducible exact LeO.refl _)
   | (with_reducible exact LeO.none _)
   | (with_reducible refine LeO.ite ?_ ?_)
   | (with_reducible refine LeO.bind ?_ (fun _ => ?_))
   | exact ih0 _ _ _ _ _ _
   | exact ih1 _ _ _ _ _ _ _ _
   | exact LeO.none _
   | refine LeO.ite ?_ ?_
   | refine LeO.bind ?_ (fun _ => ?_)
  ·intro y0 y1 y2 y3 y4 y5 y6 y7
   unfold spec_IsScheme.j1
   repeat' first
   | (with_reducible exact ih0 _ _ _ _ _ _)
   | (with_reducible exact ih1 _ _ _ _ _ _ _ _)
   | (with_reducible exact LeO.refl _)
   | (with_reducible exact LeO.none _)
   | (with_reducible refine LeO.ite ?_ ?_)
   | (with_reducible refine LeO.bind ?_ (fun _ => ?_))
   | exact ih0 _ _ _ _ _ _
   | exact ih1 _ _ _ _ _ _ _ _
   | exact LeO.none _
   | refine LeO.ite ?_ ?_
   | refine LeO.bind ?_ (fun _ => ?_)
theorem spec_IsScheme.mono : ∀ a0 a1 a2 k, LeO (spec_IsScheme.f k a0 a1 a2) (spec_IsScheme.f (k + 1) a0 a1 a2) := by
 intro a0 a1 a2 k
 obtain ⟨ih0, ih1⟩ := spec_IsScheme.mono_l k
 unfold spec_IsScheme.f
 repeat' first
   | (with_reducible exact ih0 _ _ _ _ _ _)
   | (with_reducible exact ih1 _ _ _ _ _ _ _ _)
   | (with_reducible exact LeO.refl _)
   | (with_reducible exact LeO.none _)
   | (with_reducible refine LeO.ite ?_ ?_)
   | (with_reducible refine LeO.bind ?_ (fun _ => ?_))
   | exact ih0 _ _ _ _ _ _
   | exact ih1 _ _ _ _ _ _ _ _
   | exact LeO.none _
   | refine LeO.ite ?_ ?_
   | refine LeO.bind ?_ (fun _ => ?_)
set_option maxHeartbeats 8000000 in
set_option maxRecDepth 100000 in
theorem spec_IsScheme.calls (k : Nat) (a0 : Int) (a1 : Int) (a2 : ByteArray) (r : Bool) (w : World) (h : spec_IsScheme.f k a0 a1 a2 = some r) :
  Calls Try.prog 105 #[.int .i64 a0, .int .i64 a1, .string a2] w fun e w' => e = .returned (.bool r) ∧ Drawn0 w w' := by
 have H : ((spec_l04Power.f a0).bind fun bt266 => ((spec_l04Power.f a1).bind fun bt268 => (spec_IsScheme.l0 k a2 bt266.1 bt266.2 bt268.1 bt268.2 0))) = some r := h
 clear h
 replace H := Option.bind_eq_some_iff.mp H
 obtain ⟨⟨t266, t267⟩, A40, H⟩ := H
 replace H : ((spec_l04Power.f a1).bind fun bt268 => (spec_IsScheme.l0 k a2 t266 t267 bt268.1 bt268.2 0)) = some r := H
 have A4 := Aside0.mk A40
 clear A40
 replace H := Option.bind_eq_some_iff.mp H
 obtain ⟨⟨t268, t269⟩, A50, H⟩ := H
 replace H : (spec_IsScheme.l0 k a2 t266 t267 t268 t269 0) = some r := H
 have A5 := Aside0.mk A50
 clear A50
 have H' := Aside0.mk H
 clear H
 go_enter Try.func105, Try.ntmps105
 go_wp2_with (first | ((with_reducible refine gate_callee (f := 66) rfl ?_); refine goesL_ (some 14) rfl rfl Try.func66 (by kernel_rfl) rfl #[.int .i64 a0] rfl z57_ ?_; (with_reducible refine (spec_l04Power.calls a0 t266 t267 _ A4.out).mono ?_); rintro e w' ⟨rfl, ⟨nd, rfl⟩⟩; refine ⟨_, rfl, ?_⟩) | ((with_reducible refine gate_callee (f := 66) rfl ?_); refine goesL_ (some 19) rfl rfl Try.func66 (by kernel_rfl) rfl #[.int .i64 a1] rfl z57_ ?_; (with_reducible refine (spec_l04Power.calls a1 t268 t269 _ A5.out).mono ?_); rintro e w' ⟨rfl, ⟨nd, rfl⟩⟩; refine ⟨_, rfl, ?_⟩))
 go_loopg [7, 9, 11] k (fun kq v7 v9 v11 w' => ∃ (x7_1 : Int) (x9_1 : Int) (x11_1 : Int), v7 = .int .i64 x7_1 ∧ v9 = .int .i64 x9_1 ∧ v11 = .int .i64 x11_1 ∧ Aside0 (spec_IsScheme.l0 kq a2 x7_1 t267 x9_1 t269 x11_1 = some r) ∧ Aside0 (kq ≤ k) ∧ Drawn0 w w')
 case atStart => exact ⟨(t266), (t268), (0), z91_, z91_, z91_, H', ⟨Nat.le_refl _⟩, z82_⟩
 case round =>
  clear H'
  obtain ⟨x7_1, x9_1, x11_1, rfl, rfl, rfl, HA, HK1, ⟨m1, rfl⟩⟩ := hrel
  cases gk with
  | zero => exact absurd HA.out (by simp [spec_IsScheme.l0])
  | succ k1 =>
   have H := HA.out
   clear HA
   simp only [spec_IsScheme.l0] at H
   by_cases c6 : x11_1 < (a2.size : Int)
   ·rw [if_pos c6] at H
    have c6b0 : decide (x11_1 < (a2.size : Int)) = true := decide_eq_true c6
    clear c6
    by_cases c7 : 0 ≤ x11_1
    ·rw [if_pos c7] at H
     have c7b0 : decide (0 ≤ x11_1) = true := decide_eq_true c7
     clear c7
     have HC9 := Aside0.mk H
     clear H
     have p8 : 0 ≤ (x11_1 : Int) := of_decide_eq_true z90_
     have q8 : x11_1 < (a2.size : Int) := of_decide_eq_true z90_
     have hx8 := bt_at a2 x11_1
     replace p8 := eq_true p8
     replace q8 := eq_true q8
     go_upto_if 31 with (fail)
     go_cut [31] (fun v31 wc => ∃ (kq : Nat) (x31_8 : Bool), v31 = .bool x31_8 ∧ Aside0 (spec_IsScheme.j1 kq a2 x7_1 t267 x9_1 t269 x11_1 (bt a2 x11_1) x31_8 = some r) ∧ Aside0 (kq ≤ k1) ∧ Drawn0 w wc)
     case first =>
      have H := HC9.out
      clear HC9
      by_cases c10 : (bt a2 x11_1) = 76
      ·rw [if_pos c10] at H
       have c10b0 : ((bt a2 x11_1) == 76) = true := beq_iff_eq.mpr c10
       have c10b1 : ((bt a2 x11_1) != 76) = false := bne_eq_false_iff_eq.mpr c10
       clear c10
       (first | rw [c10b0] | (simp only [i64_w, i32_w]; rw [c10b0]) | skip)
       have H' := Aside0.mk H
       clear H
       go_wp2
       go_meet
       case rel => exact ⟨_, (((bt a2 x11_1) == 76)), z91_, H', ⟨z89_⟩, z82_⟩
      ·rw [if_neg c10] at H
       have c10b0 : ((bt a2 x11_1) == 76) = false := beq_eq_false_iff_ne.mpr c10
       have c10b1 : ((bt a2 x11_1) != 76) = true := bne_iff_ne.mpr c10
       (first | rw [c10b0] | (simp only [i64_w, i32_w]; rw [c10b0]) | skip)
       have H' := Aside0.mk H
       clear H
       go_wp2
       go_meet
       case rel => exact ⟨_, (((bt a2 x11_1) == 82)), z91_, H', ⟨z89_⟩, z82_⟩
     case rest =>
      clear HC9; try clear c6b0; try clear c7b0; try clear p8; try clear q8; try clear hx8
      obtain ⟨kq, x31_8, rfl, HA, HJ8, ⟨mc8, rfl⟩⟩ := hcut
      cases kq with
      | zero => exact absurd HA.out (by simp [spec_IsScheme.j1])
      | succ kj8 =>
       have H := HA.out
       clear HA
       simp only [spec_IsScheme.j1] at H
       by_cases c11 : x31_8 = true
       ·subst c11
        have H1 : (spec_IsScheme.l0 kj8 a2 (wrap64 (x7_1 - 1)) t267 x9_1 t269 (wrap64 (x11_1 + 1))) = some r := by rw [if_pos rfl] at H; exact H
        clear H
        have H := H1
        clear H1
        have H' := Aside0.mk H
        clear H
        go_wp2
        go_roundg kj8
        case measure => have := HK1.out; have := HJ8.out; omega
        case rel => exact ⟨(wrap64 (x7_1 - 1)), (x9_1), (wrap64 (x11_1 + 1)), z91_, z91_, z91_, H', ⟨by have := HK1.out; have := HJ8.out; omega⟩, z82_⟩
       ·replace c11 := Bool.eq_false_iff.mpr c11
        subst c11
        have H1 : (if (bt a2 x11_1) = 84 then (spec_IsScheme.l0 kj8 a2 x7_1 t267 (wrap64 (x9_1 - 1)) t269 (wrap64 (x11_1 + 1))) else (if (bt a2 x11_1) = 66 then (spec_IsScheme.l0 kj8 a2 x7_1 t267 (wrap64 (x9_1 - 1)) t269 (wrap64 (x11_1 + 1))) else (some false))) = some r := by rw [if_neg (show ¬ (false = true) by decide)] at H; exact H
        clear H
        have H := H1
        clear H1
        by_cases c12 : (bt a2 x11_1) = 84
        ·rw [if_pos c12] at H
         have c12b0 : ((bt a2 x11_1) == 84) = true := beq_iff_eq.mpr c12
         have c12b1 : ((bt a2 x11_1) != 84) = false := bne_eq_false_iff_eq.mpr c12
         clear c12
         have H' := Aside0.mk H
         clear H
         go_wp2
         go_roundg kj8
         case measure => have := HK1.out; have := HJ8.out; omega
         case rel => exact ⟨(x7_1), (wrap64 (x9_1 - 1)), (wrap64 (x11_1 + 1)), z91_, z91_, z91_, H', ⟨by have := HK1.out; have := HJ8.out; omega⟩, z82_⟩
        ·rw [if_neg c12] at H
         have c12b0 : ((bt a2 x11_1) == 84) = false := beq_eq_false_iff_ne.mpr c12
         have c12b1 : ((bt a2 x11_1) != 84) = true := bne_iff_ne.mpr c12
         by_cases c13 : (bt a2 x11_1) = 66
         ·rw [if_pos c13] at H
          have c13b0 : ((bt a2 x11_1) == 66) = true := beq_iff_eq.mpr c13
          have c13b1 : ((bt a2 x11_1) != 66) = false := bne_eq_false_iff_eq.mpr c13
          clear c13
          have H' := Aside0.mk H
          clear H
          go_wp2
          go_roundg kj8
          case measure => have := HK1.out; have := HJ8.out; omega
          case rel => exact ⟨(x7_1), (wrap64 (x9_1 - 1)), (wrap64 (x11_1 + 1)), z91_, z91_, z91_, H', ⟨by have := HK1.out; have := HJ8.out; omega⟩, z82_⟩
         ·rw [if_neg c13] at H
          have c13b0 : ((bt a2 x11_1) == 66) = false := beq_eq_false_iff_ne.mpr c13
          have c13b1 : ((bt a2 x11_1) != 66) = true := bne_iff_ne.mpr c13
          obtain rfl := Option.some.inj H
          go_wp2
          go_ret
          exact ⟨z81_, z82_⟩
    ·rw [if_neg c7] at H
     exact absurd H (by simp)
   ·rw [if_neg c6] at H
    have c6b0 : decide (x11_1 < (a2.size : Int)) = false := decide_eq_false c6
    clear c6
    by_cases c14 : t267 = true
    ·subst c14
     have H1 : (if t269 = true then (if x7_1 = 0 then (some (x9_1 == 0)) else (some false)) else (some false)) = some r := by rw [if_pos rfl] at H; exact H
     clear H
     have H := H1
     clear H1
     by_cases c15 : t269 = true
     ·subst c15
      have H1 : (if x7_1 = 0 then (some (x9_1 == 0)) else (some false)) = some r := by rw [if_pos rfl] at H; exact H
      clear H
      have H := H1
      clear H1
      by_cases c16 : x7_1 = 0
      ·rw [if_pos c16] at H
       have c16b0 : (x7_1 == 0) = true := beq_iff_eq.mpr c16
       have c16b1 : (x7_1 != 0) = false := bne_eq_false_iff_eq.mpr c16
       clear c16
       obtain rfl := Option.some.inj H
       go_wp2
       go_ret
       exact ⟨z81_, z82_⟩
      ·rw [if_neg c16] at H
       have c16b0 : (x7_1 == 0) = false := beq_eq_false_iff_ne.mpr c16
       have c16b1 : (x7_1 != 0) = true := bne_iff_ne.mpr c16
       obtain rfl := Option.some.inj H
       go_wp2
       go_ret
       exact ⟨z81_, z82_⟩
     ·replace c15 := Bool.eq_false_iff.mpr c15
      subst c15
      have H1 : (some false) = some r := by rw [if_neg (show ¬ (false = true) by decide)] at H; exact H
      clear H
      have H := H1
      clear H1
      obtain rfl := Option.some.inj H
      go_wp2
      go_ret
      exact ⟨z81_, z82_⟩
    ·replace c14 := Bool.eq_false_iff.mpr c14
     subst c14
     have H1 : (some false) = some r := by rw [if_neg (show ¬ (false = true) by decide)] at H; exact H
     clear H
     have H := H1
     clear H1
     obtain rfl := Option.some.inj H
     go_wp2
     go_ret
     exact ⟨z81_, z82_⟩

/-! ### spec_l04Code: function 86 -/
def spec_l04Code.f (k : Nat) (a0 : Int) (a1 : Int) (a2 : ByteArray) : Option (Int) := (spec_l04Sheet.f a0 a1).bind fun t270 => (if t270 = true then ((spec_IsScheme.f k a0 a1 a2).bind fun t271 => (if t271 = true then (some 0) else (some 2))) else (some 1))
theorem spec_l04Code.mono : ∀ a0 a1 a2 k, LeO (spec_l04Code.f k a0 a1 a2) (spec_l04Code.f (k + 1) a0 a1 a2) := by
 intro a0 a1 a2 k
 unfold spec_l04Code.f
 repeat' first
   | (with_reducible exact spec_IsScheme.mono _ _ _ _)
   | (with_reducible exact LeO.refl _)
   | (with_reducible exact LeO.none _)
   | (with_reducible refine LeO.ite ?_ ?_)
   | (with_reducible refine LeO.bind ?_ (fun _ => ?_))
   | exact spec_IsScheme.mono _ _ _ _
   | exact LeO.none _
   | refine LeO.ite ?_ ?_
   | refine LeO.bind ?_ (fun _ => ?_)
set_option maxHeartbeats 8000000 in
set_option maxRecDepth 100000 in
theorem spec_l04Code.calls (k : Nat) (a0 : Int) (a1 : Int) (a2 : ByteArray) (r : Int) (w : World) (h : spec_l04Code.f k a0 a1 a2 = some r) :
  Calls Try.prog 86 #[.int .i64 a0, .int .i64 a1, .string a2] w fun e w' => e = .returned (.int .i64 r) ∧ Drawn0 w w' := by
 have H : ((spec_l04Sheet.f a0 a1).bind fun t270 => (if t270 = true then ((spec_IsScheme.f k a0 a1 a2).bind fun t271 => (if t271 = true then (some 0) else (some 2))) else (some 1))) = some r := h
 clear h
 replace H := Option.bind_eq_some_iff.mp H
 obtain ⟨t270, A40, H⟩ := H
 replace H : (if t270 = true then ((spec_IsScheme.f k a0 a1 a2).bind fun t271 => (if t271 = true then (some 0) else (some 2))) else (some 1)) = some r := H
 have A4 := Aside0.mk A40
 clear A40
 by_cases c5 : t270 = true
 ·subst c5
  have H1 : ((spec_IsScheme.f k a0 a1 a2).bind fun t271 => (if t271 = true then (some 0) else (some 2))) = some r := by rw [if_pos rfl] at H; exact H
  clear H
  have H := H1
  clear H1
  replace H := Option.bind_eq_some_iff.mp H
  obtain ⟨t271, A60, H⟩ := H
  replace H : (if t271 = true then (some 0) else (some 2)) = some r := H
  have A6 := Aside0.mk A60
  clear A60
  by_cases c7 : t271 = true
  ·subst c7
   have H1 : (some 0) = some r := by rw [if_pos rfl] at H; exact H
   clear H
   have H := H1
   clear H1
   obtain rfl := Option.some.inj H
   go_enter Try.func86, Try.ntmps86
   go_wp2_with (first | ((with_reducible refine gate_callee (f := 32) rfl ?_); refine goesL_ (some 10) rfl rfl Try.func32 (by kernel_rfl) rfl #[.int .i64 a0, .int .i64 a1] rfl z57_ ?_; (with_reducible refine (spec_l04Sheet.calls a0 a1 true _ A4.out).mono ?_); rintro e w' ⟨rfl, ⟨nd, rfl⟩⟩; refine ⟨_, rfl, ?_⟩) | ((with_reducible refine gate_callee (f := 105) rfl ?_); refine goesL_ (some 16) rfl rfl Try.func105 (by kernel_rfl) rfl #[.int .i64 a0, .int .i64 a1, .string a2] rfl z57_ ?_; (with_reducible refine (spec_IsScheme.calls k a0 a1 a2 true _ A6.out).mono ?_); rintro e w' ⟨rfl, ⟨nd, rfl⟩⟩; refine ⟨_, rfl, ?_⟩))
   go_ret
   exact ⟨z81_, z82_⟩
  ·replace c7 := Bool.eq_false_iff.mpr c7
   subst c7
   have H1 : (some 2) = some r := by rw [if_neg (show ¬ (false = true) by decide)] at H; exact H
   clear H
   have H := H1
   clear H1
   obtain rfl := Option.some.inj H
   go_enter Try.func86, Try.ntmps86
   go_wp2_with (first | ((with_reducible refine gate_callee (f := 32) rfl ?_); refine goesL_ (some 10) rfl rfl Try.func32 (by kernel_rfl) rfl #[.int .i64 a0, .int .i64 a1] rfl z57_ ?_; (with_reducible refine (spec_l04Sheet.calls a0 a1 true _ A4.out).mono ?_); rintro e w' ⟨rfl, ⟨nd, rfl⟩⟩; refine ⟨_, rfl, ?_⟩) | ((with_reducible refine gate_callee (f := 105) rfl ?_); refine goesL_ (some 16) rfl rfl Try.func105 (by kernel_rfl) rfl #[.int .i64 a0, .int .i64 a1, .string a2] rfl z57_ ?_; (with_reducible refine (spec_IsScheme.calls k a0 a1 a2 false _ A6.out).mono ?_); rintro e w' ⟨rfl, ⟨nd, rfl⟩⟩; refine ⟨_, rfl, ?_⟩))
   go_ret
   exact ⟨z81_, z82_⟩
 ·replace c5 := Bool.eq_false_iff.mpr c5
  subst c5
  have H1 : (some 1) = some r := by rw [if_neg (show ¬ (false = true) by decide)] at H; exact H
  clear H
  have H := H1
  clear H1
  obtain rfl := Option.some.inj H
  go_enter Try.func86, Try.ntmps86
  go_wp2_with (first | ((with_reducible refine gate_callee (f := 32) rfl ?_); refine goesL_ (some 10) rfl rfl Try.func32 (by kernel_rfl) rfl #[.int .i64 a0, .int .i64 a1] rfl z57_ ?_; (with_reducible refine (spec_l04Sheet.calls a0 a1 false _ A4.out).mono ?_); rintro e w' ⟨rfl, ⟨nd, rfl⟩⟩; refine ⟨_, rfl, ?_⟩))
  go_ret
  exact ⟨z81_, z82_⟩

/-! ### spec_l04Start: function 106 -/
mutual
def spec_l04Start.l0 : Nat → Int → Int → List (List (List (S102))) → Int → Option ((List (List (List (S102)))))
 | 0, _, _, _, _ => none
 | k + 1, x0, x1, x5, x6 => if x6 < x1 then (spec_l04Start.l1 k x0 x1 x5 x6 (([] : List (List (S102)))) 0) else (some x5)
def spec_l04Start.l1 : Nat → Int → Int → List (List (List (S102))) → Int → List (List (S102)) → Int → Option ((List (List (List (S102)))))
 | 0, _, _, _, _, _, _ => none
 | k + 1, x0, x1, x5, x6, x7, x8 => if x8 < x0 then (if x7.length < 5864062014805 then (spec_l04Start.l1 k x0 x1 x5 x6 (x7 ++ [(([(⟨x8, x6, false, false⟩ : S102)] : List (S102)))]) (wrap64 (x8 + 1))) else (none)) else (if x5.length < 5864062014805 then (spec_l04Start.l0 k x0 x1 (x5 ++ [x7]) (wrap64 (x6 + 1))) else (none))
end
def spec_l04Start.f (k : Nat) (a0 : Int) (a1 : Int) : Option ((List (List (List (S102))))) := spec_l04Start.l0 k a0 a1 (([] : List (List (List (S102))))) 0
theorem spec_l04Start.mono_l : ∀ k, (∀ y0 y1 y2 y3, LeO (spec_l04Start.l0 k y0 y1 y2 y3) (spec_l04Start.l0 (k + 1) y0 y1 y2 y3)) ∧ (∀ y0 y1 y2 y3 y4 y5, LeO (spec_l04Start.l1 k y0 y1 y2 y3 y4 y5) (spec_l04Start.l1 (k + 1) y0 y1 y2 y3 y4 y5))
 | 0 => ⟨fun _ _ _ _ r h => by simp [spec_l04Start.l0] at h, fun _ _ _ _ _ _ r h => by simp [spec_l04Start.l1] at h⟩
 | k + 1 => by
  obtain ⟨ih0, ih1⟩ := spec_l04Start.mono_l k
  refine ⟨?_, ?_⟩
  ·intro y0 y1 y2 y3
   unfold spec_l04Start.l0
   repeat' first
   | (with_reducible exact ih0 _ _ _ _)
   | (with_reducible exact ih1 _ _ _ _ _ _)
   | (with_reducible exact LeO.refl _)
   | (with_reducible exact LeO.none _)
   | (with_reducible refine LeO.ite ?_ ?_)
   | (with_reducible refine LeO.bind ?_ (fun _ => ?_))
   | exact ih0 _ _ _ _
   | exact ih1 _ _ _ _ _ _
   | exact LeO.none _
   | refine LeO.ite ?_ ?_
   | refine LeO.bind ?_ (fun _ => ?_)
  ·intro y0 y1 y2 y3 y4 y5
   unfold spec_l04Start.l1
   repeat' first
   | (with_reducible exact ih0 _ _ _ _)
   | (with_reducible exact ih1 _ _ _ _ _ _)
   | (with_reducible exact LeO.refl _)
   | (with_reducible exact LeO.none _)
   | (with_reducible refine LeO.ite ?_ ?_)
   | (with_reducible refine LeO.bind ?_ (fun _ => ?_))
   | exact ih0 _ _ _ _
   | exact ih1 _ _ _ _ _ _
   | exact LeO.none _
   | refine LeO.ite ?_ ?_
   | refine LeO.bind ?_ (fun _ => ?_)
theorem spec_l04Start.mono : ∀ a0 a1 k, LeO (spec_l04Start.f k a0 a1) (spec_l04Start.f (k + 1) a0 a1) := by
 intro a0 a1 k
 obtain ⟨ih0, ih1⟩ := spec_l04Start.mono_l k
 unfold spec_l04Start.f
 repeat' first
   | (with_reducible exact ih0 _ _ _ _)
   | (with_reducible exact ih1 _ _ _ _ _ _)
   | (with_reducible exact LeO.refl _)
   | (with_reducible exact LeO.none _)
   | (with_reducible refine LeO.ite ?_ ?_)
   | (with_reducible refine LeO.bind ?_ (fun _ => ?_))
   | exact ih0 _ _ _ _
   | exact ih1 _ _ _ _ _ _
   | exact LeO.none _
   | refine LeO.ite ?_ ?_
   | refine LeO.bind ?_ (fun _ => ?_)
set_option maxHeartbeats 8000000 in
set_option maxRecDepth 100000 in
theorem spec_l04Start.calls (k : Nat) (a0 : Int) (a1 : Int) (r : List (List (List (S102)))) (w : World) (h : spec_l04Start.f k a0 a1 = some r) :
  Calls Try.prog 106 #[.int .i64 a0, .int .i64 a1] w fun e w' => ∃ v0_ : Value, e = .returned (v0_) ∧ Kd.R (Kd.slice 99 (Kd.slice 102 k102)) 121 w' w.heap.size (fun _ => True) v0_ r ∧ Below w.heap.size w w' := by
 have hu102 := Try.underlying102
 have HB := a_ (Below.refl w.heap.size w)
 have H : (spec_l04Start.l0 k a0 a1 (([] : List (List (List (S102))))) 0) = some r := h
 clear h
 obtain ⟨y272, hy272⟩ : ∃ y_ : List (List (List (S102))), y_ = (([] : List (List (List (S102))))) := ⟨_, rfl⟩
 replace H : (spec_l04Start.l0 k a0 a1 y272 0) = some r := rh_ hy272 H
 have Ny272 := Aside0.mk hy272
 clear hy272
 have H' := Aside0.mk H
 clear H
 go_enter Try.func106, Try.ntmps106
 go_wp2_with (first | ((with_reducible refine gate_dst (N := 9) rfl ?_); refine Kd.R_lit (Kd.slice 99 (Kd.slice 102 k102)) _ 121 ?hg (N := 9) ?hd (xs := ([] : List (List (List (S102))))) (inner := []) (ok := fun _ => True) (okp := fun _ => True) ?hr ?hp (fun _ hk => hk) trivial (Below.refl _ _) (Nat.le_refl _) (by simp) ?_; (case hd => rfl); (case hg => rfl); (case hr => first | (go_simp; done) | (go_simp; rfl)); (case hp => exact (Reps.none _ _)); intro v273 w3 ho4 hb hg_ hnew_; clear hg_ hnew_; (first | rw [← Ny272.out] at ho4 | (simp only [Int.reduceToNat] at ho4; rw [← Ny272.out] at ho4)); have HO274 := a_ (Kd.R_lower ho4 (below_size z54_)); replace HB := a_ (below_step z54_ hb); clear hb ho4))
 go_loopg [5, 6] k (fun kq v5 v6 w' => ∃ (x5_1 : List (List (List (S102)))) (x6_1 : Int), v6 = .int .i64 x6_1 ∧ Aside0 (spec_l04Start.l0 kq a0 a1 x5_1 x6_1 = some r) ∧ Aside0 (kq ≤ k) ∧ Aside0 (Kd.R (Kd.slice 99 (Kd.slice 102 k102)) 121 w' w.heap.size (fun _ => True) v5 x5_1) ∧ Aside0 (Below w.heap.size w w'))
 case atStart => exact ⟨(y272), (0), z91_, H', ⟨Nat.le_refl _⟩, ⟨by (with_reducible repeat (first | apply Kd.R_alloc | apply Kd.R_drewN | apply Kd.R_drew)); exact HO274.out⟩, ⟨z54_⟩⟩
 case round =>
  clear H'
  obtain ⟨x5_1, x6_1, rfl, HA, HK1, HO_5, HB⟩ := hrel
  cases gk with
  | zero => exact absurd HA.out (by simp [spec_l04Start.l0])
  | succ k1 =>
   have H := HA.out
   clear HA
   simp only [spec_l04Start.l0] at H
   by_cases c5 : x6_1 < a1
   ·rw [if_pos c5] at H
    have c5b0 : decide (x6_1 < a1) = true := decide_eq_true c5
    clear c5
    obtain ⟨y275, hy275⟩ : ∃ y_ : List (List (S102)), y_ = (([] : List (List (S102)))) := ⟨_, rfl⟩
    replace H : (spec_l04Start.l1 k1 a0 a1 x5_1 x6_1 y275 0) = some r := rh_ hy275 H
    have Ny275 := Aside0.mk hy275
    clear hy275
    have H' := Aside0.mk H
    clear H
    go_wp2_with (first | ((with_reducible refine gate_dst (N := 15) rfl ?_); refine Kd.S_lit (Kd.slice 102 k102) _ 99 ?hg (N := 15) ?hd (xs := ([] : List (List (S102)))) (inner := []) (ok := fun _ => True) (okp := fun _ => True) ?hr ?hp (fun _ hk => hk) trivial (Below.refl _ _) (Nat.le_refl _) (by simp) ?_; (case hd => rfl); (case hg => rfl); (case hr => first | (go_simp; done) | (go_simp; rfl)); (case hp => exact (Reps.none _ _)); intro v276 w6 ho7 hb hg_ hnew_; clear hg_ hnew_; (first | rw [← Ny275.out] at ho7 | (simp only [Int.reduceToNat] at ho7; rw [← Ny275.out] at ho7)); replace HO_5 := a_ (Kd.R_elder' (ra_ HO_5.out) (Kd.S_base ho7) hb); have HO277 := a_ (Kd.S_lower ho7 (below_size z54_)); replace HB := a_ (below_step z54_ hb); clear hb ho7))
    go_loopg [7, 8] k1 (fun kq v7 v8 w' => ∃ (x7_2 : List (List (S102))) (x8_2 : Int), v8 = .int .i64 x8_2 ∧ Aside0 (spec_l04Start.l1 kq a0 a1 x5_1 x6_1 x7_2 x8_2 = some r) ∧ Aside0 (kq ≤ k1) ∧ Aside0 (Kd.R (Kd.slice 99 (Kd.slice 102 k102)) 121 w' w.heap.size (fun k_ => some k_ ≠ (v7 : Value).ownBlock) u5 x5_1) ∧ Aside0 (Kd.S (Kd.slice 102 k102) 99 w' w.heap.size (fun _ => True) v7 x7_2) ∧ Aside0 (Below w.heap.size w w'))
    case atStart => exact ⟨(y275), (0), z91_, H', ⟨Nat.le_refl _⟩, ⟨z58_⟩, ⟨by (with_reducible repeat (first | apply Kd.S_alloc | apply Kd.S_drewN | apply Kd.S_drew)); exact HO277.out⟩, ⟨z54_⟩⟩
    case round =>
     clear H'
     try clear c5b0
     obtain ⟨x7_2, x8_2, rfl, HA, HK2, HO_5, HO_7, HB⟩ := hrel
     cases gk with
     | zero => exact absurd HA.out (by simp [spec_l04Start.l1])
     | succ k2 =>
      have H := HA.out
      clear HA
      simp only [spec_l04Start.l1] at H
      by_cases c8 : x8_2 < a0
      ·rw [if_pos c8] at H
       have c8b0 : decide (x8_2 < a0) = true := decide_eq_true c8
       clear c8
       obtain ⟨y278, hy278⟩ : ∃ y_ : List (S102), y_ = (([(⟨x8_2, x6_1, false, false⟩ : S102)] : List (S102))) := ⟨_, rfl⟩
       replace H : (if x7_2.length < 5864062014805 then (spec_l04Start.l1 k2 a0 a1 x5_1 x6_1 (x7_2 ++ [y278]) (wrap64 (x8_2 + 1))) else (none)) = some r := rh_ hy278 H
       have Ny278 := Aside0.mk hy278
       clear hy278
       by_cases c9 : x7_2.length < 5864062014805
       ·rw [if_pos c9] at H
        have LMc9 := Aside0.mk c9
        clear c9
        obtain ⟨y281, hy281⟩ : ∃ y_ : List (List (S102)), y_ = (x7_2 ++ [y278]) := ⟨_, rfl⟩
        replace H : (spec_l04Start.l1 k2 a0 a1 x5_1 x6_1 y281 (wrap64 (x8_2 + 1))) = some r := rh_ hy281 H
        have Ny281 := Aside0.mk hy281
        clear hy281
        have H' := Aside0.mk H
        clear H
        go_wp2_with (first | ((with_reducible refine gate_dst (N := 25) rfl ?_); refine Kd.R_lit k102 _ 102 ?hg (N := 25) ?hd (xs := ([(⟨x8_2, x6_1, false, false⟩ : S102)] : List (S102))) (inner := [.int .i64 x8_2, .int .i64 x6_1, .bool false, .bool false]) (ok := fun _ => True) (okp := fun _ => True) ?hr ?hp (fun _ hk => hk) trivial (Below.refl _ _) (Nat.le_refl _) (by simp) ?_; (case hd => rfl); (case hg => rfl); (case hr => first | (go_simp; done) | (go_simp; rfl)); (case hp => exact (Reps.c4 (show Kd.M k102 _ _ _ (⟨x8_2, x6_1, false, false⟩ : S102) [.int .i64 x8_2, .int .i64 x6_1, .bool false, .bool false] from (k102_mkM _ _ _ (⟨x8_2, x6_1, false, false⟩ : S102) )) (Reps.none _ _))); intro v279 w10 ho11 hb hg_ hnew_; clear hg_ hnew_; (first | rw [← Ny278.out] at ho11 | (simp only [Int.reduceToNat] at ho11; rw [← Ny278.out] at ho11)); replace HO_5 := a_ (Kd.R_elder' (ra_ HO_5.out) (Kd.R_base ho11) hb); replace HO_7 := a_ (Kd.S_elder' (by (with_reducible repeat (first | apply Kd.S_alloc | apply Kd.S_drewN | apply Kd.S_drew)); exact HO_7.out) (Kd.R_base ho11) hb); have HO280 := a_ (Kd.R_lower ho11 (below_size z54_)); replace HB := a_ (below_step z54_ hb); clear hb ho11; obtain ⟨Ao13, co13, eo13⟩ := Kd.R_slice HO280.out; subst eo13) | ((with_reducible refine gate_builtin (b := .append) (xs := #[.tmp 21, .tmp 26]) rfl ?_); at_builtin; refine Kd.S_append (Kd.slice 102 k102) (w0 := w) w.heap.size rfl (.tmp 21) (.tmp 26) 121 99 (.slice none 0 0) 24 rfl Try.underlying121 info99 rfl (by decide) (by omega) u7 x7_2 y278 [.slice Ao13 y278.length co13] (fun _ => True) (fun k_ => some k_ = (.slice Ao13 y278.length co13 : Value).ownBlock) rfl rfl ?aP (fun k_ hk_ => ((Kd.R_mono (ok' := fun k_ => ((fun _ => True)) k_ ∧ some k_ ≠ (u7 : Value).ownBlock) (Kd.R_apart' (HO280.out) (Kd.S_typed HO_7.out) (by decide)) (fun k_ hk => ⟨trivial, hk.2⟩))).1 k_ hk_.symm) ?aF ?aO ?aB ?aS ?aL ?_; (case aP => exact Kd.M_row (Kd.R_mono (Kd.R_tight rfl (Kd.R_mono (ok' := fun k_ => ((fun _ => True)) k_ ∧ some k_ ≠ (u7 : Value).ownBlock) (Kd.R_apart' (HO280.out) (Kd.S_typed HO_7.out) (by decide)) (fun k_ hk => ⟨trivial, hk.2⟩))) (fun _ h_ => h_))); (case aB => exact z54_); (case aF => exact (fun _ _ => trivial)); (case aO => exact (by (with_reducible repeat (first | apply Kd.S_alloc | apply Kd.S_drewN | apply Kd.S_drew)); exact Kd.S_mono HO_7.out (fun k_ hk => ⟨trivial, fun e_ => hk.2 e_⟩))); (case aS => exact (below_size z54_)); (case aL => have := LMc9.out; omega); intro v282 w12 ho hb hg hat; rw [← Ny281.out] at ho; replace HO_5 := a_ (Kd.R_after (ok := (fun k_ => nb_ k_ Ao13 y278.length co13)) (rc_ (h := by exact Kd.R_mono HO_5.out (fun _ hk => ⟨hk.2, hk.1⟩))) hg hat); replace HB := a_ (hb); have HO283 := a_ (ho); clear HO280; clear HO_7; clear ho hb hg hat))
        go_roundg k2
        case measure => have := HK1.out; have := HK2.out; omega
        case rel => exact ⟨(y281), (wrap64 (x8_2 + 1)), z91_, H', ⟨z92_⟩, ⟨z58_⟩, ⟨by (with_reducible repeat (first | apply Kd.S_alloc | apply Kd.S_drewN | apply Kd.S_drew)); exact HO283.out⟩, ⟨z54_⟩⟩
       ·rw [if_neg c9] at H
        exact absurd H (by simp)
      ·rw [if_neg c8] at H
       have c8b0 : decide (x8_2 < a0) = false := decide_eq_false c8
       clear c8
       by_cases c14 : x5_1.length < 5864062014805
       ·rw [if_pos c14] at H
        have LMc14 := Aside0.mk c14
        clear c14
        obtain ⟨y284, hy284⟩ : ∃ y_ : List (List (List (S102))), y_ = (x5_1 ++ [x7_2]) := ⟨_, rfl⟩
        replace H : (spec_l04Start.l0 k2 a0 a1 y284 (wrap64 (x6_1 + 1))) = some r := rh_ hy284 H
        have Ny284 := Aside0.mk hy284
        clear hy284
        have H' := Aside0.mk H
        clear H
        obtain ⟨Ao16, co16, eo16⟩ := Kd.S_slice HO_7.out
        subst eo16
        go_wp2_with (first | ((with_reducible refine gate_builtin (b := .append) (xs := #[.tmp 28, .tmp 30]) rfl ?_); at_builtin; refine Kd.R_append (Kd.slice 99 (Kd.slice 102 k102)) (w0 := w) w.heap.size rfl (.tmp 28) (.tmp 30) 118 121 (.slice none 0 0) 24 rfl Try.underlying118 info121 rfl (by decide) (by omega) u5 x5_1 x7_2 [.slice Ao16 x7_2.length co16] (fun _ => True) (fun k_ => ((fun _ => True)) k_ ∧ some k_ ≠ (u5 : Value).ownBlock) rfl rfl ?aP (fun _ hk => hk) ?aF ?aO ?aB ?aS ?aL ?_; (case aP => exact Kd.M_row (Kd.R_mono (Kd.R_apart' ((Kd.S_R HO_7.out)) (Kd.R_typed HO_5.out) (by decide)) (fun k_ hk => ⟨trivial, hk.2⟩))); (case aB => exact z54_); (case aF => exact (fun _ _ => trivial)); (case aO => exact (rc_ (h := by exact Kd.R_mono HO_5.out (fun _ hk => trivial)))); (case aS => exact (below_size z54_)); (case aL => have := LMc14.out; omega); intro v285 w15 ho hb hg hat; rw [← Ny284.out] at ho; replace HB := a_ (hb); have HO286 := a_ (ho); clear HO_5; clear HO_7; clear ho hb hg hat))
        go_roundg k2
        case measure => have := HK1.out; have := HK2.out; omega
        case rel => exact ⟨(y284), (wrap64 (x6_1 + 1)), z91_, H', ⟨z92_⟩, ⟨by (with_reducible repeat (first | apply Kd.R_alloc | apply Kd.R_drewN | apply Kd.R_drew)); exact HO286.out⟩, ⟨z54_⟩⟩
       ·rw [if_neg c14] at H
        exact absurd H (by simp)
   ·rw [if_neg c5] at H
    have c5b0 : decide (x6_1 < a1) = false := decide_eq_false c5
    clear c5
    obtain rfl := Option.some.inj H
    go_wp2
    go_ret
    exact ⟨_, z55_, by (with_reducible repeat (first | apply Kd.R_alloc | apply Kd.R_drewN | apply Kd.R_drew)); exact HO_5.out, z54_⟩

/-! ### spec_l04Turn -/
def spec_l04Turn.togg (a : Bool) (x : S102) : S102 := if a = true then ⟨x.f0, x.f1, !x.f2, x.f3⟩ else ⟨x.f0, x.f1, x.f2, !x.f3⟩
def spec_l04Turn.f (l0 : List S102) (a1 : Bool) : Option (List S102) := if l0.length ≤ 1000000 then some (l0.reverse.map (spec_l04Turn.togg a1)) else none
theorem spec_l04Turn.togg_snoc (l : List S102) (a : Bool) (j m : Nat) (h : m + 1 + j = l.length) : (l.reverse.take (j + 1)).map (spec_l04Turn.togg a) = (l.reverse.take j).map (spec_l04Turn.togg a) ++ [spec_l04Turn.togg a (l.getD m z102)] := by
 have hj : j < l.reverse.length := by rw [List.length_reverse]; omega
 rw [List.take_succ_eq_append_getElem hj, List.map_append, List.map_cons, List.map_nil, List.getElem_reverse]
 congr 2
 rw [List.getD_eq_getElem?_getD, List.getElem?_eq_getElem (by omega), Option.getD_some]
 congr 2
 omega
theorem spec_l04Turn.togg_cells (a : Bool) (w : World) (base : Nat) (ok : Nat → Prop) (x : S102) : k102.M w base ok (spec_l04Turn.togg a x) [.int .i64 x.f0, .int .i64 x.f1, .bool (if a = true then !x.f2 else x.f2), .bool (if a = true then x.f3 else !x.f3)] := by
 cases a
 ·exact k102_mkM w base ok ⟨x.f0, x.f1, x.f2, !x.f3⟩
 ·exact k102_mkM w base ok ⟨x.f0, x.f1, !x.f2, x.f3⟩
set_option maxHeartbeats 800000 in
set_option maxRecDepth 100000 in
theorem spec_l04Turn.calls (A0 : Option Addr) (c0 : Nat) (l0 : List (S102)) (a1 : Bool) (r : List (S102)) (w : World) (hr0 : Kd.C k102 w A0 l0.length l0) (hc0 : l0.length ≤ c0) (h : spec_l04Turn.f l0 a1 = some r) :
  Calls Try.prog 116 #[.slice A0 l0.length c0, .bool a1] w fun e w' => ∃ v0_ : Value, e = .returned (v0_) ∧ Kd.R k102 102 w' w.heap.size (fun _ => True) v0_ r ∧ Below w.heap.size w w' := by
 unfold spec_l04Turn.f at h
 by_cases hl : l0.length ≤ 1000000
 ·rw [if_pos hl] at h
  injection h with h
  obtain ⟨n, hn⟩ : ∃ n : Nat, l0.length = n := ⟨_, rfl⟩
  rw [hn] at hl
  have HR := Aside0.mk hr0
  have HE := Aside0.mk h
  have HN := Aside0.mk hn
  have HL := Aside0.mk hl
  have e1 : wrap64 ((n : Int) - 1) = (n : Int) - 1 := by unfold wrap64; omega
  have f1 : IntKind.i64.wrap ((n : Int) - 1) = (n : Int) - 1 := (i64_w _).trans e1
  obtain ⟨i0, hi0⟩ : ∃ i0 : Int, (n : Int) - 1 = i0 := ⟨_, rfl⟩
  have HI0 := Aside0.mk hi0
  rw [hn]
  have HE1 := a_ (e1.trans hi0)
  clear e1 f1
  clear hr0 h hn hl hc0 hi0
  have HB := a_ (Below.refl w.heap.size w)
  go_enter Try.func116, Try.ntmps116
  go_wp2_with (first | ((with_reducible refine gate_dst (N := 8) rfl ?_); refine Kd.R_lit k102 _ 102 ?hg (N := 8) ?hd (xs := ([] : List (S102))) (inner := []) (ok := fun _ => True) (okp := fun _ => True) ?hr ?hp (fun _ hk => hk) trivial (Below.refl _ _) (Nat.le_refl _) (by simp) ?_; (case hd => rfl); (case hg => rfl); (case hr => first | (go_simp; done) | (go_simp; rfl)); (case hp => exact (Reps.none _ _)); intro v218 w3 ho4 hb hg_ hnew_; clear hg_ hnew_; have HO := Aside0.mk ho4; have HB1 := Aside0.mk hb; clear ho4 hb))
  go_loopg [5, 6] (n + 1) (fun kq v5 v6 w' => ∃ (i : Int) (j : Nat), v6 = .int .i64 i ∧ Aside0 (i = (n : Int) - 1 - (j : Int) ∧ j ≤ n ∧ j + kq = n + 1) ∧ Aside0 (Kd.R k102 102 w' w.heap.size (fun _ => True) v5 ((l0.reverse.take j).map (spec_l04Turn.togg a1))) ∧ Aside0 (Below w.heap.size w w'))
  case atStart => exact ⟨wrap64 ((n : Int) - 1), 0, rfl, ⟨by have := HE1.out; have := HI0.out; omega, by omega, by omega⟩, ⟨by simpa using HO.out⟩, HB1⟩
  case round =>
   clear HO HB1 HI0 HE1
   obtain ⟨i, j, rfl, HJ, HO, HB⟩ := hrel
   cases gk with
   | zero => exact absurd HJ.out (fun h => by omega)
   | succ k1 =>
    by_cases hj : j = n
    ·have hi : i < 0 := by have := HJ.out; omega
     have d1 : decide (i ≥ 0) = false := decide_eq_false (by omega)
     have d2 : decide (0 ≤ i) = false := decide_eq_false (by omega)
     clear hi
     have HJN := Aside0.mk hj
     clear hj
     go_wp2
     go_ret
     refine ⟨_, rfl, ?_, HB.out⟩
     have h := HO.out
     rw [← HE.out]
     have e : l0.reverse.take j = l0.reverse := List.take_of_length_le (by rw [List.length_reverse, HN.out, HJN.out]; exact Nat.le_refl _)
     rw [e] at h
     exact h
    ·obtain ⟨m, rfl⟩ : ∃ m : Nat, i = (m : Int) := ⟨i.toNat, by have := HJ.out; omega⟩
     have HM := a_ (show m + 1 + j = n by have := HJ.out; omega)
     have hml : m < l0.length := by have := HM.out; have := HN.out; omega
     obtain ⟨ad, eA, hx0, hx1, hx2, hx3⟩ := at_T102 HR.out (m : Int) (by omega) (by omega)
     cases eA
     have hx : rd_T102 l0 (m : Int) = l0.getD m z102 := rfl
     rw [hx] at hx0 hx1 hx2 hx3
     clear hx
     have HT := a_ (spec_l04Turn.togg_snoc l0 a1 j m (by have := HM.out; have := HN.out; omega))
     have HC := a_ (spec_l04Turn.togg_cells a1)
     generalize l0.getD m z102 = x at hx0 hx1 hx2 hx3 HT
     replace hx0 := (HB.out.cell (World.block_lt_of_cell? _ _ hx0)).trans hx0
     replace hx1 := (HB.out.cell (World.block_lt_of_cell? _ _ hx1)).trans hx1
     replace hx2 := (HB.out.cell (World.block_lt_of_cell? _ _ hx2)).trans hx2
     replace hx3 := (HB.out.cell (World.block_lt_of_cell? _ _ hx3)).trans hx3
     rw [show ((m : Int)).toNat = m from Int.toNat_natCast m] at hx0 hx1 hx2 hx3
     have hmn : m < n := by have := HM.out; omega
     have d1 : decide ((m : Int) ≥ 0) = true := decide_eq_true (by omega)
     have d2 : decide (0 ≤ (m : Int)) = true := decide_eq_true (by omega)
     have g1 := eq_true hmn
     have g2 := eq_true (show (m : Int) < (n : Int) by omega)
     have e1 : wrap64 ((m : Int) - 1) = (m : Int) - 1 := by have := HL.out; unfold wrap64; omega
     obtain ⟨i1, hi1⟩ : ∃ i1 : Int, (m : Int) - 1 = i1 := ⟨_, rfl⟩
     have HI1 := Aside0.mk hi1
     have HL2 := a_ (show ((l0.reverse.take j).map (spec_l04Turn.togg a1)).length = j by rw [List.length_map, List.length_take, List.length_reverse]; have := HM.out; have := HN.out; omega)
     replace e1 := e1.trans hi1
     have f1 : IntKind.i64.wrap ((m : Int) - 1) = i1 := (i64_w _).trans e1
     have HJ2 := a_ (show j + (k1 + 1) = n + 1 from HJ.out.2.2)
     clear hi1 hmn hj hml HJ
     obtain ⟨gb, hgb⟩ : ∃ gb : Nat, wr.heap.size = gb := ⟨_, rfl⟩
     cases a1
     all_goals
      go_upto_if 20 with ((with_reducible refine gate_dst (N := 7) rfl ?_); refine box_event ?hg (N := 7) ?hd (cs := #[.int .i64 0, .int .i64 0, .bool false, .bool false]) (t := 102) ?hr ?_; (case hd => rfl); (case hg => rfl); (case hr => first | (go_simp; done) | (go_simp; rfl)); intro gb130 hg w10 hbox hb; have BK := Aside0.mk hbox; have HBX := Aside0.mk hb; have HG := Aside0.mk hg; have hcz0 : w10.cell? ⟨gb130, 0, none⟩ = some (.int .i64 0) := (blk_cell hbox 0).trans rfl; have hcz1 : w10.cell? ⟨gb130, 1, none⟩ = some (.int .i64 0) := (blk_cell hbox 1).trans rfl; have hcz2 : w10.cell? ⟨gb130, 2, none⟩ = some (.bool false) := (blk_cell hbox 2).trans rfl; have hcz3 : w10.cell? ⟨gb130, 3, none⟩ = some (.bool false) := (blk_cell hbox 3).trans rfl; have hfz0 := blk_frozen hbox 0; have hfz1 := blk_frozen hbox 1; have hfz2 := blk_frozen hbox 2; have hfz3 := blk_frozen hbox 3; clear hb hbox hg)
     all_goals
      have hw0 := below_size HB.out
      have hgE := HG.out
      have HGE := a_ (show w.heap.size ≤ gb130 by omega)
      clear hw0 hgE
      have hB1 := a_ (below_set (j := 3) (v := .bool x.f3) (below_set (j := 2) (v := .bool x.f2) (below_set (j := 1) (v := .int .i64 x.f1) (below_set (j := 0) (v := .int .i64 x.f0) (below_step HB.out HBX.out) HGE.out) HGE.out) HGE.out) HGE.out)
      have hO1 := a_ (Kd.R_far (p := ⟨gb130, 3, none⟩) (Kd.R_far (p := ⟨gb130, 2, none⟩) (Kd.R_far (p := ⟨gb130, 1, none⟩) (Kd.R_far (p := ⟨gb130, 0, none⟩) (Kd.R_below (Kd.R_elderB HO.out gb130 (Nat.le_of_eq HG.out.symm)) HBX.out) (fun _ hk => hk.2) (.int .i64 x.f0)) (fun _ hk => hk.2) (.int .i64 x.f1)) (fun _ hk => hk.2) (.bool x.f2)) (fun _ hk => hk.2) (.bool x.f3))
      have hK1 := a_ (blk_put (blk_put (blk_put (blk_put BK.out 0 (.int .i64 x.f0) rfl) 1 (.int .i64 x.f1) rfl) 2 (.bool x.f2) rfl) 3 (.bool x.f3) rfl)
      clear HO HB HBX HG BK hcz0 hcz1 hcz2 hcz3 hfz0 hfz1 hfz2 hfz3 hx0 hx1 hx2 hx3
      generalize (((w10.setCell ⟨gb130, 0, none⟩ (.int .i64 x.f0)).setCell ⟨gb130, 1, none⟩ (.int .i64 x.f1)).setCell ⟨gb130, 2, none⟩ (.bool x.f2)).setCell ⟨gb130, 3, none⟩ (.bool x.f3) = w11 at hB1 hO1 hK1 ⊢
      have hcz0 : w11.cell? ⟨gb130, 0, none⟩ = some (.int .i64 x.f0) := (blk_cell hK1.out 0).trans rfl
      have hcz1 : w11.cell? ⟨gb130, 1, none⟩ = some (.int .i64 x.f1) := (blk_cell hK1.out 1).trans rfl
      have hcz2 : w11.cell? ⟨gb130, 2, none⟩ = some (.bool x.f2) := (blk_cell hK1.out 2).trans rfl
      have hcz3 : w11.cell? ⟨gb130, 3, none⟩ = some (.bool x.f3) := (blk_cell hK1.out 3).trans rfl
      have hfz0 := blk_frozen hK1.out 0
      have hfz1 := blk_frozen hK1.out 1
      have hfz2 := blk_frozen hK1.out 2
      have hfz3 := blk_frozen hK1.out 3
     ·go_upto_region 9 with (fail)
      have hB2 := a_ (below_set (j := 3) (v := .bool !x.f3) hB1.out HGE.out)
      have hO2 := a_ (Kd.R_far (p := ⟨gb130, 3, none⟩) (Kd.R_mono (ok' := fun k_ => k_ ≠ gb130) hO1.out (fun _ hk => hk.2)) (fun _ hk => hk) (.bool !x.f3))
      have hK2 := a_ (blk_put hK1.out 3 (.bool !x.f3) rfl)
      clear hB1 hO1 hK1 hcz0 hcz1 hcz2 hcz3 hfz0 hfz1 hfz2 hfz3
      generalize w11.setCell ⟨gb130, 3, none⟩ (.bool !x.f3) = w12 at hB2 hO2 hK2 ⊢
      have hM := a_ (fun w base ok => HC.out w base ok x)
      clear HC
      simp only [if_true, if_false, Bool.false_eq_true] at hM
      obtain ⟨y, hy⟩ : ∃ y : S102, spec_l04Turn.togg false x = y := ⟨_, rfl⟩
      obtain ⟨b, hb⟩ : ∃ b : Bool, (!x.f3) = b := ⟨_, rfl⟩
      rw [hy] at hM HT
      rw [hb] at hM hK2
      clear hy hb
      have hcz0 : w12.cell? ⟨gb130, 0, none⟩ = some (.int .i64 x.f0) := (blk_cell hK2.out 0).trans rfl
      have hcz1 : w12.cell? ⟨gb130, 1, none⟩ = some (.int .i64 x.f1) := (blk_cell hK2.out 1).trans rfl
      have hcz2 : w12.cell? ⟨gb130, 2, none⟩ = some (.bool x.f2) := (blk_cell hK2.out 2).trans rfl
      have hcz3 : w12.cell? ⟨gb130, 3, none⟩ = some (.bool b) := (blk_cell hK2.out 3).trans rfl
      go_wp2_with ((with_reducible refine gate_builtin (b := .append) (xs := #[.tmp 29, .tmp 31]) rfl ?_); at_builtin; refine Kd.R_append k102 (w0 := w) w.heap.size rfl (.tmp 29) (.tmp 31) 99 102 (.agg #[(.int .i64 0), (.int .i64 0), (.bool false), (.bool false)]) 24 rfl Try.underlying99 info102 rfl (by decide) (by omega) u5 ((l0.reverse.take j).map (spec_l04Turn.togg false)) y [.int .i64 x.f0, .int .i64 x.f1, .bool x.f2, .bool b] (fun k_ => k_ ≠ gb130) (fun _ => False) rfl (by first | (go_simp; done) | (go_simp; rfl)) ?aP (fun _ hk => hk.elim) ?aF ?aO ?aB ?aS ?aL ?_; (case aP => exact hM.out _ _ _); (case aB => first | exact hB2.out | exact below_alloc hB2.out _); (case aF => first | exact (fun k_ hk => Kd.freshB hK2.out k_ hk) | exact (fun k_ hk => Kd.freshB hK2.out k_ (Nat.le_trans (by simp) hk))); (case aO => first | exact hO2.out | exact Kd.R_alloc hO2.out _); (case aS => first | exact below_size hB2.out | exact below_size (below_alloc hB2.out _)); (case aL => have := HL2.out; have := HL.out; have := HM.out; omega); intro v13 w13 ho hb hg hat; have HO3 := Aside0.mk ho; have HB3 := Aside0.mk hb; clear ho hb hg hat)
      go_roundg k1
      case measure => omega
      case rel => exact ⟨_, j + 1, rfl, ⟨by have := HI1.out; have := HM.out; have := HJ2.out; omega, by have := HM.out; omega, by have := HJ2.out; omega⟩, ⟨by rw [HT.out]; exact Kd.R_mono HO3.out (fun _ _ => trivial)⟩, HB3⟩

     ·go_upto_region 9 with (fail)
      have hB2 := a_ (below_set (j := 2) (v := .bool !x.f2) hB1.out HGE.out)
      have hO2 := a_ (Kd.R_far (p := ⟨gb130, 2, none⟩) (Kd.R_mono (ok' := fun k_ => k_ ≠ gb130) hO1.out (fun _ hk => hk.2)) (fun _ hk => hk) (.bool !x.f2))
      have hK2 := a_ (blk_put hK1.out 2 (.bool !x.f2) rfl)
      clear hB1 hO1 hK1 hcz0 hcz1 hcz2 hcz3 hfz0 hfz1 hfz2 hfz3
      generalize w11.setCell ⟨gb130, 2, none⟩ (.bool !x.f2) = w12 at hB2 hO2 hK2 ⊢
      have hM := a_ (fun w base ok => HC.out w base ok x)
      clear HC
      simp only [if_true, if_false, Bool.false_eq_true] at hM
      obtain ⟨y, hy⟩ : ∃ y : S102, spec_l04Turn.togg true x = y := ⟨_, rfl⟩
      obtain ⟨b, hb⟩ : ∃ b : Bool, (!x.f2) = b := ⟨_, rfl⟩
      rw [hy] at hM HT
      rw [hb] at hM hK2
      clear hy hb
      have hcz0 : w12.cell? ⟨gb130, 0, none⟩ = some (.int .i64 x.f0) := (blk_cell hK2.out 0).trans rfl
      have hcz1 : w12.cell? ⟨gb130, 1, none⟩ = some (.int .i64 x.f1) := (blk_cell hK2.out 1).trans rfl
      have hcz2 : w12.cell? ⟨gb130, 2, none⟩ = some (.bool b) := (blk_cell hK2.out 2).trans rfl
      have hcz3 : w12.cell? ⟨gb130, 3, none⟩ = some (.bool x.f3) := (blk_cell hK2.out 3).trans rfl
      go_wp2_with ((with_reducible refine gate_builtin (b := .append) (xs := #[.tmp 29, .tmp 31]) rfl ?_); at_builtin; refine Kd.R_append k102 (w0 := w) w.heap.size rfl (.tmp 29) (.tmp 31) 99 102 (.agg #[(.int .i64 0), (.int .i64 0), (.bool false), (.bool false)]) 24 rfl Try.underlying99 info102 rfl (by decide) (by omega) u5 ((l0.reverse.take j).map (spec_l04Turn.togg true)) y [.int .i64 x.f0, .int .i64 x.f1, .bool b, .bool x.f3] (fun k_ => k_ ≠ gb130) (fun _ => False) rfl (by first | (go_simp; done) | (go_simp; rfl)) ?aP (fun _ hk => hk.elim) ?aF ?aO ?aB ?aS ?aL ?_; (case aP => exact hM.out _ _ _); (case aB => first | exact hB2.out | exact below_alloc hB2.out _); (case aF => first | exact (fun k_ hk => Kd.freshB hK2.out k_ hk) | exact (fun k_ hk => Kd.freshB hK2.out k_ (Nat.le_trans (by simp) hk))); (case aO => first | exact hO2.out | exact Kd.R_alloc hO2.out _); (case aS => first | exact below_size hB2.out | exact below_size (below_alloc hB2.out _)); (case aL => have := HL2.out; have := HL.out; have := HM.out; omega); intro v13 w13 ho hb hg hat; have HO3 := Aside0.mk ho; have HB3 := Aside0.mk hb; clear ho hb hg hat)
      go_roundg k1
      case measure => omega
      case rel => exact ⟨_, j + 1, rfl, ⟨by have := HI1.out; have := HM.out; have := HJ2.out; omega, by have := HM.out; omega, by have := HJ2.out; omega⟩, ⟨by rw [HT.out]; exact Kd.R_mono HO3.out (fun _ _ => trivial)⟩, HB3⟩

 ·rw [if_neg hl] at h; cases h

end Go.Proofs.Ytkpidjmhdagkfaa.QFnPagePlaces
-- halved
