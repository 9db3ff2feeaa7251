-- Written by own_print.py of this session's repo over the kit's print (its output, turned at some places).
import Derived.Test.YtijbccmcfagnfaaDoorQFnFoldedx0
namespace Go.Proofs.YtijbccmcfagnfaaDoor.QFnFolded
open Go.RowKit Go.Proofs.YtijbccmcfagnfaaDoorW.PrintWords Go.Proofs.YtijbccmcfagnfaaDoorW.PrintLast Go.Proofs.YtijbccmcfagnfaaDoorW.PrintMore
attribute [local go_sem] max2_int min2_int max_two min_two max_three min_three max_four min_four   -- for this text's walks alone
set_option linter.unusedVariables false
set_option linter.unusedSimpArgs false

/-! ### spec_l04Power: function 40 -/
def spec_l04Power.f (a0 : Int) : Option (Int × Bool) := if a0 = 1 then (some (0, true)) else (if a0 = 2 then (some (1, true)) else (if a0 = 4 then (some (2, true)) else (if a0 = 8 then (some (3, true)) else (some (0, false)))))
set_option maxHeartbeats 8000000 in
set_option maxRecDepth 100000 in
theorem spec_l04Power.calls (a0 : Int) (r1 : Int) (r2 : Bool) (w : World) (h : spec_l04Power.f a0 = some (r1, r2)) :
  Calls Tryd.prog 40 #[.int .i64 a0] w fun e w' => e = .returned (.tuple #[.int .i64 r1, .bool r2]) ∧ Drawn0 w w' := by
 have H : (if a0 = 1 then (some (0, true)) else (if a0 = 2 then (some (1, true)) else (if a0 = 4 then (some (2, true)) else (if a0 = 8 then (some (3, true)) else (some (0, false)))))) = some (r1, r2) := h
 clear h
 by_cases c2 : a0 = 1
 ·rw [if_pos c2] at H
  have c2b0 : (a0 == 1) = true := beq_iff_eq.mpr c2
  have c2b1 : (a0 != 1) = false := bne_eq_false_iff_eq.mpr c2
  clear c2
  simp only [Option.some.injEq, Prod.mk.injEq] at H
  obtain ⟨rfl, rfl⟩ := H
  go_enter Tryd.func40, Tryd.ntmps40
  go_wp2
  go_ret2
  exact ⟨by first | rfl | (simp only [Go.IntWalk.i64_left]; first | done | rfl) | (simp; done) | (simp [*]; done), by repeat (first | exact Drawn0.refl _ | apply Drawn0.step)⟩
 ·rw [if_neg c2] at H
  have c2b0 : (a0 == 1) = false := beq_eq_false_iff_ne.mpr c2
  have c2b1 : (a0 != 1) = true := bne_iff_ne.mpr c2
  by_cases c3 : a0 = 2
  ·rw [if_pos c3] at H
   have c3b0 : (a0 == 2) = true := beq_iff_eq.mpr c3
   have c3b1 : (a0 != 2) = false := bne_eq_false_iff_eq.mpr c3
   clear c3
   simp only [Option.some.injEq, Prod.mk.injEq] at H
   obtain ⟨rfl, rfl⟩ := H
   go_enter Tryd.func40, Tryd.ntmps40
   go_wp2
   go_ret2
   exact ⟨by first | rfl | (simp only [Go.IntWalk.i64_left]; first | done | rfl) | (simp; done) | (simp [*]; done), by repeat (first | exact Drawn0.refl _ | apply Drawn0.step)⟩
  ·rw [if_neg c3] at H
   have c3b0 : (a0 == 2) = false := beq_eq_false_iff_ne.mpr c3
   have c3b1 : (a0 != 2) = true := bne_iff_ne.mpr c3
   by_cases c4 : a0 = 4
   ·rw [if_pos c4] at H
    have c4b0 : (a0 == 4) = true := beq_iff_eq.mpr c4
    have c4b1 : (a0 != 4) = false := bne_eq_false_iff_eq.mpr c4
    clear c4
    simp only [Option.some.injEq, Prod.mk.injEq] at H
    obtain ⟨rfl, rfl⟩ := H
    go_enter Tryd.func40, Tryd.ntmps40
    go_wp2
    go_ret2
    exact ⟨by first | rfl | (simp only [Go.IntWalk.i64_left]; first | done | rfl) | (simp; done) | (simp [*]; done), by repeat (first | exact Drawn0.refl _ | apply Drawn0.step)⟩
   ·rw [if_neg c4] at H
    have c4b0 : (a0 == 4) = false := beq_eq_false_iff_ne.mpr c4
    have c4b1 : (a0 != 4) = true := bne_iff_ne.mpr c4
    by_cases c5 : a0 = 8
    ·rw [if_pos c5] at H
     have c5b0 : (a0 == 8) = true := beq_iff_eq.mpr c5
     have c5b1 : (a0 != 8) = false := bne_eq_false_iff_eq.mpr c5
     clear c5
     simp only [Option.some.injEq, Prod.mk.injEq] at H
     obtain ⟨rfl, rfl⟩ := H
     go_enter Tryd.func40, Tryd.ntmps40
     go_wp2
     go_ret2
     exact ⟨by first | rfl | (simp only [Go.IntWalk.i64_left]; first | done | rfl) | (simp; done) | (simp [*]; done), by repeat (first | exact Drawn0.refl _ | apply Drawn0.step)⟩
    ·rw [if_neg c5] at H
     have c5b0 : (a0 == 8) = false := beq_eq_false_iff_ne.mpr c5
     have c5b1 : (a0 != 8) = true := bne_iff_ne.mpr c5
     simp only [Option.some.injEq, Prod.mk.injEq] at H
     obtain ⟨rfl, rfl⟩ := H
     go_enter Tryd.func40, Tryd.ntmps40
     go_wp2
     go_ret2
     exact ⟨by first | rfl | (simp only [Go.IntWalk.i64_left]; first | done | rfl) | (simp; done) | (simp [*]; done), by repeat (first | exact Drawn0.refl _ | apply Drawn0.step)⟩

/-! ### spec_IsScheme: function 10 -/
mutual
def spec_IsScheme.l0 : Nat → ByteArray → Int → Bool → Int → Bool → Int → Option (Bool)
 | 0, _, _, _, _, _, _ => none
 | k + 1, x2, x7, x8, x9, x10, x11 => if x11 < (x2.size : Int) then (if 0 ≤ x11 then (if (bt x2 x11) = 76 then (spec_IsScheme.j1 k x2 x7 x8 x9 x10 x11 (bt x2 x11) ((bt x2 x11) == 76)) else (spec_IsScheme.j1 k x2 x7 x8 x9 x10 x11 (bt x2 x11) ((bt x2 x11) == 82))) else (none)) else (if x8 = true then (if x10 = true then (if x7 = 0 then (some (x9 == 0)) else (some false)) else (some false)) else (some false))
def spec_IsScheme.j1 : Nat → ByteArray → Int → Bool → Int → Bool → Int → Int → Bool → Option (Bool)
 | 0, _, _, _, _, _, _, _, _ => none
 | k + 1, x2, x7, x8, x9, x10, x11, x30, x31 => if x31 = true then (spec_IsScheme.l0 k x2 (wrap64 (x7 - 1)) x8 x9 x10 (wrap64 (x11 + 1))) else (if x30 = 84 then (spec_IsScheme.l0 k x2 x7 x8 (wrap64 (x9 - 1)) x10 (wrap64 (x11 + 1))) else (if x30 = 66 then (spec_IsScheme.l0 k x2 x7 x8 (wrap64 (x9 - 1)) x10 (wrap64 (x11 + 1))) else (some false)))
end
def spec_IsScheme.f (k : Nat) (a0 : Int) (a1 : Int) (a2 : ByteArray) : Option (Bool) := (spec_l04Power.f a0).bind fun bt101 => ((spec_l04Power.f a1).bind fun bt103 => (spec_IsScheme.l0 k a2 bt101.1 bt101.2 bt103.1 bt103.2 0))
theorem spec_IsScheme.mono_l : ∀ k, (∀ y0 y1 y2 y3 y4 y5, LeO (spec_IsScheme.l0 k y0 y1 y2 y3 y4 y5) (spec_IsScheme.l0 (k + 1) y0 y1 y2 y3 y4 y5)) ∧ (∀ y0 y1 y2 y3 y4 y5 y6 y7, LeO (spec_IsScheme.j1 k y0 y1 y2 y3 y4 y5 y6 y7) (spec_IsScheme.j1 (k + 1) y0 y1 y2 y3 y4 y5 y6 y7))
 | 0 => ⟨fun _ _ _ _ _ _ r h => by simp [spec_IsScheme.l0] at h, fun _ _ _ _ _ _ _ _ r h => by simp [spec_IsScheme.j1] at h⟩
 | k + 1 => by
  obtain ⟨ih0, ih1⟩ := spec_IsScheme.mono_l k
  refine ⟨?_, ?_⟩
  ·intro y0 y1 y2 y3 y4 y5
   unfold spec_IsScheme.l0
   repeat' first
   | (with_reducible exact ih0 _ _ _ _ _ _)
   | (with_reducible exact ih1 _ _ _ _ _ _ _ _)
   | (with_reducible exact LeO.refl _)
   | (with_reducible exact LeO.none _)
   | (with_reducible refine LeO.ite ?_ ?_)
   | (with_reducible refine LeO.bind ?_ (fun _ => ?_))
   | exact ih0 _ _ _ _ _ _
   | exact ih1 _ _ _ _ _ _ _ _
   | exact LeO.none _
   | refine LeO.ite ?_ ?_
   | refine LeO.bind ?_ (fun _ => ?_)
  ·intro y0 y1 y2 y3 y4 y5 y6 y7
   unfold spec_IsScheme.j1
   repeat' first
   | (with_reducible exact ih0 _ _ _ _ _ _)
   | (with_reducible exact ih1 _ _ _ _ _ _ _ _)
   | (with_reducible exact LeO.refl _)
   | (with_reducible exact LeO.none _)
   | (with_reducible refine LeO.ite ?_ ?_)
   | (with_reducible refine LeO.bind ?_ (fun _ => ?_))
   | exact ih0 _ _ _ _ _ _
   | exact ih1 _ _ _ _ _ _ _ _
   | exact LeO.none _
   | refine LeO.ite ?_ ?_
   | refine LeO.bind ?_ (fun _ => ?_)
theorem spec_IsScheme.mono : ∀ a0 a1 a2 k, LeO (spec_IsScheme.f k a0 a1 a2) (spec_IsScheme.f (k + 1) a0 a1 a2) := by
 intro a0 a1 a2 k
 obtain ⟨ih0, ih1⟩ := spec_IsScheme.mono_l k
 unfold spec_IsScheme.f
 repeat' first
   | (with_reducible exact ih0 _ _ _ _ _ _)
   | (with_reducible exact ih1 _ _ _ _ _ _ _ _)
   | (with_reducible exact LeO.refl _)
   | (with_reducible exact LeO.none _)
   | (with_reducible refine LeO.ite ?_ ?_)
   | (with_reducible refine LeO.bind ?_ (fun _ => ?_))
   | exact ih0 _ _ _ _ _ _
   | exact ih1 _ _ _ _ _ _ _ _
   | exact LeO.none _
   | refine LeO.ite ?_ ?_
   | refine LeO.bind ?_ (fun _ => ?_)
set_option maxHeartbeats 8000000 in
set_option maxRecDepth 100000 in
theorem spec_IsScheme.calls (k : Nat) (a0 : Int) (a1 : Int) (a2 : ByteArray) (r : Bool) (w : World) (h : spec_IsScheme.f k a0 a1 a2 = some r) :
  Calls Tryd.prog 10 #[.int .i64 a0, .int .i64 a1, .string a2] w fun e w' => e = .returned (.bool r) ∧ Drawn0 w w' := by
 have H : ((spec_l04Power.f a0).bind fun bt101 => ((spec_l04Power.f a1).bind fun bt103 => (spec_IsScheme.l0 k a2 bt101.1 bt101.2 bt103.1 bt103.2 0))) = some r := h
 clear h
 replace H := Option.bind_eq_some_iff.mp H
 obtain ⟨⟨t101, t102⟩, A40, H⟩ := H
 replace H : ((spec_l04Power.f a1).bind fun bt103 => (spec_IsScheme.l0 k a2 t101 t102 bt103.1 bt103.2 0)) = some r := H
 have A4 := Aside0.mk A40
 clear A40
 replace H := Option.bind_eq_some_iff.mp H
 obtain ⟨⟨t103, t104⟩, A50, H⟩ := H
 replace H : (spec_IsScheme.l0 k a2 t101 t102 t103 t104 0) = some r := H
 have A5 := Aside0.mk A50
 clear A50
 have H' := Aside0.mk H
 clear H
 go_enter Tryd.func10, Tryd.ntmps10
 go_wp2_with (first | ((with_reducible refine gate_callee (f := 40) rfl ?_); refine goesL_ (some 14) rfl rfl Tryd.func40 (by kernel_rfl) rfl #[.int .i64 a0] rfl (by (try simp only [List.map_toArray, List.map_cons, List.map_nil]); first | done | rfl | (simp only [List.length_drop, List.length_take]; rfl)) ?_; (with_reducible refine (spec_l04Power.calls a0 t101 t102 _ A4.out).mono ?_); rintro e w' ⟨rfl, ⟨nd, rfl⟩⟩; refine ⟨_, rfl, ?_⟩) | ((with_reducible refine gate_callee (f := 40) rfl ?_); refine goesL_ (some 19) rfl rfl Tryd.func40 (by kernel_rfl) rfl #[.int .i64 a1] rfl (by (try simp only [List.map_toArray, List.map_cons, List.map_nil]); first | done | rfl | (simp only [List.length_drop, List.length_take]; rfl)) ?_; (with_reducible refine (spec_l04Power.calls a1 t103 t104 _ A5.out).mono ?_); rintro e w' ⟨rfl, ⟨nd, rfl⟩⟩; refine ⟨_, rfl, ?_⟩))
 go_loopg [7, 9, 11] k (fun kq v7 v9 v11 w' => ∃ (x7_1 : Int) (x9_1 : Int) (x11_1 : Int), v7 = .int .i64 x7_1 ∧ v9 = .int .i64 x9_1 ∧ v11 = .int .i64 x11_1 ∧ Aside0 (spec_IsScheme.l0 kq a2 x7_1 t102 x9_1 t104 x11_1 = some r) ∧ Aside0 (kq ≤ k) ∧ Drawn0 w w')
 case atStart => exact ⟨(t101), (t103), (0), (by first | rfl | (simp; done) | (simp [*]; done)), (by first | rfl | (simp; done) | (simp [*]; done)), (by first | rfl | (simp; done) | (simp [*]; done)), H', ⟨Nat.le_refl _⟩, by repeat (first | exact Drawn0.refl _ | apply Drawn0.step)⟩
 case round =>
  clear H'
  try clear c1
  try clear p2
  try clear c4
  obtain ⟨x7_1, x9_1, x11_1, rfl, rfl, rfl, HA, HK1, ⟨m1, rfl⟩⟩ := hrel
  cases gk with
  | zero => exact absurd HA.out (by simp [spec_IsScheme.l0])
  | succ k1 =>
   have H := HA.out
   clear HA
   simp only [spec_IsScheme.l0] at H
   by_cases c6 : x11_1 < (a2.size : Int)
   ·rw [if_pos c6] at H
    have c6b0 : decide (x11_1 < (a2.size : Int)) = true := decide_eq_true c6
    clear c6
    by_cases c7 : 0 ≤ x11_1
    ·rw [if_pos c7] at H
     have c7b0 : decide (0 ≤ x11_1) = true := decide_eq_true c7
     clear c7
     have HC9 := Aside0.mk H
     clear H
     have p8 : 0 ≤ (x11_1 : Int) := of_decide_eq_true (by first | (with_reducible assumption) | assumption)
     have q8 : x11_1 < (a2.size : Int) := of_decide_eq_true (by first | (with_reducible assumption) | assumption)
     have hx8 := bt_at a2 x11_1
     replace p8 := eq_true p8
     replace q8 := eq_true q8
     go_upto_if 31 with (fail)
     go_cut [31] (fun v31 wc => ∃ (kq : Nat) (x31_8 : Bool), v31 = .bool x31_8 ∧ Aside0 (spec_IsScheme.j1 kq a2 x7_1 t102 x9_1 t104 x11_1 (bt a2 x11_1) x31_8 = some r) ∧ Aside0 (kq ≤ k1) ∧ Drawn0 w wc)
     case first =>
      have H := HC9.out
      clear HC9
      by_cases c10 : (bt a2 x11_1) = 76
      ·rw [if_pos c10] at H
       have c10b0 : ((bt a2 x11_1) == 76) = true := beq_iff_eq.mpr c10
       have c10b1 : ((bt a2 x11_1) != 76) = false := bne_eq_false_iff_eq.mpr c10
       clear c10
       (first | rw [c10b0] | (simp only [i64_w, i32_w]; rw [c10b0]) | skip)
       have H' := Aside0.mk H
       clear H
       go_wp2
       go_meet
       case rel => exact ⟨_, (((bt a2 x11_1) == 76)), (by first | rfl | (simp; done) | (simp [*]; done)), H', ⟨by have := HK1.out; first | omega | exact Nat.le_refl _⟩, by repeat (first | exact Drawn0.refl _ | apply Drawn0.step)⟩
      ·rw [if_neg c10] at H
       have c10b0 : ((bt a2 x11_1) == 76) = false := beq_eq_false_iff_ne.mpr c10
       have c10b1 : ((bt a2 x11_1) != 76) = true := bne_iff_ne.mpr c10
       (first | rw [c10b0] | (simp only [i64_w, i32_w]; rw [c10b0]) | skip)
       have H' := Aside0.mk H
       clear H
       go_wp2
       go_meet
       case rel => exact ⟨_, (((bt a2 x11_1) == 82)), (by first | rfl | (simp; done) | (simp [*]; done)), H', ⟨by have := HK1.out; first | omega | exact Nat.le_refl _⟩, by repeat (first | exact Drawn0.refl _ | apply Drawn0.step)⟩
     case rest =>
      clear HC9
      try clear c1
      try clear p2
      try clear c4
      try clear c6
      try clear c6b0
      try clear c7
      try clear c7b0
      try clear p8
      try clear q8
      try clear hx8
      try clear c10
      try clear c10b0
      try clear c10b1
      try clear p2
      try clear p8
      try clear q8
      obtain ⟨kq, x31_8, rfl, HA, HJ8, ⟨mc8, rfl⟩⟩ := hcut
      cases kq with
      | zero => exact absurd HA.out (by simp [spec_IsScheme.j1])
      | succ kj8 =>
       have H := HA.out
       clear HA
       simp only [spec_IsScheme.j1] at H
       by_cases c11 : x31_8 = true
       ·subst c11
        have H1 : (spec_IsScheme.l0 kj8 a2 (wrap64 (x7_1 - 1)) t102 x9_1 t104 (wrap64 (x11_1 + 1))) = some r := by rw [if_pos rfl] at H; exact H
        clear H
        have H := H1
        clear H1
        have H' := Aside0.mk H
        clear H
        go_wp2
        go_roundg kj8
        case measure => have := HK1.out; have := HJ8.out; omega
        case rel => exact ⟨(wrap64 (x7_1 - 1)), (x9_1), (wrap64 (x11_1 + 1)), (by first | rfl | (simp; done) | (simp [*]; done)), (by first | rfl | (simp; done) | (simp [*]; done)), (by first | rfl | (simp; done) | (simp [*]; done)), H', ⟨by have := HK1.out; have := HJ8.out; omega⟩, by repeat (first | exact Drawn0.refl _ | apply Drawn0.step)⟩
       ·replace c11 := Bool.eq_false_iff.mpr c11
        subst c11
        have H1 : (if (bt a2 x11_1) = 84 then (spec_IsScheme.l0 kj8 a2 x7_1 t102 (wrap64 (x9_1 - 1)) t104 (wrap64 (x11_1 + 1))) else (if (bt a2 x11_1) = 66 then (spec_IsScheme.l0 kj8 a2 x7_1 t102 (wrap64 (x9_1 - 1)) t104 (wrap64 (x11_1 + 1))) else (some false))) = some r := by rw [if_neg (show ¬ (false = true) by decide)] at H; exact H
        clear H
        have H := H1
        clear H1
        by_cases c12 : (bt a2 x11_1) = 84
        ·rw [if_pos c12] at H
         have c12b0 : ((bt a2 x11_1) == 84) = true := beq_iff_eq.mpr c12
         have c12b1 : ((bt a2 x11_1) != 84) = false := bne_eq_false_iff_eq.mpr c12
         clear c12
         have H' := Aside0.mk H
         clear H
         go_wp2
         go_roundg kj8
         case measure => have := HK1.out; have := HJ8.out; omega
         case rel => exact ⟨(x7_1), (wrap64 (x9_1 - 1)), (wrap64 (x11_1 + 1)), (by first | rfl | (simp; done) | (simp [*]; done)), (by first | rfl | (simp; done) | (simp [*]; done)), (by first | rfl | (simp; done) | (simp [*]; done)), H', ⟨by have := HK1.out; have := HJ8.out; omega⟩, by repeat (first | exact Drawn0.refl _ | apply Drawn0.step)⟩
        ·rw [if_neg c12] at H
         have c12b0 : ((bt a2 x11_1) == 84) = false := beq_eq_false_iff_ne.mpr c12
         have c12b1 : ((bt a2 x11_1) != 84) = true := bne_iff_ne.mpr c12
         by_cases c13 : (bt a2 x11_1) = 66
         ·rw [if_pos c13] at H
          have c13b0 : ((bt a2 x11_1) == 66) = true := beq_iff_eq.mpr c13
          have c13b1 : ((bt a2 x11_1) != 66) = false := bne_eq_false_iff_eq.mpr c13
          clear c13
          have H' := Aside0.mk H
          clear H
          go_wp2
          go_roundg kj8
          case measure => have := HK1.out; have := HJ8.out; omega
          case rel => exact ⟨(x7_1), (wrap64 (x9_1 - 1)), (wrap64 (x11_1 + 1)), (by first | rfl | (simp; done) | (simp [*]; done)), (by first | rfl | (simp; done) | (simp [*]; done)), (by first | rfl | (simp; done) | (simp [*]; done)), H', ⟨by have := HK1.out; have := HJ8.out; omega⟩, by repeat (first | exact Drawn0.refl _ | apply Drawn0.step)⟩
         ·rw [if_neg c13] at H
          have c13b0 : ((bt a2 x11_1) == 66) = false := beq_eq_false_iff_ne.mpr c13
          have c13b1 : ((bt a2 x11_1) != 66) = true := bne_iff_ne.mpr c13
          obtain rfl := Option.some.inj H
          go_wp2
          go_ret
          exact ⟨by first | rfl | (simp only [Go.IntWalk.i64_left]; first | done | rfl) | (simp; done) | (simp [*]; done), by repeat (first | exact Drawn0.refl _ | apply Drawn0.step)⟩
    ·rw [if_neg c7] at H
     exact absurd H (by simp)
   ·rw [if_neg c6] at H
    have c6b0 : decide (x11_1 < (a2.size : Int)) = false := decide_eq_false c6
    clear c6
    by_cases c14 : t102 = true
    ·subst c14
     have H1 : (if t104 = true then (if x7_1 = 0 then (some (x9_1 == 0)) else (some false)) else (some false)) = some r := by rw [if_pos rfl] at H; exact H
     clear H
     have H := H1
     clear H1
     by_cases c15 : t104 = true
     ·subst c15
      have H1 : (if x7_1 = 0 then (some (x9_1 == 0)) else (some false)) = some r := by rw [if_pos rfl] at H; exact H
      clear H
      have H := H1
      clear H1
      by_cases c16 : x7_1 = 0
      ·rw [if_pos c16] at H
       have c16b0 : (x7_1 == 0) = true := beq_iff_eq.mpr c16
       have c16b1 : (x7_1 != 0) = false := bne_eq_false_iff_eq.mpr c16
       clear c16
       obtain rfl := Option.some.inj H
       go_wp2
       go_ret
       exact ⟨by first | rfl | (simp only [Go.IntWalk.i64_left]; first | done | rfl) | (simp; done) | (simp [*]; done), by repeat (first | exact Drawn0.refl _ | apply Drawn0.step)⟩
      ·rw [if_neg c16] at H
       have c16b0 : (x7_1 == 0) = false := beq_eq_false_iff_ne.mpr c16
       have c16b1 : (x7_1 != 0) = true := bne_iff_ne.mpr c16
       obtain rfl := Option.some.inj H
       go_wp2
       go_ret
       exact ⟨by first | rfl | (simp only [Go.IntWalk.i64_left]; first | done | rfl) | (simp; done) | (simp [*]; done), by repeat (first | exact Drawn0.refl _ | apply Drawn0.step)⟩
     ·replace c15 := Bool.eq_false_iff.mpr c15
      subst c15
      have H1 : (some false) = some r := by rw [if_neg (show ¬ (false = true) by decide)] at H; exact H
      clear H
      have H := H1
      clear H1
      obtain rfl := Option.some.inj H
      go_wp2
      go_ret
      exact ⟨by first | rfl | (simp only [Go.IntWalk.i64_left]; first | done | rfl) | (simp; done) | (simp [*]; done), by repeat (first | exact Drawn0.refl _ | apply Drawn0.step)⟩
    ·replace c14 := Bool.eq_false_iff.mpr c14
     subst c14
     have H1 : (some false) = some r := by rw [if_neg (show ¬ (false = true) by decide)] at H; exact H
     clear H
     have H := H1
     clear H1
     obtain rfl := Option.some.inj H
     go_wp2
     go_ret
     exact ⟨by first | rfl | (simp only [Go.IntWalk.i64_left]; first | done | rfl) | (simp; done) | (simp [*]; done), by repeat (first | exact Drawn0.refl _ | apply Drawn0.step)⟩

/-! ### impl_isSide: function 76 -/
def impl_isSide.f (a0 : Int) : Option (Bool) := if a0 = 1 then (some true) else (if a0 = 2 then (some true) else (if a0 = 4 then (some true) else (some (a0 == 8))))
set_option maxHeartbeats 8000000 in
set_option maxRecDepth 100000 in
theorem impl_isSide.calls (a0 : Int) (r : Bool) (w : World) (h : impl_isSide.f a0 = some r) :
  Calls Tryd.prog 76 #[.int .i64 a0] w fun e w' => e = .returned (.bool r) ∧ Drawn0 w w' := by
 have H : (if a0 = 1 then (some true) else (if a0 = 2 then (some true) else (if a0 = 4 then (some true) else (some (a0 == 8))))) = some r := h
 clear h
 by_cases c2 : a0 = 1
 ·rw [if_pos c2] at H
  have c2b0 : (a0 == 1) = true := beq_iff_eq.mpr c2
  have c2b1 : (a0 != 1) = false := bne_eq_false_iff_eq.mpr c2
  clear c2
  obtain rfl := Option.some.inj H
  go_enter Tryd.func76, Tryd.ntmps76
  go_wp2
  go_ret
  exact ⟨by first | rfl | (simp only [Go.IntWalk.i64_left]; first | done | rfl) | (simp; done) | (simp [*]; done), by repeat (first | exact Drawn0.refl _ | apply Drawn0.step)⟩
 ·rw [if_neg c2] at H
  have c2b0 : (a0 == 1) = false := beq_eq_false_iff_ne.mpr c2
  have c2b1 : (a0 != 1) = true := bne_iff_ne.mpr c2
  by_cases c3 : a0 = 2
  ·rw [if_pos c3] at H
   have c3b0 : (a0 == 2) = true := beq_iff_eq.mpr c3
   have c3b1 : (a0 != 2) = false := bne_eq_false_iff_eq.mpr c3
   clear c3
   obtain rfl := Option.some.inj H
   go_enter Tryd.func76, Tryd.ntmps76
   go_wp2
   go_ret
   exact ⟨by first | rfl | (simp only [Go.IntWalk.i64_left]; first | done | rfl) | (simp; done) | (simp [*]; done), by repeat (first | exact Drawn0.refl _ | apply Drawn0.step)⟩
  ·rw [if_neg c3] at H
   have c3b0 : (a0 == 2) = false := beq_eq_false_iff_ne.mpr c3
   have c3b1 : (a0 != 2) = true := bne_iff_ne.mpr c3
   by_cases c4 : a0 = 4
   ·rw [if_pos c4] at H
    have c4b0 : (a0 == 4) = true := beq_iff_eq.mpr c4
    have c4b1 : (a0 != 4) = false := bne_eq_false_iff_eq.mpr c4
    clear c4
    obtain rfl := Option.some.inj H
    go_enter Tryd.func76, Tryd.ntmps76
    go_wp2
    go_ret
    exact ⟨by first | rfl | (simp only [Go.IntWalk.i64_left]; first | done | rfl) | (simp; done) | (simp [*]; done), by repeat (first | exact Drawn0.refl _ | apply Drawn0.step)⟩
   ·rw [if_neg c4] at H
    have c4b0 : (a0 == 4) = false := beq_eq_false_iff_ne.mpr c4
    have c4b1 : (a0 != 4) = true := bne_iff_ne.mpr c4
    obtain rfl := Option.some.inj H
    go_enter Tryd.func76, Tryd.ntmps76
    go_wp2
    go_ret
    exact ⟨by first | rfl | (simp only [Go.IntWalk.i64_left]; first | done | rfl) | (simp; done) | (simp [*]; done), by repeat (first | exact Drawn0.refl _ | apply Drawn0.step)⟩

/-! ### impl_isSheet: function 41 -/
def impl_isSheet.f (a0 : Int) (a1 : Int) : Option (Bool) := (impl_isSide.f a0).bind fun t105 => (if t105 = true then ((impl_isSide.f a1).bind fun t106 => (some t106)) else (some false))
set_option maxHeartbeats 8000000 in
set_option maxRecDepth 100000 in
theorem impl_isSheet.calls (a0 : Int) (a1 : Int) (r : Bool) (w : World) (h : impl_isSheet.f a0 a1 = some r) :
  Calls Tryd.prog 41 #[.int .i64 a0, .int .i64 a1] w fun e w' => e = .returned (.bool r) ∧ Drawn0 w w' := by
 have H : ((impl_isSide.f a0).bind fun t105 => (if t105 = true then ((impl_isSide.f a1).bind fun t106 => (some t106)) else (some false))) = some r := h
 clear h
 replace H := Option.bind_eq_some_iff.mp H
 obtain ⟨t105, A30, H⟩ := H
 replace H : (if t105 = true then ((impl_isSide.f a1).bind fun t106 => (some t106)) else (some false)) = some r := H
 have A3 := Aside0.mk A30
 clear A30
 by_cases c4 : t105 = true
 ·subst c4
  have H1 : ((impl_isSide.f a1).bind fun t106 => (some t106)) = some r := by rw [if_pos rfl] at H; exact H
  clear H
  have H := H1
  clear H1
  replace H := Option.bind_eq_some_iff.mp H
  obtain ⟨t106, A50, H⟩ := H
  replace H : (some t106) = some r := H
  have A5 := Aside0.mk A50
  clear A50
  obtain rfl := Option.some.inj H
  go_enter Tryd.func41, Tryd.ntmps41
  go_wp2_with (first | ((with_reducible refine gate_callee (f := 76) rfl ?_); refine goesL_ (some 6) rfl rfl Tryd.func76 (by kernel_rfl) rfl #[.int .i64 a0] rfl (by (try simp only [List.map_toArray, List.map_cons, List.map_nil]); first | done | rfl | (simp only [List.length_drop, List.length_take]; rfl)) ?_; (with_reducible refine (impl_isSide.calls a0 true _ A3.out).mono ?_); rintro e w' ⟨rfl, ⟨nd, rfl⟩⟩; refine ⟨_, rfl, ?_⟩) | (go_at_call 76; (with_reducible refine (impl_isSide.calls a1 t106 _ A5.out).mono ?_); rintro e w' ⟨rfl, ⟨nd, rfl⟩⟩))
  go_ret
  exact ⟨by first | rfl | (simp only [Go.IntWalk.i64_left]; first | done | rfl) | (simp; done) | (simp [*]; done), by repeat (first | exact Drawn0.refl _ | apply Drawn0.step)⟩
 ·replace c4 := Bool.eq_false_iff.mpr c4
  subst c4
  have H1 : (some false) = some r := by rw [if_neg (show ¬ (false = true) by decide)] at H; exact H
  clear H
  have H := H1
  clear H1
  obtain rfl := Option.some.inj H
  go_enter Tryd.func41, Tryd.ntmps41
  go_wp2_with (first | ((with_reducible refine gate_callee (f := 76) rfl ?_); refine goesL_ (some 6) rfl rfl Tryd.func76 (by kernel_rfl) rfl #[.int .i64 a0] rfl (by (try simp only [List.map_toArray, List.map_cons, List.map_nil]); first | done | rfl | (simp only [List.length_drop, List.length_take]; rfl)) ?_; (with_reducible refine (impl_isSide.calls a0 false _ A3.out).mono ?_); rintro e w' ⟨rfl, ⟨nd, rfl⟩⟩; refine ⟨_, rfl, ?_⟩))
  go_ret
  exact ⟨by first | rfl | (simp only [Go.IntWalk.i64_left]; first | done | rfl) | (simp; done) | (simp [*]; done), by repeat (first | exact Drawn0.refl _ | apply Drawn0.step)⟩

-- NOT PRINTED: function 77 (strings_trimLeftByte)

-- NOT PRINTED: function 78 (strings_trimRightByte)

-- NOT PRINTED: function 79 (strings_makeASCIISet)

-- NOT PRINTED: function 92 (strings_asciiSet_contains)

-- NOT PRINTED: function 80 (strings_trimLeftASCII)

-- NOT PRINTED: function 81 (strings_trimRightASCII)

-- NOT PRINTED: function 101 (utf8_decodeRuneInStringSlow)

-- NOT PRINTED: function 93 (utf8_DecodeRuneInString)

-- NOT PRINTED: function 105 (bytealg_IndexString)

-- NOT PRINTED: function 106 (bytealg_Cutover)

-- NOT PRINTED: function 111 (bytealg_IndexByteString)

-- NOT PRINTED: function 104 (stringslite_IndexByte)

-- NOT PRINTED: function 109 (strings_IndexByte)

-- NOT PRINTED: function 110 (utf8_ValidRune)

-- NOT PRINTED: function 102 (strings_IndexRune)

-- NOT PRINTED: function 94 (strings_ContainsRune)

-- NOT PRINTED: function 82 (strings_trimLeftUnicode)

-- NOT PRINTED: function 103 (utf8_RuneStart)

-- NOT PRINTED: function 95 (utf8_DecodeLastRuneInString)

-- NOT PRINTED: function 83 (strings_trimRightUnicode)

-- NOT PRINTED: function 42 (strings_Trim)

-- NOT PRINTED: function 84 (utf8_RuneCountInString)

-- NOT PRINTED: function 85 (bytealg_CountString)

-- NOT PRINTED: function 112 (bytealg_hashStr_string)

-- NOT PRINTED: function 107 (bytealg_IndexRabinKarp_string)

-- NOT PRINTED: function 96 (stringslite_Index)

-- NOT PRINTED: function 86 (strings_Index)

-- NOT PRINTED: function 43 (strings_Count)

/-! ### impl_halvings: function 44 -/
def impl_halvings.l0 : Nat → Int → Int → Option (Int)
 | 0, _, _ => none
 | k + 1, x0, x3 => if x0 > 1 then (impl_halvings.l0 k (wrap64 (Int.tdiv x0 2)) (wrap64 (x3 + 1))) else (some x3)
def impl_halvings.f (k : Nat) (a0 : Int) : Option (Int) := impl_halvings.l0 k a0 0
theorem impl_halvings.mono_l : ∀ k, (∀ y0 y1, LeO (impl_halvings.l0 k y0 y1) (impl_halvings.l0 (k + 1) y0 y1))
 | 0 => fun _ _ r h => by simp [impl_halvings.l0] at h
 | k + 1 => by
  have ih0 := impl_halvings.mono_l k
  ·intro y0 y1
   unfold impl_halvings.l0
   repeat' first
   | (with_reducible exact ih0 _ _)
   | (with_reducible exact LeO.refl _)
   | (with_reducible exact LeO.none _)
   | (with_reducible refine LeO.ite ?_ ?_)
   | (with_reducible refine LeO.bind ?_ (fun _ => ?_))
   | exact ih0 _ _
   | exact LeO.none _
   | refine LeO.ite ?_ ?_
   | refine LeO.bind ?_ (fun _ => ?_)
theorem impl_halvings.mono : ∀ a0 k, LeO (impl_halvings.f k a0) (impl_halvings.f (k + 1) a0) := by
 intro a0 k
 have ih0 := impl_halvings.mono_l k
 unfold impl_halvings.f
 repeat' first
   | (with_reducible exact ih0 _ _)
   | (with_reducible exact LeO.refl _)
   | (with_reducible exact LeO.none _)
   | (with_reducible refine LeO.ite ?_ ?_)
   | (with_reducible refine LeO.bind ?_ (fun _ => ?_))
   | exact ih0 _ _
   | exact LeO.none _
   | refine LeO.ite ?_ ?_
   | refine LeO.bind ?_ (fun _ => ?_)
set_option maxHeartbeats 8000000 in
set_option maxRecDepth 100000 in
theorem impl_halvings.calls (k : Nat) (a0 : Int) (r : Int) (w : World) (h : impl_halvings.f k a0 = some r) :
  Calls Tryd.prog 44 #[.int .i64 a0] w fun e w' => e = .returned (.int .i64 r) ∧ Drawn0 w w' := by
 have H : (impl_halvings.l0 k a0 0) = some r := h
 clear h
 have H' := Aside0.mk H
 clear H
 go_enter Tryd.func44, Tryd.ntmps44
 go_wp2
 go_loopg [0, 3] k (fun kq v0 v3 w' => ∃ (x0_1 : Int) (x3_1 : Int), v0 = .int .i64 x0_1 ∧ v3 = .int .i64 x3_1 ∧ Aside0 (impl_halvings.l0 kq x0_1 x3_1 = some r) ∧ Aside0 (kq ≤ k) ∧ Drawn0 w w')
 case atStart => exact ⟨(a0), (0), (by first | rfl | (simp; done) | (simp [*]; done)), (by first | rfl | (simp; done) | (simp [*]; done)), H', ⟨Nat.le_refl _⟩, by repeat (first | exact Drawn0.refl _ | apply Drawn0.step)⟩
 case round =>
  clear H'
  obtain ⟨x0_1, x3_1, rfl, rfl, HA, HK1, ⟨m1, rfl⟩⟩ := hrel
  cases gk with
  | zero => exact absurd HA.out (by simp [impl_halvings.l0])
  | succ k1 =>
   have H := HA.out
   clear HA
   simp only [impl_halvings.l0] at H
   by_cases c2 : x0_1 > 1
   ·rw [if_pos c2] at H
    have c2b0 : decide (1 < x0_1) = true := decide_eq_true c2
    clear c2
    have H' := Aside0.mk H
    clear H
    go_wp2
    go_roundg k1
    case measure => have := HK1.out; omega
    case rel => exact ⟨(wrap64 (Int.tdiv x0_1 2)), (wrap64 (x3_1 + 1)), (by first | rfl | (simp; done) | (simp [*]; done)), (by first | rfl | (simp; done) | (simp [*]; done)), H', ⟨by have := HK1.out; omega⟩, by repeat (first | exact Drawn0.refl _ | apply Drawn0.step)⟩
   ·rw [if_neg c2] at H
    have c2b0 : decide (1 < x0_1) = false := decide_eq_false c2
    clear c2
    obtain rfl := Option.some.inj H
    go_wp2
    go_ret
    exact ⟨by first | rfl | (simp only [Go.IntWalk.i64_left]; first | done | rfl) | (simp; done) | (simp [*]; done), by repeat (first | exact Drawn0.refl _ | apply Drawn0.step)⟩

/-! ### impl_IsScheme -/
def lay_trim_ren : Go.Shelf.Ren := ⟨fun | 160 => 42 | 232 => 78 | 231 => 77 | 227 => 79 | 234 => 81 | 233 => 80 | 236 => 83 | 235 => 82 | 228 => 92 | 271 => 95 | 151 => 94 | 197 => 93 | 120 => 103 | 152 => 102 | 260 => 101 | 137 => 109 | 119 => 110 | 224 => 106 | 225 => 105 | 217 => 104 | 266 => 111 | n => n, fun | 9 => 9 | 4 => 4 | 3 => 3 | 5 => 5 | 117 => 88 | 116 => 87 | 0 => 0 | 124 => 91 | 21 => 21 | 105 => 103 | 46 => 111 | 119 => 113 | 139 => 116 | 138 => 115 | n => n, fun | 3 => 1 | 4 => 2 | n => n⟩
theorem lay_trim : Go.Proofs.Lays.n160 Tryd.prog lay_trim_ren := {
 mixed := by kernel_rfl
 f119 := Tryd.func110.trans (congrArg some (by kernel_rfl))
 f120 := Tryd.func103.trans (congrArg some (by kernel_rfl))
 f137 := Tryd.func109.trans (congrArg some (by kernel_rfl))
 f151 := Tryd.func94.trans (congrArg some (by kernel_rfl))
 f152 := Tryd.func102.trans (congrArg some (by kernel_rfl))
 f160 := Tryd.func42.trans (congrArg some (by kernel_rfl))
 f197 := Tryd.func93.trans (congrArg some (by kernel_rfl))
 f217 := Tryd.func104.trans (congrArg some (by kernel_rfl))
 f224 := Tryd.func106.trans (congrArg some (by kernel_rfl))
 f225 := Tryd.func105.trans (congrArg some (by kernel_rfl))
 f227 := Tryd.func79.trans (congrArg some (by kernel_rfl))
 f228 := Tryd.func92.trans (congrArg some (by kernel_rfl))
 f231 := Tryd.func77.trans (congrArg some (by kernel_rfl))
 f232 := Tryd.func78.trans (congrArg some (by kernel_rfl))
 f233 := Tryd.func80.trans (congrArg some (by kernel_rfl))
 f234 := Tryd.func81.trans (congrArg some (by kernel_rfl))
 f235 := Tryd.func82.trans (congrArg some (by kernel_rfl))
 f236 := Tryd.func83.trans (congrArg some (by kernel_rfl))
 f260 := Tryd.func101.trans (congrArg some (by kernel_rfl))
 f266 := Tryd.func111.trans (congrArg some (by kernel_rfl))
 f271 := Tryd.func95.trans (congrArg some (by kernel_rfl))
 t0 := Tryd.underlying0
 a0 := Tryd.isAgg0
 z0 := Tryd.sizeOf0
 v0 := Tryd.zeroValue0
 t3 := Tryd.underlying3
 a3 := Tryd.isAgg3
 z3 := Tryd.sizeOf3
 v3 := Tryd.zeroValue3
 t4 := Tryd.underlying4
 a4 := Tryd.isAgg4
 z4 := Tryd.sizeOf4
 v4 := Tryd.zeroValue4
 t5 := Tryd.underlying5
 a5 := Tryd.isAgg5
 z5 := Tryd.sizeOf5
 v5 := Tryd.zeroValue5
 t9 := Tryd.underlying9
 a9 := Tryd.isAgg9
 z9 := Tryd.sizeOf9
 v9 := Tryd.zeroValue9
 t21 := Tryd.underlying21
 a21 := Tryd.isAgg21
 z21 := Tryd.sizeOf21
 v21 := Tryd.zeroValue21
 t46 := Tryd.underlying111
 a46 := Tryd.isAgg111
 z46 := Tryd.sizeOf111
 v46 := Tryd.zeroValue111
 t105 := Tryd.underlying103
 a105 := Tryd.isAgg103
 z105 := Tryd.sizeOf103
 v105 := Tryd.zeroValue103
 t116 := Tryd.underlying87
 a116 := Tryd.isAgg87
 z116 := Tryd.sizeOf87
 t117 := Tryd.underlying88
 a117 := Tryd.isAgg88
 z117 := Tryd.sizeOf88
 v117 := Tryd.zeroValue88
 t119 := Tryd.underlying113
 a119 := Tryd.isAgg113
 z119 := Tryd.sizeOf113
 t124 := Tryd.underlying91
 a124 := Tryd.isAgg91
 z124 := Tryd.sizeOf91
 v124 := Tryd.zeroValue91
 t138 := Tryd.underlying115
 a138 := Tryd.isAgg115
 z138 := Tryd.sizeOf115
 v138 := Tryd.zeroValue115
 t139 := Tryd.underlying116
 a139 := Tryd.isAgg116
 z139 := Tryd.sizeOf116
 v139 := Tryd.zeroValue116
 g3 := by kernel_rfl
 g4 := by kernel_rfl }
def lay_count_ren : Go.Shelf.Ren := ⟨fun | 138 => 43 | 195 => 84 | 218 => 85 | 143 => 86 | 219 => 96 | 217 => 104 | 225 => 105 | 224 => 106 | 267 => 107 | 266 => 111 | 314 => 112 | n => n, fun | 9 => 9 | 3 => 3 | 4 => 4 | 5 => 5 | 0 => 0 | 46 => 111 | 146 => 119 | 51 => 118 | n => n, fun | 1 => 0 | n => n⟩
theorem lay_count : Go.Proofs.Lays.n138 Tryd.prog lay_count_ren := {
 mixed := by kernel_rfl
 f138 := Tryd.func43.trans (congrArg some (by kernel_rfl))
 f143 := Tryd.func86.trans (congrArg some (by kernel_rfl))
 f195 := Tryd.func84.trans (congrArg some (by kernel_rfl))
 f217 := Tryd.func104.trans (congrArg some (by kernel_rfl))
 f218 := Tryd.func85.trans (congrArg some (by kernel_rfl))
 f219 := Tryd.func96.trans (congrArg some (by kernel_rfl))
 f224 := Tryd.func106.trans (congrArg some (by kernel_rfl))
 f225 := Tryd.func105.trans (congrArg some (by kernel_rfl))
 f266 := Tryd.func111.trans (congrArg some (by kernel_rfl))
 f267 := Tryd.func107.trans (congrArg some (by kernel_rfl))
 f314 := Tryd.func112.trans (congrArg some (by kernel_rfl))
 t0 := Tryd.underlying0
 a0 := Tryd.isAgg0
 z0 := Tryd.sizeOf0
 v0 := Tryd.zeroValue0
 t3 := Tryd.underlying3
 a3 := Tryd.isAgg3
 z3 := Tryd.sizeOf3
 v3 := Tryd.zeroValue3
 t4 := Tryd.underlying4
 a4 := Tryd.isAgg4
 z4 := Tryd.sizeOf4
 v4 := Tryd.zeroValue4
 t5 := Tryd.underlying5
 a5 := Tryd.isAgg5
 z5 := Tryd.sizeOf5
 v5 := Tryd.zeroValue5
 t9 := Tryd.underlying9
 a9 := Tryd.isAgg9
 z9 := Tryd.sizeOf9
 v9 := Tryd.zeroValue9
 t46 := Tryd.underlying111
 a46 := Tryd.isAgg111
 z46 := Tryd.sizeOf111
 v46 := Tryd.zeroValue111
 t51 := Tryd.underlying118
 a51 := Tryd.isAgg118
 z51 := Tryd.sizeOf118
 v51 := Tryd.zeroValue118
 t146 := Tryd.underlying119
 a146 := Tryd.isAgg119
 z146 := Tryd.sizeOf119
 v146 := Tryd.zeroValue119
 g1 := by kernel_rfl }
def lrcount (s : ByteArray) : Nat := Go.Lib.countByte s.data.toList 76 + Go.Lib.countByte s.data.toList 82
def impl_IsScheme.f (k : Nat) (a0 a1 : Int) (a2 : ByteArray) : Option Bool := (impl_isSheet.f a0 a1).bind fun b => if b = true then (if a2.size ≤ 1048576 then (if Go.Lib.trimS a2.data.toList [76, 82, 84, 66] = [] then ((impl_halvings.f k a0).bind fun x => if (lrcount a2 : Int) = x then ((impl_halvings.f k a1).bind fun y => some (decide ((a2.size : Int) - (lrcount a2 : Int) = y))) else some false) else some false) else none) else some false
theorem impl_IsScheme.mono : ∀ a0 a1 a2 k, LeO (impl_IsScheme.f k a0 a1 a2) (impl_IsScheme.f (k + 1) a0 a1 a2) := by
 intro a0 a1 a2 k
 unfold impl_IsScheme.f
 exact LeO.bind (LeO.refl _) (fun _ => LeO.ite (LeO.ite (LeO.ite (LeO.bind (impl_halvings.mono _ _) (fun _ => LeO.ite (LeO.bind (impl_halvings.mono _ _) (fun _ => LeO.refl _)) (LeO.refl _))) (LeO.refl _)) (LeO.none _)) (LeO.refl _))
set_option maxHeartbeats 4000000 in
set_option maxRecDepth 100000 in
theorem impl_IsScheme.calls (k : Nat) (a0 a1 : Int) (a2 : ByteArray) (r : Bool) (w : World) (h : impl_IsScheme.f k a0 a1 a2 = some r) :
  Calls Tryd.prog 11 #[.int .i64 a0, .int .i64 a1, .string a2] w fun e w' => e = .returned (.bool r) ∧ Below w.heap.size w w' := by
 unfold impl_IsScheme.f at h
 obtain ⟨b, hb, h0⟩ := Option.bind_eq_some_iff.1 h
 clear h
 have HB := Aside0.mk hb
 clear hb
 cases b with
 | false =>
  rw [if_neg (by simp)] at h0
  injection h0 with e1
  subst e1
  go_enter Tryd.func11, Tryd.ntmps11
  go_wp2_with (go_at_call 41; (with_reducible refine (impl_isSheet.calls a0 a1 false _ HB.out).mono ?_); rintro e w1 ⟨rfl, ⟨nd, rfl⟩⟩)
  go_ret
  exact ⟨rfl, pw_below_drewN (Below.refl _ _) _⟩
 | true =>
  rw [if_pos rfl] at h0
  by_cases hs : a2.size ≤ 1048576
  ·rw [if_pos hs] at h0
   have hcon := fun W => Go.Proofs.Any.strings_Trim_laid lay_trim (by kernel_rfl) a2 ⟨#[76, 82, 84, 66]⟩ W (by omega) (by decide) (Go.Proofs.ascii_of_all (by decide))
   change ∀ W, Calls Tryd.prog 42 #[.string a2, .string ⟨#[76, 82, 84, 66]⟩] W (fun e w' => e = .returned (.string ⟨(Go.Lib.trimS a2.data.toList [76, 82, 84, 66]).toArray⟩) ∧ Below W.heap.size W w') at hcon
   have hc1 := fun W => Go.Proofs.Any.strings_Count_one lay_count a2 76 W
   have hc2 := fun W => Go.Proofs.Any.strings_Count_one lay_count a2 82 W
   change ∀ W, Calls Tryd.prog 43 #[.string a2, .string ⟨#[76]⟩] W (fun e w' => e = .returned (.int .i64 (Go.Lib.countByte a2.data.toList 76)) ∧ w' = W) at hc1
   change ∀ W, Calls Tryd.prog 43 #[.string a2, .string ⟨#[82]⟩] W (fun e w' => e = .returned (.int .i64 (Go.Lib.countByte a2.data.toList 82)) ∧ w' = W) at hc2
   generalize Go.Lib.trimS a2.data.toList [76, 82, 84, 66] = t at hcon h0
   have hn1 : Go.Lib.countByte a2.data.toList 76 ≤ 1048576 := Nat.le_trans List.count_le_length (by simpa using hs)
   have hn2 : Go.Lib.countByte a2.data.toList 82 ≤ 1048576 := Nat.le_trans List.count_le_length (by simpa using hs)
   unfold lrcount at h0
   generalize Go.Lib.countByte a2.data.toList 76 = n1 at hc1 hn1 h0
   generalize Go.Lib.countByte a2.data.toList 82 = n2 at hc2 hn2 h0
   have e1 : wrap64 ((n1 : Int) + (n2 : Int)) = (n1 : Int) + (n2 : Int) := by unfold wrap64; omega
   have e2 : wrap64 ((a2.size : Int) - ((n1 : Int) + (n2 : Int))) = (a2.size : Int) - ((n1 : Int) + (n2 : Int)) := by unfold wrap64; omega
   rw [show ((n1 + n2 : Nat) : Int) = (n1 : Int) + (n2 : Int) from Int.natCast_add _ _] at h0
   cases t with
   | cons c t =>
    rw [if_neg (by simp)] at h0
    injection h0 with e3
    subst e3
    obtain ⟨S, hS⟩ : ∃ S : ByteArray, (⟨(c :: t).toArray⟩ : ByteArray) = S := ⟨_, rfl⟩
    rw [hS] at hcon
    have z1 : S.toList.isEmpty = false := by rw [← hS, ByteArray.toList_eq]; rfl
    clear hS hn1 hn2 hc1 hc2 hs
    go_enter Tryd.func11, Tryd.ntmps11
    go_wp2_with (first | (go_at_call 41; (with_reducible refine (impl_isSheet.calls a0 a1 true _ HB.out).mono ?_); rintro e w1 ⟨rfl, ⟨nd, rfl⟩⟩) | (go_at_call 42; (with_reducible refine (hcon _).mono ?_); rintro e w2 ⟨rfl, hb2⟩; have HB2 := Aside0.mk hb2; clear hb2))
    go_ret
    exact ⟨rfl, (pw_below_drewN (Below.refl _ _) nd).trans (HB2.out.mono (below_size (pw_below_drewN (Below.refl w.heap.size w) nd)))⟩
   | nil =>
    rw [if_pos rfl] at h0
    obtain ⟨x, hx, h1⟩ := Option.bind_eq_some_iff.1 h0
    clear h0
    have HX := Aside0.mk hx
    have hcon2 : ∀ W, Calls Tryd.prog 42 #[.string a2, .string ⟨#[76, 82, 84, 66]⟩] W (fun e w' => e = .returned (.string ⟨#[]⟩) ∧ Below W.heap.size W w') := hcon
    clear hx hcon hn1 hn2 hs
    by_cases hc : (n1 : Int) + (n2 : Int) = x
    ·rw [if_pos hc] at h1
     obtain ⟨y, hy, h2⟩ := Option.bind_eq_some_iff.1 h1
     clear h1
     injection h2 with e3
     subst e3
     have HY := Aside0.mk hy
     clear hy
     have d1 : (((n1 : Int) + (n2 : Int)) == x) = true := by rw [hc]; exact beq_self_eq_true _
     have d2 : ∀ q : Int, (q == y) = decide (q = y) := fun q => rfl
     have HC := Aside0.mk hc
     clear hc
     go_enter Tryd.func11, Tryd.ntmps11
     go_wp2_with (first | (go_at_call 41; (with_reducible refine (impl_isSheet.calls a0 a1 true _ HB.out).mono ?_); rintro e w1 ⟨rfl, ⟨nd, rfl⟩⟩) | (go_at_call 42; (with_reducible refine (hcon2 _).mono ?_); rintro e w2 ⟨rfl, hb2⟩; have HB2 := Aside0.mk hb2; clear hb2) | (go_at_call 43; (with_reducible refine (hc1 _).mono ?_); rintro e w3 ⟨rfl, rfl⟩) | (go_at_call 43; (with_reducible refine (hc2 _).mono ?_); rintro e w3 ⟨rfl, rfl⟩) | (go_at_call 44; (with_reducible refine (impl_halvings.calls k a0 x _ HX.out).mono ?_); rintro e w4 ⟨rfl, ⟨nd4, rfl⟩⟩) | (go_at_call 44; (with_reducible refine (impl_halvings.calls k a1 y _ HY.out).mono ?_); rintro e w5 ⟨rfl, ⟨nd5, rfl⟩⟩))
     go_ret
     have hb3 : Below w.heap.size w w3 := (pw_below_drewN (Below.refl _ _) nd).trans (HB2.out.mono (below_size (pw_below_drewN (Below.refl w.heap.size w) nd)))
     exact ⟨rfl, pw_below_drewN hb3 _⟩
    ·rw [if_neg hc] at h1
     injection h1 with e3
     subst e3
     have d1 : (((n1 : Int) + (n2 : Int)) == x) = false := beq_false_of_ne hc
     have HC := Aside0.mk hc
     clear hc
     go_enter Tryd.func11, Tryd.ntmps11
     go_wp2_with (first | (go_at_call 41; (with_reducible refine (impl_isSheet.calls a0 a1 true _ HB.out).mono ?_); rintro e w1 ⟨rfl, ⟨nd, rfl⟩⟩) | (go_at_call 42; (with_reducible refine (hcon2 _).mono ?_); rintro e w2 ⟨rfl, hb2⟩; have HB2 := Aside0.mk hb2; clear hb2) | (go_at_call 43; (with_reducible refine (hc1 _).mono ?_); rintro e w3 ⟨rfl, rfl⟩) | (go_at_call 43; (with_reducible refine (hc2 _).mono ?_); rintro e w3 ⟨rfl, rfl⟩) | (go_at_call 44; (with_reducible refine (impl_halvings.calls k a0 x _ HX.out).mono ?_); rintro e w4 ⟨rfl, ⟨nd4, rfl⟩⟩))
     go_ret
     have hb3 : Below w.heap.size w w3 := (pw_below_drewN (Below.refl _ _) nd).trans (HB2.out.mono (below_size (pw_below_drewN (Below.refl w.heap.size w) nd)))
     exact ⟨rfl, pw_below_drewN hb3 _⟩
  ·rw [if_neg hs] at h0; cases h0

/-! ### spec_l04Sheet: function 63 -/
def spec_l04Sheet.f (a0 : Int) (a1 : Int) : Option (Bool) := (spec_l04Power.f a0).bind fun bt107 => ((spec_l04Power.f a1).bind fun bt109 => (if bt107.2 = true then (some bt109.2) else (some false)))
set_option maxHeartbeats 8000000 in
set_option maxRecDepth 100000 in
theorem spec_l04Sheet.calls (a0 : Int) (a1 : Int) (r : Bool) (w : World) (h : spec_l04Sheet.f a0 a1 = some r) :
  Calls Tryd.prog 63 #[.int .i64 a0, .int .i64 a1] w fun e w' => e = .returned (.bool r) ∧ Drawn0 w w' := by
 have H : ((spec_l04Power.f a0).bind fun bt107 => ((spec_l04Power.f a1).bind fun bt109 => (if bt107.2 = true then (some bt109.2) else (some false)))) = some r := h
 clear h
 replace H := Option.bind_eq_some_iff.mp H
 obtain ⟨⟨t107, t108⟩, A30, H⟩ := H
 replace H : ((spec_l04Power.f a1).bind fun bt109 => (if t108 = true then (some bt109.2) else (some false))) = some r := H
 have A3 := Aside0.mk A30
 clear A30
 replace H := Option.bind_eq_some_iff.mp H
 obtain ⟨⟨t109, t110⟩, A40, H⟩ := H
 replace H : (if t108 = true then (some t110) else (some false)) = some r := H
 have A4 := Aside0.mk A40
 clear A40
 by_cases c5 : t108 = true
 ·subst c5
  have H1 : (some t110) = some r := by rw [if_pos rfl] at H; exact H
  clear H
  have H := H1
  clear H1
  obtain rfl := Option.some.inj H
  go_enter Tryd.func63, Tryd.ntmps63
  go_wp2_with (first | ((with_reducible refine gate_callee (f := 40) rfl ?_); refine goesL_ (some 11) rfl rfl Tryd.func40 (by kernel_rfl) rfl #[.int .i64 a0] rfl (by (try simp only [List.map_toArray, List.map_cons, List.map_nil]); first | done | rfl | (simp only [List.length_drop, List.length_take]; rfl)) ?_; (with_reducible refine (spec_l04Power.calls a0 t107 true _ A3.out).mono ?_); rintro e w' ⟨rfl, ⟨nd, rfl⟩⟩; refine ⟨_, rfl, ?_⟩) | ((with_reducible refine gate_callee (f := 40) rfl ?_); refine goesL_ (some 16) rfl rfl Tryd.func40 (by kernel_rfl) rfl #[.int .i64 a1] rfl (by (try simp only [List.map_toArray, List.map_cons, List.map_nil]); first | done | rfl | (simp only [List.length_drop, List.length_take]; rfl)) ?_; (with_reducible refine (spec_l04Power.calls a1 t109 t110 _ A4.out).mono ?_); rintro e w' ⟨rfl, ⟨nd, rfl⟩⟩; refine ⟨_, rfl, ?_⟩))
  go_ret
  exact ⟨by first | rfl | (simp only [Go.IntWalk.i64_left]; first | done | rfl) | (simp; done) | (simp [*]; done), by repeat (first | exact Drawn0.refl _ | apply Drawn0.step)⟩
 ·replace c5 := Bool.eq_false_iff.mpr c5
  subst c5
  have H1 : (some false) = some r := by rw [if_neg (show ¬ (false = true) by decide)] at H; exact H
  clear H
  have H := H1
  clear H1
  obtain rfl := Option.some.inj H
  go_enter Tryd.func63, Tryd.ntmps63
  go_wp2_with (first | ((with_reducible refine gate_callee (f := 40) rfl ?_); refine goesL_ (some 11) rfl rfl Tryd.func40 (by kernel_rfl) rfl #[.int .i64 a0] rfl (by (try simp only [List.map_toArray, List.map_cons, List.map_nil]); first | done | rfl | (simp only [List.length_drop, List.length_take]; rfl)) ?_; (with_reducible refine (spec_l04Power.calls a0 t107 false _ A3.out).mono ?_); rintro e w' ⟨rfl, ⟨nd, rfl⟩⟩; refine ⟨_, rfl, ?_⟩) | ((with_reducible refine gate_callee (f := 40) rfl ?_); refine goesL_ (some 16) rfl rfl Tryd.func40 (by kernel_rfl) rfl #[.int .i64 a1] rfl (by (try simp only [List.map_toArray, List.map_cons, List.map_nil]); first | done | rfl | (simp only [List.length_drop, List.length_take]; rfl)) ?_; (with_reducible refine (spec_l04Power.calls a1 t109 t110 _ A4.out).mono ?_); rintro e w' ⟨rfl, ⟨nd, rfl⟩⟩; refine ⟨_, rfl, ?_⟩))
  go_ret
  exact ⟨by first | rfl | (simp only [Go.IntWalk.i64_left]; first | done | rfl) | (simp; done) | (simp [*]; done), by repeat (first | exact Drawn0.refl _ | apply Drawn0.step)⟩

/-! ### spec_l04Code: function 45 -/
def spec_l04Code.f (k : Nat) (a0 : Int) (a1 : Int) (a2 : ByteArray) : Option (Int) := (spec_l04Sheet.f a0 a1).bind fun t111 => (if t111 = true then ((spec_IsScheme.f k a0 a1 a2).bind fun t112 => (if t112 = true then (some 0) else (some 2))) else (some 1))
theorem spec_l04Code.mono : ∀ a0 a1 a2 k, LeO (spec_l04Code.f k a0 a1 a2) (spec_l04Code.f (k + 1) a0 a1 a2) := by
 intro a0 a1 a2 k
 unfold spec_l04Code.f
 repeat' first
   | (with_reducible exact spec_IsScheme.mono _ _ _ _)
   | (with_reducible exact LeO.refl _)
   | (with_reducible exact LeO.none _)
   | (with_reducible refine LeO.ite ?_ ?_)
   | (with_reducible refine LeO.bind ?_ (fun _ => ?_))
   | exact spec_IsScheme.mono _ _ _ _
   | exact LeO.none _
   | refine LeO.ite ?_ ?_
   | refine LeO.bind ?_ (fun _ => ?_)
set_option maxHeartbeats 8000000 in
set_option maxRecDepth 100000 in
theorem spec_l04Code.calls (k : Nat) (a0 : Int) (a1 : Int) (a2 : ByteArray) (r : Int) (w : World) (h : spec_l04Code.f k a0 a1 a2 = some r) :
  Calls Tryd.prog 45 #[.int .i64 a0, .int .i64 a1, .string a2] w fun e w' => e = .returned (.int .i64 r) ∧ Drawn0 w w' := by
 have H : ((spec_l04Sheet.f a0 a1).bind fun t111 => (if t111 = true then ((spec_IsScheme.f k a0 a1 a2).bind fun t112 => (if t112 = true then (some 0) else (some 2))) else (some 1))) = some r := h
 clear h
 replace H := Option.bind_eq_some_iff.mp H
 obtain ⟨t111, A40, H⟩ := H
 replace H : (if t111 = true then ((spec_IsScheme.f k a0 a1 a2).bind fun t112 => (if t112 = true then (some 0) else (some 2))) else (some 1)) = some r := H
 have A4 := Aside0.mk A40
 clear A40
 by_cases c5 : t111 = true
 ·subst c5
  have H1 : ((spec_IsScheme.f k a0 a1 a2).bind fun t112 => (if t112 = true then (some 0) else (some 2))) = some r := by rw [if_pos rfl] at H; exact H
  clear H
  have H := H1
  clear H1
  replace H := Option.bind_eq_some_iff.mp H
  obtain ⟨t112, A60, H⟩ := H
  replace H : (if t112 = true then (some 0) else (some 2)) = some r := H
  have A6 := Aside0.mk A60
  clear A60
  by_cases c7 : t112 = true
  ·subst c7
   have H1 : (some 0) = some r := by rw [if_pos rfl] at H; exact H
   clear H
   have H := H1
   clear H1
   obtain rfl := Option.some.inj H
   go_enter Tryd.func45, Tryd.ntmps45
   go_wp2_with (first | ((with_reducible refine gate_callee (f := 63) rfl ?_); refine goesL_ (some 10) rfl rfl Tryd.func63 (by kernel_rfl) rfl #[.int .i64 a0, .int .i64 a1] rfl (by (try simp only [List.map_toArray, List.map_cons, List.map_nil]); first | done | rfl | (simp only [List.length_drop, List.length_take]; rfl)) ?_; (with_reducible refine (spec_l04Sheet.calls a0 a1 true _ A4.out).mono ?_); rintro e w' ⟨rfl, ⟨nd, rfl⟩⟩; refine ⟨_, rfl, ?_⟩) | ((with_reducible refine gate_callee (f := 10) rfl ?_); refine goesL_ (some 16) rfl rfl Tryd.func10 (by kernel_rfl) rfl #[.int .i64 a0, .int .i64 a1, .string a2] rfl (by (try simp only [List.map_toArray, List.map_cons, List.map_nil]); first | done | rfl | (simp only [List.length_drop, List.length_take]; rfl)) ?_; (with_reducible refine (spec_IsScheme.calls k a0 a1 a2 true _ A6.out).mono ?_); rintro e w' ⟨rfl, ⟨nd, rfl⟩⟩; refine ⟨_, rfl, ?_⟩))
   go_ret
   exact ⟨by first | rfl | (simp only [Go.IntWalk.i64_left]; first | done | rfl) | (simp; done) | (simp [*]; done), by repeat (first | exact Drawn0.refl _ | apply Drawn0.step)⟩
  ·replace c7 := Bool.eq_false_iff.mpr c7
   subst c7
   have H1 : (some 2) = some r := by rw [if_neg (show ¬ (false = true) by decide)] at H; exact H
   clear H
   have H := H1
   clear H1
   obtain rfl := Option.some.inj H
   go_enter Tryd.func45, Tryd.ntmps45
   go_wp2_with (first | ((with_reducible refine gate_callee (f := 63) rfl ?_); refine goesL_ (some 10) rfl rfl Tryd.func63 (by kernel_rfl) rfl #[.int .i64 a0, .int .i64 a1] rfl (by (try simp only [List.map_toArray, List.map_cons, List.map_nil]); first | done | rfl | (simp only [List.length_drop, List.length_take]; rfl)) ?_; (with_reducible refine (spec_l04Sheet.calls a0 a1 true _ A4.out).mono ?_); rintro e w' ⟨rfl, ⟨nd, rfl⟩⟩; refine ⟨_, rfl, ?_⟩) | ((with_reducible refine gate_callee (f := 10) rfl ?_); refine goesL_ (some 16) rfl rfl Tryd.func10 (by kernel_rfl) rfl #[.int .i64 a0, .int .i64 a1, .string a2] rfl (by (try simp only [List.map_toArray, List.map_cons, List.map_nil]); first | done | rfl | (simp only [List.length_drop, List.length_take]; rfl)) ?_; (with_reducible refine (spec_IsScheme.calls k a0 a1 a2 false _ A6.out).mono ?_); rintro e w' ⟨rfl, ⟨nd, rfl⟩⟩; refine ⟨_, rfl, ?_⟩))
   go_ret
   exact ⟨by first | rfl | (simp only [Go.IntWalk.i64_left]; first | done | rfl) | (simp; done) | (simp [*]; done), by repeat (first | exact Drawn0.refl _ | apply Drawn0.step)⟩
 ·replace c5 := Bool.eq_false_iff.mpr c5
  subst c5
  have H1 : (some 1) = some r := by rw [if_neg (show ¬ (false = true) by decide)] at H; exact H
  clear H
  have H := H1
  clear H1
  obtain rfl := Option.some.inj H
  go_enter Tryd.func45, Tryd.ntmps45
  go_wp2_with (first | ((with_reducible refine gate_callee (f := 63) rfl ?_); refine goesL_ (some 10) rfl rfl Tryd.func63 (by kernel_rfl) rfl #[.int .i64 a0, .int .i64 a1] rfl (by (try simp only [List.map_toArray, List.map_cons, List.map_nil]); first | done | rfl | (simp only [List.length_drop, List.length_take]; rfl)) ?_; (with_reducible refine (spec_l04Sheet.calls a0 a1 false _ A4.out).mono ?_); rintro e w' ⟨rfl, ⟨nd, rfl⟩⟩; refine ⟨_, rfl, ?_⟩))
  go_ret
  exact ⟨by first | rfl | (simp only [Go.IntWalk.i64_left]; first | done | rfl) | (simp; done) | (simp [*]; done), by repeat (first | exact Drawn0.refl _ | apply Drawn0.step)⟩

end Go.Proofs.YtijbccmcfagnfaaDoor.QFnFolded
-- halved
