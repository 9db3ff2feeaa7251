-- Written by own_print.py of this session's repo over the kit's print (its output, turned at some places).
import Derived.Test.YtdpmpoakjhhaaaaGreatDoorQFnMirroredSheetsx0
namespace Go.Proofs.YtdpmpoakjhhaaaaGreatDoor.QFnMirroredSheets
open Go.RowKit Go.Proofs.YtdpmpoakjhhaaaaGreatDoorW.PrintWords Go.Proofs.YtdpmpoakjhhaaaaGreatDoorW.PrintLast Go.Proofs.YtdpmpoakjhhaaaaGreatDoorW.PrintMore
attribute [local go_sem] max2_int min2_int max_two min_two max_three min_three max_four min_four   -- for this text's walks alone
set_option linter.unusedVariables false
set_option linter.unusedSimpArgs false

/-! ### laws_big: function 6 -/
def laws_big.f (l0 : List Int) : Option (Bool) := some (decide ((l0.length : Int) > 4096))
set_option maxHeartbeats 8000000 in
set_option maxRecDepth 100000 in
theorem laws_big.calls (A0 : Option Addr) (c0 : Nat) (l0 : List Int) (r : Bool) (w : World) (hr0 : Kd.C (Kd.int .u8) w A0 l0.length l0) (hc0 : l0.length ≤ c0) (h : laws_big.f l0 = some r) :
    Calls Tryz.prog 6 #[.slice A0 l0.length c0] w fun e w' => e = .returned (.bool r) ∧ Drawn0 w w' := by
  have HR0 := Aside0.mk hr0
  have HC0 := Aside0.mk hc0
  clear hr0 hc0
  have H : (some (decide ((l0.length : Int) > 4096))) = some r := h
  clear h
  obtain rfl := Option.some.inj H
  go_enter Tryz.func6, Tryz.ntmps6
  go_wp2
  go_ret
  exact ⟨by first | rfl | (simp only [Go.IntWalk.i64_left]; first | done | rfl) | (simp; done) | (simp [*]; done), by repeat (first | exact Drawn0.refl _ | apply Drawn0.step)⟩

/-! ### spec_l04Power: function 50 -/
def spec_l04Power.f (a0 : Int) : Option (Int × Bool) := if a0 = 1 then (some (0, true)) else (if a0 = 2 then (some (1, true)) else (if a0 = 4 then (some (2, true)) else (if a0 = 8 then (some (3, true)) else (some (0, false)))))
set_option maxHeartbeats 8000000 in
set_option maxRecDepth 100000 in
theorem spec_l04Power.calls (a0 : Int) (r1 : Int) (r2 : Bool) (w : World) (h : spec_l04Power.f a0 = some (r1, r2)) :
    Calls Tryz.prog 50 #[.int .i64 a0] w fun e w' => e = .returned (.tuple #[.int .i64 r1, .bool r2]) ∧ Drawn0 w w' := by
  have H : (if a0 = 1 then (some (0, true)) else (if a0 = 2 then (some (1, true)) else (if a0 = 4 then (some (2, true)) else (if a0 = 8 then (some (3, true)) else (some (0, false)))))) = some (r1, r2) := h
  clear h
  by_cases c2 : a0 = 1
  · rw [if_pos c2] at H
    have c2b0 : (a0 == 1) = true := beq_iff_eq.mpr c2
    have c2b1 : (a0 != 1) = false := bne_eq_false_iff_eq.mpr c2
    clear c2
    simp only [Option.some.injEq, Prod.mk.injEq] at H
    obtain ⟨rfl, rfl⟩ := H
    go_enter Tryz.func50, Tryz.ntmps50
    go_wp2
    go_ret2
    exact ⟨by first | rfl | (simp only [Go.IntWalk.i64_left]; first | done | rfl) | (simp; done) | (simp [*]; done), by repeat (first | exact Drawn0.refl _ | apply Drawn0.step)⟩
  · rw [if_neg c2] at H
    have c2b0 : (a0 == 1) = false := beq_eq_false_iff_ne.mpr c2
    have c2b1 : (a0 != 1) = true := bne_iff_ne.mpr c2
    by_cases c3 : a0 = 2
    · rw [if_pos c3] at H
      have c3b0 : (a0 == 2) = true := beq_iff_eq.mpr c3
      have c3b1 : (a0 != 2) = false := bne_eq_false_iff_eq.mpr c3
      clear c3
      simp only [Option.some.injEq, Prod.mk.injEq] at H
      obtain ⟨rfl, rfl⟩ := H
      go_enter Tryz.func50, Tryz.ntmps50
      go_wp2
      go_ret2
      exact ⟨by first | rfl | (simp only [Go.IntWalk.i64_left]; first | done | rfl) | (simp; done) | (simp [*]; done), by repeat (first | exact Drawn0.refl _ | apply Drawn0.step)⟩
    · rw [if_neg c3] at H
      have c3b0 : (a0 == 2) = false := beq_eq_false_iff_ne.mpr c3
      have c3b1 : (a0 != 2) = true := bne_iff_ne.mpr c3
      by_cases c4 : a0 = 4
      · rw [if_pos c4] at H
        have c4b0 : (a0 == 4) = true := beq_iff_eq.mpr c4
        have c4b1 : (a0 != 4) = false := bne_eq_false_iff_eq.mpr c4
        clear c4
        simp only [Option.some.injEq, Prod.mk.injEq] at H
        obtain ⟨rfl, rfl⟩ := H
        go_enter Tryz.func50, Tryz.ntmps50
        go_wp2
        go_ret2
        exact ⟨by first | rfl | (simp only [Go.IntWalk.i64_left]; first | done | rfl) | (simp; done) | (simp [*]; done), by repeat (first | exact Drawn0.refl _ | apply Drawn0.step)⟩
      · rw [if_neg c4] at H
        have c4b0 : (a0 == 4) = false := beq_eq_false_iff_ne.mpr c4
        have c4b1 : (a0 != 4) = true := bne_iff_ne.mpr c4
        by_cases c5 : a0 = 8
        · rw [if_pos c5] at H
          have c5b0 : (a0 == 8) = true := beq_iff_eq.mpr c5
          have c5b1 : (a0 != 8) = false := bne_eq_false_iff_eq.mpr c5
          clear c5
          simp only [Option.some.injEq, Prod.mk.injEq] at H
          obtain ⟨rfl, rfl⟩ := H
          go_enter Tryz.func50, Tryz.ntmps50
          go_wp2
          go_ret2
          exact ⟨by first | rfl | (simp only [Go.IntWalk.i64_left]; first | done | rfl) | (simp; done) | (simp [*]; done), by repeat (first | exact Drawn0.refl _ | apply Drawn0.step)⟩
        · rw [if_neg c5] at H
          have c5b0 : (a0 == 8) = false := beq_eq_false_iff_ne.mpr c5
          have c5b1 : (a0 != 8) = true := bne_iff_ne.mpr c5
          simp only [Option.some.injEq, Prod.mk.injEq] at H
          obtain ⟨rfl, rfl⟩ := H
          go_enter Tryz.func50, Tryz.ntmps50
          go_wp2
          go_ret2
          exact ⟨by first | rfl | (simp only [Go.IntWalk.i64_left]; first | done | rfl) | (simp; done) | (simp [*]; done), by repeat (first | exact Drawn0.refl _ | apply Drawn0.step)⟩

/-! ### spec_l04Sheet: function 45 -/
def spec_l04Sheet.f (a0 : Int) (a1 : Int) : Option (Bool) := (spec_l04Power.f a0).bind fun bt101 => ((spec_l04Power.f a1).bind fun bt103 => (if bt101.2 = true then (some bt103.2) else (some false)))
set_option maxHeartbeats 8000000 in
set_option maxRecDepth 100000 in
theorem spec_l04Sheet.calls (a0 : Int) (a1 : Int) (r : Bool) (w : World) (h : spec_l04Sheet.f a0 a1 = some r) :
    Calls Tryz.prog 45 #[.int .i64 a0, .int .i64 a1] w fun e w' => e = .returned (.bool r) ∧ Drawn0 w w' := by
  have H : ((spec_l04Power.f a0).bind fun bt101 => ((spec_l04Power.f a1).bind fun bt103 => (if bt101.2 = true then (some bt103.2) else (some false)))) = some r := h
  clear h
  replace H := Option.bind_eq_some_iff.mp H
  obtain ⟨⟨t101, t102⟩, A30, H⟩ := H
  replace H : ((spec_l04Power.f a1).bind fun bt103 => (if t102 = true then (some bt103.2) else (some false))) = some r := H
  have A3 := Aside0.mk A30
  clear A30
  replace H := Option.bind_eq_some_iff.mp H
  obtain ⟨⟨t103, t104⟩, A40, H⟩ := H
  replace H : (if t102 = true then (some t104) else (some false)) = some r := H
  have A4 := Aside0.mk A40
  clear A40
  by_cases c5 : t102 = true
  · subst c5
    have H1 : (some t104) = some r := by rw [if_pos rfl] at H; exact H
    clear H
    have H := H1
    clear H1
    obtain rfl := Option.some.inj H
    go_enter Tryz.func45, Tryz.ntmps45
    go_wp2_with (first | ((with_reducible refine gate_callee (f := 50) rfl ?_); refine goesL_ (some 11) rfl rfl Tryz.func50 (by kernel_rfl) rfl #[.int .i64 a0] rfl (by (try simp only [List.map_toArray, List.map_cons, List.map_nil]); first | done | rfl | (simp only [List.length_drop, List.length_take]; rfl)) ?_; (with_reducible refine (spec_l04Power.calls a0 t101 true _ A3.out).mono ?_); rintro e w' ⟨rfl, ⟨nd, rfl⟩⟩; refine ⟨_, rfl, ?_⟩) | ((with_reducible refine gate_callee (f := 50) rfl ?_); refine goesL_ (some 16) rfl rfl Tryz.func50 (by kernel_rfl) rfl #[.int .i64 a1] rfl (by (try simp only [List.map_toArray, List.map_cons, List.map_nil]); first | done | rfl | (simp only [List.length_drop, List.length_take]; rfl)) ?_; (with_reducible refine (spec_l04Power.calls a1 t103 t104 _ A4.out).mono ?_); rintro e w' ⟨rfl, ⟨nd, rfl⟩⟩; refine ⟨_, rfl, ?_⟩))
    go_ret
    exact ⟨by first | rfl | (simp only [Go.IntWalk.i64_left]; first | done | rfl) | (simp; done) | (simp [*]; done), by repeat (first | exact Drawn0.refl _ | apply Drawn0.step)⟩
  · replace c5 := Bool.eq_false_iff.mpr c5
    subst c5
    have H1 : (some false) = some r := by rw [if_neg (show ¬ (false = true) by decide)] at H; exact H
    clear H
    have H := H1
    clear H1
    obtain rfl := Option.some.inj H
    go_enter Tryz.func45, Tryz.ntmps45
    go_wp2_with (first | ((with_reducible refine gate_callee (f := 50) rfl ?_); refine goesL_ (some 11) rfl rfl Tryz.func50 (by kernel_rfl) rfl #[.int .i64 a0] rfl (by (try simp only [List.map_toArray, List.map_cons, List.map_nil]); first | done | rfl | (simp only [List.length_drop, List.length_take]; rfl)) ?_; (with_reducible refine (spec_l04Power.calls a0 t101 false _ A3.out).mono ?_); rintro e w' ⟨rfl, ⟨nd, rfl⟩⟩; refine ⟨_, rfl, ?_⟩) | ((with_reducible refine gate_callee (f := 50) rfl ?_); refine goesL_ (some 16) rfl rfl Tryz.func50 (by kernel_rfl) rfl #[.int .i64 a1] rfl (by (try simp only [List.map_toArray, List.map_cons, List.map_nil]); first | done | rfl | (simp only [List.length_drop, List.length_take]; rfl)) ?_; (with_reducible refine (spec_l04Power.calls a1 t103 t104 _ A4.out).mono ?_); rintro e w' ⟨rfl, ⟨nd, rfl⟩⟩; refine ⟨_, rfl, ?_⟩))
    go_ret
    exact ⟨by first | rfl | (simp only [Go.IntWalk.i64_left]; first | done | rfl) | (simp; done) | (simp [*]; done), by repeat (first | exact Drawn0.refl _ | apply Drawn0.step)⟩

/-! ### spec_IsScheme: function 46 -/
mutual
def spec_IsScheme.l0 : Nat → ByteArray → Int → Bool → Int → Bool → Int → Option (Bool)
  | 0, _, _, _, _, _, _ => none
  | k + 1, x2, x7, x8, x9, x10, x11 => if x11 < (x2.size : Int) then (if 0 ≤ x11 then (if (bt x2 x11) = 76 then (spec_IsScheme.j1 k x2 x7 x8 x9 x10 x11 (bt x2 x11) ((bt x2 x11) == 76)) else (spec_IsScheme.j1 k x2 x7 x8 x9 x10 x11 (bt x2 x11) ((bt x2 x11) == 82))) else (none)) else (if x8 = true then (if x10 = true then (if x7 = 0 then (some (x9 == 0)) else (some false)) else (some false)) else (some false))
def spec_IsScheme.j1 : Nat → ByteArray → Int → Bool → Int → Bool → Int → Int → Bool → Option (Bool)
  | 0, _, _, _, _, _, _, _, _ => none
  | k + 1, x2, x7, x8, x9, x10, x11, x30, x31 => if x31 = true then (spec_IsScheme.l0 k x2 (wrap64 (x7 - 1)) x8 x9 x10 (wrap64 (x11 + 1))) else (if x30 = 84 then (spec_IsScheme.l0 k x2 x7 x8 (wrap64 (x9 - 1)) x10 (wrap64 (x11 + 1))) else (if x30 = 66 then (spec_IsScheme.l0 k x2 x7 x8 (wrap64 (x9 - 1)) x10 (wrap64 (x11 + 1))) else (some false)))
end
def spec_IsScheme.f (k : Nat) (a0 : Int) (a1 : Int) (a2 : ByteArray) : Option (Bool) := (spec_l04Power.f a0).bind fun bt105 => ((spec_l04Power.f a1).bind fun bt107 => (spec_IsScheme.l0 k a2 bt105.1 bt105.2 bt107.1 bt107.2 0))
theorem spec_IsScheme.mono_l : ∀ k, (∀ y0 y1 y2 y3 y4 y5, LeO (spec_IsScheme.l0 k y0 y1 y2 y3 y4 y5) (spec_IsScheme.l0 (k + 1) y0 y1 y2 y3 y4 y5)) ∧ (∀ y0 y1 y2 y3 y4 y5 y6 y7, LeO (spec_IsScheme.j1 k y0 y1 y2 y3 y4 y5 y6 y7) (spec_IsScheme.j1 (k + 1) y0 y1 y2 y3 y4 y5 y6 y7))
  | 0 => ⟨fun _ _ _ _ _ _ r h => by simp [spec_IsScheme.l0] at h, fun _ _ _ _ _ _ _ _ r h => by simp [spec_IsScheme.j1] at h⟩
  | k + 1 => by
    obtain ⟨ih0, ih1⟩ := spec_IsScheme.mono_l k
    refine ⟨?_, ?_⟩
    · intro y0 y1 y2 y3 y4 y5
      unfold spec_IsScheme.l0
      repeat' first
      | (with_reducible exact ih0 _ _ _ _ _ _)
      | (with_reducible exact ih1 _ _ _ _ _ _ _ _)
      | (with_reducible exact LeO.refl _)
      | (with_reducible exact LeO.none _)
      | (with_reducible refine LeO.ite ?_ ?_)
      | (with_reducible refine LeO.bind ?_ (fun _ => ?_))
      | exact ih0 _ _ _ _ _ _
      | exact ih1 _ _ _ _ _ _ _ _
      | exact LeO.none _
      | refine LeO.ite ?_ ?_
      | refine LeO.bind ?_ (fun _ => ?_)
    · intro y0 y1 y2 y3 y4 y5 y6 y7
      unfold spec_IsScheme.j1
      repeat' first
      | (with_reducible exact ih0 _ _ _ _ _ _)
      | (with_reducible exact ih1 _ _ _ _ _ _ _ _)
      | (with_reducible exact LeO.refl _)
      | (with_reducible exact LeO.none _)
      | (with_reducible refine LeO.ite ?_ ?_)
      | (with_reducible refine LeO.bind ?_ (fun _ => ?_))
      | exact ih0 _ _ _ _ _ _
      | exact ih1 _ _ _ _ _ _ _ _
      | exact LeO.none _
      | refine LeO.ite ?_ ?_
      | refine LeO.bind ?_ (fun _ => ?_)
theorem spec_IsScheme.mono : ∀ a0 a1 a2 k, LeO (spec_IsScheme.f k a0 a1 a2) (spec_IsScheme.f (k + 1) a0 a1 a2) := by
  intro a0 a1 a2 k
  obtain ⟨ih0, ih1⟩ := spec_IsScheme.mono_l k
  unfold spec_IsScheme.f
  repeat' first
      | (with_reducible exact ih0 _ _ _ _ _ _)
      | (with_reducible exact ih1 _ _ _ _ _ _ _ _)
      | (with_reducible exact LeO.refl _)
      | (with_reducible exact LeO.none _)
      | (with_reducible refine LeO.ite ?_ ?_)
      | (with_reducible refine LeO.bind ?_ (fun _ => ?_))
      | exact ih0 _ _ _ _ _ _
      | exact ih1 _ _ _ _ _ _ _ _
      | exact LeO.none _
      | refine LeO.ite ?_ ?_
      | refine LeO.bind ?_ (fun _ => ?_)
set_option maxHeartbeats 8000000 in
set_option maxRecDepth 100000 in
theorem spec_IsScheme.calls (k : Nat) (a0 : Int) (a1 : Int) (a2 : ByteArray) (r : Bool) (w : World) (h : spec_IsScheme.f k a0 a1 a2 = some r) :
    Calls Tryz.prog 46 #[.int .i64 a0, .int .i64 a1, .string a2] w fun e w' => e = .returned (.bool r) ∧ Drawn0 w w' := by
  have H : ((spec_l04Power.f a0).bind fun bt105 => ((spec_l04Power.f a1).bind fun bt107 => (spec_IsScheme.l0 k a2 bt105.1 bt105.2 bt107.1 bt107.2 0))) = some r := h
  clear h
  replace H := Option.bind_eq_some_iff.mp H
  obtain ⟨⟨t105, t106⟩, A40, H⟩ := H
  replace H : ((spec_l04Power.f a1).bind fun bt107 => (spec_IsScheme.l0 k a2 t105 t106 bt107.1 bt107.2 0)) = some r := H
  have A4 := Aside0.mk A40
  clear A40
  replace H := Option.bind_eq_some_iff.mp H
  obtain ⟨⟨t107, t108⟩, A50, H⟩ := H
  replace H : (spec_IsScheme.l0 k a2 t105 t106 t107 t108 0) = some r := H
  have A5 := Aside0.mk A50
  clear A50
  have H' := Aside0.mk H
  clear H
  go_enter Tryz.func46, Tryz.ntmps46
  go_wp2_with (first | ((with_reducible refine gate_callee (f := 50) rfl ?_); refine goesL_ (some 14) rfl rfl Tryz.func50 (by kernel_rfl) rfl #[.int .i64 a0] rfl (by (try simp only [List.map_toArray, List.map_cons, List.map_nil]); first | done | rfl | (simp only [List.length_drop, List.length_take]; rfl)) ?_; (with_reducible refine (spec_l04Power.calls a0 t105 t106 _ A4.out).mono ?_); rintro e w' ⟨rfl, ⟨nd, rfl⟩⟩; refine ⟨_, rfl, ?_⟩) | ((with_reducible refine gate_callee (f := 50) rfl ?_); refine goesL_ (some 19) rfl rfl Tryz.func50 (by kernel_rfl) rfl #[.int .i64 a1] rfl (by (try simp only [List.map_toArray, List.map_cons, List.map_nil]); first | done | rfl | (simp only [List.length_drop, List.length_take]; rfl)) ?_; (with_reducible refine (spec_l04Power.calls a1 t107 t108 _ A5.out).mono ?_); rintro e w' ⟨rfl, ⟨nd, rfl⟩⟩; refine ⟨_, rfl, ?_⟩))
  go_loopg [7, 9, 11] k (fun kq v7 v9 v11 w' => ∃ (x7_1 : Int) (x9_1 : Int) (x11_1 : Int), v7 = .int .i64 x7_1 ∧ v9 = .int .i64 x9_1 ∧ v11 = .int .i64 x11_1 ∧ Aside0 (spec_IsScheme.l0 kq a2 x7_1 t106 x9_1 t108 x11_1 = some r) ∧ Aside0 (kq ≤ k) ∧ Drawn0 w w')
  case atStart => exact ⟨(t105), (t107), (0), (by first | rfl | (simp; done) | (simp [*]; done)), (by first | rfl | (simp; done) | (simp [*]; done)), (by first | rfl | (simp; done) | (simp [*]; done)), H', ⟨Nat.le_refl _⟩, by repeat (first | exact Drawn0.refl _ | apply Drawn0.step)⟩
  case round =>
    clear H'
    try clear p2
    try clear c4
    try clear c5
    obtain ⟨x7_1, x9_1, x11_1, rfl, rfl, rfl, HA, HK1, ⟨m1, rfl⟩⟩ := hrel
    cases gk with
    | zero => exact absurd HA.out (by simp [spec_IsScheme.l0])
    | succ k1 =>
      have H := HA.out
      clear HA
      simp only [spec_IsScheme.l0] at H
      by_cases c6 : x11_1 < (a2.size : Int)
      · rw [if_pos c6] at H
        have c6b0 : decide (x11_1 < (a2.size : Int)) = true := decide_eq_true c6
        clear c6
        by_cases c7 : 0 ≤ x11_1
        · rw [if_pos c7] at H
          have c7b0 : decide (0 ≤ x11_1) = true := decide_eq_true c7
          clear c7
          have HC9 := Aside0.mk H
          clear H
          have p8 : 0 ≤ (x11_1 : Int) := of_decide_eq_true (by first | (with_reducible assumption) | assumption)
          have q8 : x11_1 < (a2.size : Int) := of_decide_eq_true (by first | (with_reducible assumption) | assumption)
          have hx8 := bt_at a2 x11_1
          replace p8 := eq_true p8
          replace q8 := eq_true q8
          go_upto_if 31 with (fail)
          go_cut [31] (fun v31 wc => ∃ (kq : Nat) (x31_8 : Bool), v31 = .bool x31_8 ∧ Aside0 (spec_IsScheme.j1 kq a2 x7_1 t106 x9_1 t108 x11_1 (bt a2 x11_1) x31_8 = some r) ∧ Aside0 (kq ≤ k1) ∧ Drawn0 w wc)
          case first =>
            have H := HC9.out
            clear HC9
            by_cases c10 : (bt a2 x11_1) = 76
            · rw [if_pos c10] at H
              have c10b0 : ((bt a2 x11_1) == 76) = true := beq_iff_eq.mpr c10
              have c10b1 : ((bt a2 x11_1) != 76) = false := bne_eq_false_iff_eq.mpr c10
              clear c10
              (first | rw [c10b0] | (simp only [i64_w, i32_w]; rw [c10b0]) | skip)
              have H' := Aside0.mk H
              clear H
              go_wp2
              go_meet
              case rel => exact ⟨_, (((bt a2 x11_1) == 76)), (by first | rfl | (simp; done) | (simp [*]; done)), H', ⟨by have := HK1.out; first | omega | exact Nat.le_refl _⟩, by repeat (first | exact Drawn0.refl _ | apply Drawn0.step)⟩
            · rw [if_neg c10] at H
              have c10b0 : ((bt a2 x11_1) == 76) = false := beq_eq_false_iff_ne.mpr c10
              have c10b1 : ((bt a2 x11_1) != 76) = true := bne_iff_ne.mpr c10
              (first | rw [c10b0] | (simp only [i64_w, i32_w]; rw [c10b0]) | skip)
              have H' := Aside0.mk H
              clear H
              go_wp2
              go_meet
              case rel => exact ⟨_, (((bt a2 x11_1) == 82)), (by first | rfl | (simp; done) | (simp [*]; done)), H', ⟨by have := HK1.out; first | omega | exact Nat.le_refl _⟩, by repeat (first | exact Drawn0.refl _ | apply Drawn0.step)⟩
          case rest =>
            clear HC9
            try clear c1
            try clear p2
            try clear c4
            try clear c5
            try clear c6
            try clear c6b0
            try clear c7
            try clear c7b0
            try clear p8
            try clear q8
            try clear hx8
            try clear c10
            try clear c10b0
            try clear c10b1
            try clear p2
            try clear p8
            try clear q8
            obtain ⟨kq, x31_8, rfl, HA, HJ8, ⟨mc8, rfl⟩⟩ := hcut
            cases kq with
            | zero => exact absurd HA.out (by simp [spec_IsScheme.j1])
            | succ kj8 =>
              have H := HA.out
              clear HA
              simp only [spec_IsScheme.j1] at H
              by_cases c11 : x31_8 = true
              · subst c11
                have H1 : (spec_IsScheme.l0 kj8 a2 (wrap64 (x7_1 - 1)) t106 x9_1 t108 (wrap64 (x11_1 + 1))) = some r := by rw [if_pos rfl] at H; exact H
                clear H
                have H := H1
                clear H1
                have H' := Aside0.mk H
                clear H
                go_wp2
                go_roundg kj8
                case measure => have := HK1.out; have := HJ8.out; omega
                case rel => exact ⟨(wrap64 (x7_1 - 1)), (x9_1), (wrap64 (x11_1 + 1)), (by first | rfl | (simp; done) | (simp [*]; done)), (by first | rfl | (simp; done) | (simp [*]; done)), (by first | rfl | (simp; done) | (simp [*]; done)), H', ⟨by have := HK1.out; have := HJ8.out; omega⟩, by repeat (first | exact Drawn0.refl _ | apply Drawn0.step)⟩
              · replace c11 := Bool.eq_false_iff.mpr c11
                subst c11
                have H1 : (if (bt a2 x11_1) = 84 then (spec_IsScheme.l0 kj8 a2 x7_1 t106 (wrap64 (x9_1 - 1)) t108 (wrap64 (x11_1 + 1))) else (if (bt a2 x11_1) = 66 then (spec_IsScheme.l0 kj8 a2 x7_1 t106 (wrap64 (x9_1 - 1)) t108 (wrap64 (x11_1 + 1))) else (some false))) = some r := by rw [if_neg (show ¬ (false = true) by decide)] at H; exact H
                clear H
                have H := H1
                clear H1
                by_cases c12 : (bt a2 x11_1) = 84
                · rw [if_pos c12] at H
                  have c12b0 : ((bt a2 x11_1) == 84) = true := beq_iff_eq.mpr c12
                  have c12b1 : ((bt a2 x11_1) != 84) = false := bne_eq_false_iff_eq.mpr c12
                  clear c12
                  have H' := Aside0.mk H
                  clear H
                  go_wp2
                  go_roundg kj8
                  case measure => have := HK1.out; have := HJ8.out; omega
                  case rel => exact ⟨(x7_1), (wrap64 (x9_1 - 1)), (wrap64 (x11_1 + 1)), (by first | rfl | (simp; done) | (simp [*]; done)), (by first | rfl | (simp; done) | (simp [*]; done)), (by first | rfl | (simp; done) | (simp [*]; done)), H', ⟨by have := HK1.out; have := HJ8.out; omega⟩, by repeat (first | exact Drawn0.refl _ | apply Drawn0.step)⟩
                · rw [if_neg c12] at H
                  have c12b0 : ((bt a2 x11_1) == 84) = false := beq_eq_false_iff_ne.mpr c12
                  have c12b1 : ((bt a2 x11_1) != 84) = true := bne_iff_ne.mpr c12
                  by_cases c13 : (bt a2 x11_1) = 66
                  · rw [if_pos c13] at H
                    have c13b0 : ((bt a2 x11_1) == 66) = true := beq_iff_eq.mpr c13
                    have c13b1 : ((bt a2 x11_1) != 66) = false := bne_eq_false_iff_eq.mpr c13
                    clear c13
                    have H' := Aside0.mk H
                    clear H
                    go_wp2
                    go_roundg kj8
                    case measure => have := HK1.out; have := HJ8.out; omega
                    case rel => exact ⟨(x7_1), (wrap64 (x9_1 - 1)), (wrap64 (x11_1 + 1)), (by first | rfl | (simp; done) | (simp [*]; done)), (by first | rfl | (simp; done) | (simp [*]; done)), (by first | rfl | (simp; done) | (simp [*]; done)), H', ⟨by have := HK1.out; have := HJ8.out; omega⟩, by repeat (first | exact Drawn0.refl _ | apply Drawn0.step)⟩
                  · rw [if_neg c13] at H
                    have c13b0 : ((bt a2 x11_1) == 66) = false := beq_eq_false_iff_ne.mpr c13
                    have c13b1 : ((bt a2 x11_1) != 66) = true := bne_iff_ne.mpr c13
                    obtain rfl := Option.some.inj H
                    go_wp2
                    go_ret
                    exact ⟨by first | rfl | (simp only [Go.IntWalk.i64_left]; first | done | rfl) | (simp; done) | (simp [*]; done), by repeat (first | exact Drawn0.refl _ | apply Drawn0.step)⟩
        · rw [if_neg c7] at H
          exact absurd H (by simp)
      · rw [if_neg c6] at H
        have c6b0 : decide (x11_1 < (a2.size : Int)) = false := decide_eq_false c6
        clear c6
        by_cases c14 : t106 = true
        · subst c14
          have H1 : (if t108 = true then (if x7_1 = 0 then (some (x9_1 == 0)) else (some false)) else (some false)) = some r := by rw [if_pos rfl] at H; exact H
          clear H
          have H := H1
          clear H1
          by_cases c15 : t108 = true
          · subst c15
            have H1 : (if x7_1 = 0 then (some (x9_1 == 0)) else (some false)) = some r := by rw [if_pos rfl] at H; exact H
            clear H
            have H := H1
            clear H1
            by_cases c16 : x7_1 = 0
            · rw [if_pos c16] at H
              have c16b0 : (x7_1 == 0) = true := beq_iff_eq.mpr c16
              have c16b1 : (x7_1 != 0) = false := bne_eq_false_iff_eq.mpr c16
              clear c16
              obtain rfl := Option.some.inj H
              go_wp2
              go_ret
              exact ⟨by first | rfl | (simp only [Go.IntWalk.i64_left]; first | done | rfl) | (simp; done) | (simp [*]; done), by repeat (first | exact Drawn0.refl _ | apply Drawn0.step)⟩
            · rw [if_neg c16] at H
              have c16b0 : (x7_1 == 0) = false := beq_eq_false_iff_ne.mpr c16
              have c16b1 : (x7_1 != 0) = true := bne_iff_ne.mpr c16
              obtain rfl := Option.some.inj H
              go_wp2
              go_ret
              exact ⟨by first | rfl | (simp only [Go.IntWalk.i64_left]; first | done | rfl) | (simp; done) | (simp [*]; done), by repeat (first | exact Drawn0.refl _ | apply Drawn0.step)⟩
          · replace c15 := Bool.eq_false_iff.mpr c15
            subst c15
            have H1 : (some false) = some r := by rw [if_neg (show ¬ (false = true) by decide)] at H; exact H
            clear H
            have H := H1
            clear H1
            obtain rfl := Option.some.inj H
            go_wp2
            go_ret
            exact ⟨by first | rfl | (simp only [Go.IntWalk.i64_left]; first | done | rfl) | (simp; done) | (simp [*]; done), by repeat (first | exact Drawn0.refl _ | apply Drawn0.step)⟩
        · replace c14 := Bool.eq_false_iff.mpr c14
          subst c14
          have H1 : (some false) = some r := by rw [if_neg (show ¬ (false = true) by decide)] at H; exact H
          clear H
          have H := H1
          clear H1
          obtain rfl := Option.some.inj H
          go_wp2
          go_ret
          exact ⟨by first | rfl | (simp only [Go.IntWalk.i64_left]; first | done | rfl) | (simp; done) | (simp [*]; done), by repeat (first | exact Drawn0.refl _ | apply Drawn0.step)⟩

/-! ### spec_l04Code: function 30 -/
def spec_l04Code.f (k : Nat) (a0 : Int) (a1 : Int) (a2 : ByteArray) : Option (Int) := (spec_l04Sheet.f a0 a1).bind fun t109 => (if t109 = true then ((spec_IsScheme.f k a0 a1 a2).bind fun t110 => (if t110 = true then (some 0) else (some 2))) else (some 1))
theorem spec_l04Code.mono : ∀ a0 a1 a2 k, LeO (spec_l04Code.f k a0 a1 a2) (spec_l04Code.f (k + 1) a0 a1 a2) := by
  intro a0 a1 a2 k
  unfold spec_l04Code.f
  repeat' first
      | (with_reducible exact spec_IsScheme.mono _ _ _ _)
      | (with_reducible exact LeO.refl _)
      | (with_reducible exact LeO.none _)
      | (with_reducible refine LeO.ite ?_ ?_)
      | (with_reducible refine LeO.bind ?_ (fun _ => ?_))
      | exact spec_IsScheme.mono _ _ _ _
      | exact LeO.none _
      | refine LeO.ite ?_ ?_
      | refine LeO.bind ?_ (fun _ => ?_)
set_option maxHeartbeats 8000000 in
set_option maxRecDepth 100000 in
theorem spec_l04Code.calls (k : Nat) (a0 : Int) (a1 : Int) (a2 : ByteArray) (r : Int) (w : World) (h : spec_l04Code.f k a0 a1 a2 = some r) :
    Calls Tryz.prog 30 #[.int .i64 a0, .int .i64 a1, .string a2] w fun e w' => e = .returned (.int .i64 r) ∧ Drawn0 w w' := by
  have H : ((spec_l04Sheet.f a0 a1).bind fun t109 => (if t109 = true then ((spec_IsScheme.f k a0 a1 a2).bind fun t110 => (if t110 = true then (some 0) else (some 2))) else (some 1))) = some r := h
  clear h
  replace H := Option.bind_eq_some_iff.mp H
  obtain ⟨t109, A40, H⟩ := H
  replace H : (if t109 = true then ((spec_IsScheme.f k a0 a1 a2).bind fun t110 => (if t110 = true then (some 0) else (some 2))) else (some 1)) = some r := H
  have A4 := Aside0.mk A40
  clear A40
  by_cases c5 : t109 = true
  · subst c5
    have H1 : ((spec_IsScheme.f k a0 a1 a2).bind fun t110 => (if t110 = true then (some 0) else (some 2))) = some r := by rw [if_pos rfl] at H; exact H
    clear H
    have H := H1
    clear H1
    replace H := Option.bind_eq_some_iff.mp H
    obtain ⟨t110, A60, H⟩ := H
    replace H : (if t110 = true then (some 0) else (some 2)) = some r := H
    have A6 := Aside0.mk A60
    clear A60
    by_cases c7 : t110 = true
    · subst c7
      have H1 : (some 0) = some r := by rw [if_pos rfl] at H; exact H
      clear H
      have H := H1
      clear H1
      obtain rfl := Option.some.inj H
      go_enter Tryz.func30, Tryz.ntmps30
      go_wp2_with (first | ((with_reducible refine gate_callee (f := 45) rfl ?_); refine goesL_ (some 10) rfl rfl Tryz.func45 (by kernel_rfl) rfl #[.int .i64 a0, .int .i64 a1] rfl (by (try simp only [List.map_toArray, List.map_cons, List.map_nil]); first | done | rfl | (simp only [List.length_drop, List.length_take]; rfl)) ?_; (with_reducible refine (spec_l04Sheet.calls a0 a1 true _ A4.out).mono ?_); rintro e w' ⟨rfl, ⟨nd, rfl⟩⟩; refine ⟨_, rfl, ?_⟩) | ((with_reducible refine gate_callee (f := 46) rfl ?_); refine goesL_ (some 16) rfl rfl Tryz.func46 (by kernel_rfl) rfl #[.int .i64 a0, .int .i64 a1, .string a2] rfl (by (try simp only [List.map_toArray, List.map_cons, List.map_nil]); first | done | rfl | (simp only [List.length_drop, List.length_take]; rfl)) ?_; (with_reducible refine (spec_IsScheme.calls k a0 a1 a2 true _ A6.out).mono ?_); rintro e w' ⟨rfl, ⟨nd, rfl⟩⟩; refine ⟨_, rfl, ?_⟩))
      go_ret
      exact ⟨by first | rfl | (simp only [Go.IntWalk.i64_left]; first | done | rfl) | (simp; done) | (simp [*]; done), by repeat (first | exact Drawn0.refl _ | apply Drawn0.step)⟩
    · replace c7 := Bool.eq_false_iff.mpr c7
      subst c7
      have H1 : (some 2) = some r := by rw [if_neg (show ¬ (false = true) by decide)] at H; exact H
      clear H
      have H := H1
      clear H1
      obtain rfl := Option.some.inj H
      go_enter Tryz.func30, Tryz.ntmps30
      go_wp2_with (first | ((with_reducible refine gate_callee (f := 45) rfl ?_); refine goesL_ (some 10) rfl rfl Tryz.func45 (by kernel_rfl) rfl #[.int .i64 a0, .int .i64 a1] rfl (by (try simp only [List.map_toArray, List.map_cons, List.map_nil]); first | done | rfl | (simp only [List.length_drop, List.length_take]; rfl)) ?_; (with_reducible refine (spec_l04Sheet.calls a0 a1 true _ A4.out).mono ?_); rintro e w' ⟨rfl, ⟨nd, rfl⟩⟩; refine ⟨_, rfl, ?_⟩) | ((with_reducible refine gate_callee (f := 46) rfl ?_); refine goesL_ (some 16) rfl rfl Tryz.func46 (by kernel_rfl) rfl #[.int .i64 a0, .int .i64 a1, .string a2] rfl (by (try simp only [List.map_toArray, List.map_cons, List.map_nil]); first | done | rfl | (simp only [List.length_drop, List.length_take]; rfl)) ?_; (with_reducible refine (spec_IsScheme.calls k a0 a1 a2 false _ A6.out).mono ?_); rintro e w' ⟨rfl, ⟨nd, rfl⟩⟩; refine ⟨_, rfl, ?_⟩))
      go_ret
      exact ⟨by first | rfl | (simp only [Go.IntWalk.i64_left]; first | done | rfl) | (simp; done) | (simp [*]; done), by repeat (first | exact Drawn0.refl _ | apply Drawn0.step)⟩
  · replace c5 := Bool.eq_false_iff.mpr c5
    subst c5
    have H1 : (some 1) = some r := by rw [if_neg (show ¬ (false = true) by decide)] at H; exact H
    clear H
    have H := H1
    clear H1
    obtain rfl := Option.some.inj H
    go_enter Tryz.func30, Tryz.ntmps30
    go_wp2_with (first | ((with_reducible refine gate_callee (f := 45) rfl ?_); refine goesL_ (some 10) rfl rfl Tryz.func45 (by kernel_rfl) rfl #[.int .i64 a0, .int .i64 a1] rfl (by (try simp only [List.map_toArray, List.map_cons, List.map_nil]); first | done | rfl | (simp only [List.length_drop, List.length_take]; rfl)) ?_; (with_reducible refine (spec_l04Sheet.calls a0 a1 false _ A4.out).mono ?_); rintro e w' ⟨rfl, ⟨nd, rfl⟩⟩; refine ⟨_, rfl, ?_⟩))
    go_ret
    exact ⟨by first | rfl | (simp only [Go.IntWalk.i64_left]; first | done | rfl) | (simp; done) | (simp [*]; done), by repeat (first | exact Drawn0.refl _ | apply Drawn0.step)⟩

/-! ### spec_MirrorScheme -/
def smSw (c : UInt8) : UInt8 := if c = 76 then 82 else if c = 82 then 76 else c
def SmBuf (s : ByteArray) (n i : Nat) (W : World) : Prop := ∀ j (hj : j < s.data.toList.length), W.cell? ⟨n, j, none⟩ = some (.int .u8 ((if j < i then smSw s.data.toList[j] else s.data.toList[j]).toNat : Int)) ∧ W.frozen? ⟨n, j, none⟩ = false
theorem SmBuf.put {s : ByteArray} {n i : Nat} {W : World} (h : SmBuf s n i W) (hi : i < s.data.toList.length) {v : Int} (hv : v = ((smSw s.data.toList[i]).toNat : Int)) : SmBuf s n (i + 1) (W.setCell ⟨n, i, none⟩ (.int .u8 v)) := by
  intro j hj
  refine ⟨?_, by simp [(h j hj).2]⟩
  by_cases e : j = i
  · subst e
    rw [if_pos (Nat.lt_succ_self _), ← hv]
    exact World.cell?_setCell_same _ _ _ (h j hj).1
  · rw [World.cell?_setCell_other _ ⟨n, i, none⟩ ⟨n, j, none⟩ _ (by intro z; cases z; exact e rfl), (h j hj).1]
    by_cases q : j < i
    · rw [if_pos q, if_pos (by omega)]
    · rw [if_neg q, if_neg (by omega)]
theorem SmBuf.skip {s : ByteArray} {n i : Nat} {W : World} (h : SmBuf s n i W) (hi : i < s.data.toList.length) (hv : smSw s.data.toList[i] = s.data.toList[i]) : SmBuf s n (i + 1) W := by
  intro j hj
  refine ⟨?_, (h j hj).2⟩
  rw [(h j hj).1]
  by_cases e : j = i
  · subst e
    rw [if_neg (Nat.lt_irrefl _), if_pos (Nat.lt_succ_self _), hv]
  · by_cases q : j < i
    · rw [if_pos q, if_pos (by omega)]
    · rw [if_neg q, if_neg (by omega)]
def spec_MirrorScheme.f (k : Nat) (a0 a1 : Int) (a2 : ByteArray) : Option (ByteArray × Int) := (spec_l04Code.f k a0 a1 a2).bind fun c => if c = 0 then (if a2.size ≤ 1048576 then some ((⟨(a2.data.toList.map smSw).toArray⟩ : ByteArray), 0) else none) else some ((⟨#[]⟩ : ByteArray), c)
theorem spec_MirrorScheme.mono : ∀ a0 a1 a2 k, LeO (spec_MirrorScheme.f k a0 a1 a2) (spec_MirrorScheme.f (k + 1) a0 a1 a2) := by
  intro a0 a1 a2 k
  unfold spec_MirrorScheme.f
  exact LeO.bind (spec_l04Code.mono _ _ _ _) (fun _ => LeO.refl _)
set_option maxHeartbeats 2000000 in
set_option maxRecDepth 100000 in
theorem spec_MirrorScheme.calls (k : Nat) (a0 a1 : Int) (a2 : ByteArray) (r1 : ByteArray) (r2 : Int) (w : World) (h : spec_MirrorScheme.f k a0 a1 a2 = some (r1, r2)) :
    Calls Tryz.prog 15 #[.int .i64 a0, .int .i64 a1, .string a2] w fun e w' => e = .returned (.tuple #[.string r1, .int .i64 r2]) ∧ Below w.heap.size w w' := by
  unfold spec_MirrorScheme.f at h
  obtain ⟨c, A1, h⟩ := Option.bind_eq_some_iff.mp h
  have A := Aside0.mk A1
  clear A1
  by_cases hc : c = 0
  · rw [if_pos hc] at h
    subst hc
    by_cases hz : a2.size ≤ 1048576
    · rw [if_pos hz] at h
      simp only [Option.some.injEq, Prod.mk.injEq] at h
      obtain ⟨rfl, rfl⟩ := h
      have hlen : a2.data.toList.length = a2.size := by simp
      have HL := Aside0.mk hlen
      have HZ := Aside0.mk hz
      clear hlen hz
      have hcv : ∀ W : World, (convert 9 22 (.string a2)).run Tryz.prog W = .ok (.slice (some ⟨W.heap.size, 0, none⟩) a2.size (grownCap W a2.size 0 5)) (Lib.bytesWorld W 5 a2) := fun W => Lib.run_convert_string_bytes W 9 22 5 a2 Tryz.underlying9 Tryz.underlying22 Tryz.underlying5
      go_enter Tryz.func15, Tryz.ntmps15
      go_wp2_with (go_at_call 30; refine (spec_l04Code.calls k a0 a1 a2 0 _ A.out).mono ?_; rintro e w' ⟨rfl, ⟨nd, rfl⟩⟩)
      go_loopw [10] (fun v10 wr => ∃ i : Nat, v10 = .int .i64 (i : Int) ∧ i ≤ a2.size ∧ Aside0 (SmBuf a2 w.heap.size i wr ∧ Below w.heap.size w wr)) (fun v10 _ => a2.size - (intOf v10).toNat)
      case atStart =>
        refine ⟨0, rfl, Nat.zero_le _, ⟨⟨fun j hj => ?_, ?_⟩⟩⟩
        · have hj' : j < a2.size := by have := HL.out; omega
          have e1 := Lib.bytesWorld_cell (w.drewN nd) 5 a2 j hj'
          have e2 : ∀ W : World, (Lib.bytesWorld W 5 a2).frozen? ⟨W.heap.size, j, none⟩ = false := fun W => by
            have hk : a2.size ≤ (Lib.bytesCells W 5 a2).size := by simp [Lib.bytesCells]
            simp [World.frozen?, Lib.bytesWorld_at_new]
            omega
          have hg : a2.data.toList.getD j 0 = a2.data.toList[j] := by rw [List.getD_eq_getElem?_getD, List.getElem?_eq_getElem hj]; rfl
          rw [hg] at e1
          rw [if_neg (Nat.not_lt_zero _)]
          exact ⟨e1, e2 (w.drewN nd)⟩
        · exact bytes_below (w := w) (Drawn0.below ⟨⟨nd, rfl⟩⟩) (Nat.le_refl _) _ _
      case round =>
        obtain ⟨i, rfl, hi, HR⟩ := hrel
        by_cases hlt : i < a2.size
        · have hd : decide ((i : Int) < (a2.size : Int)) = true := decide_eq_true (by omega)
          have hp : (0 ≤ (i : Int)) = True := eq_true (by omega)
          have hq : ((i : Int) < (a2.size : Int)) = True := eq_true (by omega)
          have hl := HL.out
          have hil : i < a2.data.toList.length := by omega
          have HIL := Aside0.mk hil
          obtain ⟨ch, hch⟩ : ∃ ch, ch = a2.data.toList[i] := ⟨_, rfl⟩
          have c1 : wr.cell? ⟨w.heap.size, i, none⟩ = some (.int .u8 (ch.toNat : Int)) := by
            have := (HR.out.1 i hil).1
            rw [if_neg (Nat.lt_irrefl _)] at this
            rw [hch]; exact this
          have c2 := (HR.out.1 i hil).2
          have hw : wrap64 ((i : Int) + 1) = ((i + 1 : Nat) : Int) := by
            have := HZ.out
            unfold wrap64
            omega
          have HW := Aside0.mk hw
          clear hw
          have hmeas : a2.size - (intOf (Value.int IntKind.i64 ((i + 1 : Nat) : Int))).toNat < a2.size - (intOf (Value.int IntKind.i64 (i : Int))).toNat := by
            show a2.size - (((i + 1 : Nat) : Int)).toNat < a2.size - (i : Int).toNat
            omega
          have HM := Aside0.mk hmeas
          have HCH := Aside0.mk (show ∀ h : i < a2.data.toList.length, ch = a2.data.toList[i]'h from fun _ => hch)
          clear hmeas hl hch hil
          by_cases e76 : ch = 76
          · have b1 : ((ch.toNat : Int) == 76) = true := by rw [e76]; rfl
            have hs := Aside0.mk (show ((82 : Int)) = ((smSw (a2.data.toList[i]'HIL.out)).toNat : Int) by rw [← HCH.out HIL.out, e76]; rfl)
            clear e76
            go_wp2
            go_roundw
            case rel => exact ⟨i + 1, congrArg (Value.int .i64) HW.out, hlt, ⟨⟨HR.out.1.put HIL.out hs.out, Below.setCell (p := ⟨w.heap.size, i, none⟩) HR.out.2 (Nat.le_refl _) _⟩⟩⟩
            case measure => rw [HW.out]; exact HM.out
          · have b1 : ((ch.toNat : Int) == 76) = false := by
              rw [beq_eq_false_iff_ne]
              exact fun e => e76 (UInt8.toNat_inj.1 (Int.ofNat.inj e))
            by_cases e82 : ch = 82
            · have b2 : ((ch.toNat : Int) == 82) = true := by rw [e82]; rfl
              have hs := Aside0.mk (show ((76 : Int)) = ((smSw (a2.data.toList[i]'HIL.out)).toNat : Int) by rw [← HCH.out HIL.out, e82]; rfl)
              clear e76 e82
              go_wp2
              go_roundw
              case rel => exact ⟨i + 1, congrArg (Value.int .i64) HW.out, hlt, ⟨⟨HR.out.1.put HIL.out hs.out, Below.setCell (p := ⟨w.heap.size, i, none⟩) HR.out.2 (Nat.le_refl _) _⟩⟩⟩
              case measure => rw [HW.out]; exact HM.out
            · have b2 : ((ch.toNat : Int) == 82) = false := by
                rw [beq_eq_false_iff_ne]
                exact fun e => e82 (UInt8.toNat_inj.1 (Int.ofNat.inj e))
              have hs := Aside0.mk (show smSw (a2.data.toList[i]'HIL.out) = a2.data.toList[i]'HIL.out by rw [← HCH.out HIL.out]; unfold smSw; rw [if_neg e76, if_neg e82])
              clear e76 e82
              go_wp2
              go_roundw
              case rel => exact ⟨i + 1, congrArg (Value.int .i64) HW.out, hlt, ⟨⟨HR.out.1.skip HIL.out hs.out, HR.out.2⟩⟩⟩
              case measure => rw [HW.out]; exact HM.out
        · have hd : decide ((i : Int) < (a2.size : Int)) = false := decide_eq_false (by omega)
          have hl := HL.out
          obtain rfl : i = a2.size := by omega
          have hcs : ∀ c, (convert 22 9 (.slice (some ⟨w.heap.size, 0, none⟩) a2.size c)).run Tryz.prog wr = .ok (.string (strOfNums (a2.data.toList.map (fun x => ((smSw x).toNat : Int))))) wr := fun c => by
            refine run_convert_bytes_arg wr 22 5 Tryz.underlying22 Tryz.underlying5 w.heap.size 0 a2.size c _ (by simp) (fun j hj => ?_) 9 Tryz.underlying9
            have hj' : j < a2.data.toList.length := by omega
            rw [Nat.zero_add, (HR.out.1 j hj').1, if_pos hj]
            rw [List.getD_eq_getElem?_getD, List.getElem?_map, List.getElem?_eq_getElem hj']
            rfl
          have HV := Aside0.mk (show strOfNums (a2.data.toList.map (fun x => ((smSw x).toNat : Int))) = (⟨(a2.data.toList.map smSw).toArray⟩ : ByteArray) by
            unfold strOfNums
            simp [List.map_map, Function.comp_def])
          clear hl
          go_wp2
          go_ret2
          rw [HV.out]
          exact ⟨rfl, HR.out.2⟩
    · rw [if_neg hz] at h
      cases h
  · rw [if_neg hc] at h
    simp only [Option.some.injEq, Prod.mk.injEq] at h
    obtain ⟨rfl, rfl⟩ := h
    have hne : (c != 0) = true := bne_iff_ne.2 hc
    go_enter Tryz.func15, Tryz.ntmps15
    go_wp2_with (go_at_call 30; refine (spec_l04Code.calls k a0 a1 a2 c _ A.out).mono ?_; rintro e w' ⟨rfl, ⟨nd, rfl⟩⟩)
    go_ret2
    exact ⟨rfl, Drawn0.below ⟨⟨nd, rfl⟩⟩⟩

-- NOT PRINTED: function 36 (strings_NewReplacer)

-- NOT PRINTED: function 86 (atomic_LoadUint32)

-- NOT PRINTED: function 76 (atomic_Bool_Load)

-- NOT PRINTED: function 105 (race_Disable)

-- NOT PRINTED: function 106 (atomic_CompareAndSwapInt32)

-- NOT PRINTED: function 107 (race_Enable)

-- NOT PRINTED: function 108 (race_Acquire)

-- NOT PRINTED: function 111 (atomic_AddInt32)

-- NOT PRINTED: function 117 (sync_runtime_canSpin)

-- NOT PRINTED: function 118 (sync_runtime_doSpin)

-- NOT PRINTED: function 119 (sync_throw)

-- NOT PRINTED: function 120 (sync_runtime_nanotime)

-- NOT PRINTED: function 121 (sync_runtime_SemacquireMutex)

-- NOT PRINTED: function 109 (sync_Mutex_lockSlow)

-- NOT PRINTED: function 97 (sync_Mutex_Lock_97)

-- NOT PRINTED: function 87 (sync_Mutex_Lock_87)

-- NOT PRINTED: function 110 (race_ReleaseMerge)

-- NOT PRINTED: function 122 (sync_fatal)

-- NOT PRINTED: function 123 (sync_runtime_Semrelease)

-- NOT PRINTED: function 112 (sync_Mutex_unlockSlow)

-- NOT PRINTED: function 98 (sync_Mutex_Unlock_98)

-- NOT PRINTED: function 88 (sync_Mutex_Unlock_88)

-- NOT PRINTED: function 99 (atomic_StoreUint32)

/-! ### atomic_b32: function 100 -/
def atomic_b32.f (a0 : Bool) : Option (Int) := if a0 = true then (some 1) else (some 0)
set_option maxHeartbeats 8000000 in
set_option maxRecDepth 100000 in
theorem atomic_b32.calls (a0 : Bool) (r : Int) (w : World) (h : atomic_b32.f a0 = some r) :
    Calls Tryz.prog 100 #[.bool a0] w fun e w' => e = .returned (.int .u32 r) ∧ Drawn0 w w' := by
  have H : (if a0 = true then (some 1) else (some 0)) = some r := h
  clear h
  by_cases c2 : a0 = true
  · subst c2
    have H1 : (some 1) = some r := by rw [if_pos rfl] at H; exact H
    clear H
    have H := H1
    clear H1
    obtain rfl := Option.some.inj H
    go_enter Tryz.func100, Tryz.ntmps100
    go_wp2
    go_ret
    exact ⟨by first | rfl | (simp only [Go.IntWalk.i64_left]; first | done | rfl) | (simp; done) | (simp [*]; done), by repeat (first | exact Drawn0.refl _ | apply Drawn0.step)⟩
  · replace c2 := Bool.eq_false_iff.mpr c2
    subst c2
    have H1 : (some 0) = some r := by rw [if_neg (show ¬ (false = true) by decide)] at H; exact H
    clear H
    have H := H1
    clear H1
    obtain rfl := Option.some.inj H
    go_enter Tryz.func100, Tryz.ntmps100
    go_wp2
    go_ret
    exact ⟨by first | rfl | (simp only [Go.IntWalk.i64_left]; first | done | rfl) | (simp; done) | (simp [*]; done), by repeat (first | exact Drawn0.refl _ | apply Drawn0.step)⟩

-- NOT PRINTED: function 89 (atomic_Bool_Store)

-- NOT PRINTED: function 77 (sync_Once_doSlow)

-- NOT PRINTED: function 59 (sync_Once_Do)

-- NOT PRINTED: function 124 (stringslite_HasPrefix)

-- NOT PRINTED: function 113 (strings_HasPrefix)

-- NOT PRINTED: function 114 (strings_longestCommonSuffix)

-- NOT PRINTED: function 101 (strings_makeStringFinder)

-- NOT PRINTED: function 90 (strings_makeSingleStringReplacer)

-- NOT PRINTED: function 102 (strings_trieNode_add)

-- NOT PRINTED: function 91 (strings_makeGenericReplacer)

-- NOT PRINTED: function 78 (strings_Replacer_build)

-- NOT PRINTED: function 60 (strings_Replacer_buildOnce)

-- NOT PRINTED: function 37 (strings_Replacer_Replace)

end Go.Proofs.YtdpmpoakjhhaaaaGreatDoor.QFnMirroredSheets
