-- Written by own_print.py of this session's repo over the kit's print (its output, turned at some places).
import Derived.Test.YtcgjeglkgdakcaaQFnRomansx0
namespace Go.Proofs.Ytcgjeglkgdakcaa.QFnRomans
open Go.RowKit Go.Proofs.YtcgjeglkgdakcaaW.PrintWords Go.Proofs.YtcgjeglkgdakcaaW.PrintLast Go.Proofs.YtcgjeglkgdakcaaW.PrintMore
attribute [local go_sem] max2_int min2_int max_two min_two max_three min_three max_four min_four   -- for this text's walks alone
set_option linter.unusedVariables false
set_option linter.unusedSimpArgs false

/-! ### spec_l01In: function 43 -/
def spec_l01In.f (a0 : Int) (a1 : Int) (a2 : Int) : Option (Bool) := if a0 ≥ a1 then (some (decide (a0 ≤ a2))) else (some false)
set_option maxHeartbeats 8000000 in
set_option maxRecDepth 100000 in
theorem spec_l01In.calls (a0 : Int) (a1 : Int) (a2 : Int) (r : Bool) (w : World) (h : spec_l01In.f a0 a1 a2 = some r) :
    Calls Try.prog 43 #[.int .i64 a0, .int .i64 a1, .int .i64 a2] w fun e w' => e = .returned (.bool r) ∧ Drawn0 w w' := by
  have H : (if a0 ≥ a1 then (some (decide (a0 ≤ a2))) else (some false)) = some r := h
  clear h
  by_cases c4 : a0 ≥ a1
  · rw [if_pos c4] at H
    have c4b0 : decide (a1 ≤ a0) = true := decide_eq_true c4
    clear c4
    obtain rfl := Option.some.inj H
    go_enter Try.func43, Try.ntmps43
    go_wp2
    go_ret
    exact ⟨by first | rfl | (simp only [Go.IntWalk.i64_left]; first | done | rfl) | (simp; done) | (simp [*]; done), by repeat (first | exact Drawn0.refl _ | apply Drawn0.step)⟩
  · rw [if_neg c4] at H
    have c4b0 : decide (a1 ≤ a0) = false := decide_eq_false c4
    clear c4
    obtain rfl := Option.some.inj H
    go_enter Try.func43, Try.ntmps43
    go_wp2
    go_ret
    exact ⟨by first | rfl | (simp only [Go.IntWalk.i64_left]; first | done | rfl) | (simp; done) | (simp [*]; done), by repeat (first | exact Drawn0.refl _ | apply Drawn0.step)⟩

/-! ### spec_l02Digit: function 44 -/
def spec_l02Digit.f : Nat → Int → ByteArray → ByteArray → ByteArray → Option (ByteArray)
  | 0, _, _, _, _ => none
  | k + 1, a0, a1, a2, a3 => if a0 = 9 then (if a1.size + a3.size ≤ 9223372036854775807 then (some (a1 ++ a3)) else (none)) else (if a0 ≥ 5 then ((spec_l02Digit.f k (wrap64 (a0 - 5)) a1 a2 a3).bind fun t101 => (if a2.size + t101.size ≤ 9223372036854775807 then (some (a2 ++ t101)) else (none))) else (if a0 = 4 then (if a1.size + a2.size ≤ 9223372036854775807 then (some (a1 ++ a2)) else (none)) else (if a0 = 0 then (some (⟨#[]⟩ : ByteArray)) else ((spec_l02Digit.f k (wrap64 (a0 - 1)) a1 a2 a3).bind fun t102 => (if a1.size + t102.size ≤ 9223372036854775807 then (some (a1 ++ t102)) else (none))))))
theorem spec_l02Digit.mono_l : ∀ k, (∀ y0 y1 y2 y3, LeO (spec_l02Digit.f k y0 y1 y2 y3) (spec_l02Digit.f (k + 1) y0 y1 y2 y3))
  | 0 => fun _ _ _ _ r h => by simp [spec_l02Digit.f] at h
  | k + 1 => by
    have ih0 := spec_l02Digit.mono_l k
    · intro y0 y1 y2 y3
      unfold spec_l02Digit.f
      repeat' first
      | (with_reducible exact ih0 _ _ _ _)
      | (with_reducible exact LeO.refl _)
      | (with_reducible exact LeO.none _)
      | (with_reducible refine LeO.ite ?_ ?_)
      | (with_reducible refine LeO.bind ?_ (fun _ => ?_))
      | exact ih0 _ _ _ _
      | exact LeO.none _
      | refine LeO.ite ?_ ?_
      | refine LeO.bind ?_ (fun _ => ?_)
theorem spec_l02Digit.mono : ∀ a0 a1 a2 a3 k, LeO (spec_l02Digit.f k a0 a1 a2 a3) (spec_l02Digit.f (k + 1) a0 a1 a2 a3) := by
  intro a0 a1 a2 a3 k
  have ih0 := spec_l02Digit.mono_l k
  exact ih0 a0 a1 a2 a3
set_option maxHeartbeats 8000000 in
set_option maxRecDepth 100000 in
theorem spec_l02Digit.calls (k : Nat) : ∀ (a0 : Int) (a1 : ByteArray) (a2 : ByteArray) (a3 : ByteArray) (r : ByteArray) (w : World) (h : spec_l02Digit.f k a0 a1 a2 a3 = some r),
    Calls Try.prog 44 #[.int .i64 a0, .string a1, .string a2, .string a3] w fun e w' => e = .returned (.string r) ∧ Drawn0 w w' := by
  induction k using Nat.strongRecOn with
  | _ k ih =>
  intro a0 a1 a2 a3 r w h
  cases k with
  | zero => exact absurd h (by simp [spec_l02Digit.f])
  | succ k =>
  simp only [spec_l02Digit.f] at h
  have H : (if a0 = 9 then (if a1.size + a3.size ≤ 9223372036854775807 then (some (a1 ++ a3)) else (none)) else (if a0 ≥ 5 then ((spec_l02Digit.f k (wrap64 (a0 - 5)) a1 a2 a3).bind fun t101 => (if a2.size + t101.size ≤ 9223372036854775807 then (some (a2 ++ t101)) else (none))) else (if a0 = 4 then (if a1.size + a2.size ≤ 9223372036854775807 then (some (a1 ++ a2)) else (none)) else (if a0 = 0 then (some (⟨#[]⟩ : ByteArray)) else ((spec_l02Digit.f k (wrap64 (a0 - 1)) a1 a2 a3).bind fun t102 => (if a1.size + t102.size ≤ 9223372036854775807 then (some (a1 ++ t102)) else (none))))))) = some r := h
  clear h
  by_cases c5 : a0 = 9
  · rw [if_pos c5] at H
    have c5b0 : (a0 == 9) = true := beq_iff_eq.mpr c5
    have c5b1 : (a0 != 9) = false := bne_eq_false_iff_eq.mpr c5
    clear c5
    by_cases c6 : a1.size + a3.size ≤ 9223372036854775807
    · rw [if_pos c6] at H
      have c6b0 := eq_true c6
      have c6b1 : decide (a1.size + a3.size ≤ 9223372036854775807) = true := decide_eq_true c6
      try have c6b2 : (9223372036854775807 < a1.size + a3.size) = False := eq_false (Nat.not_lt.2 c6)
      (try (have c6s := c6; simp only [ByteArray.size_append, ByteArray.size_extract] at c6s; have c6s0 := eq_true c6s; have c6s1 := decide_eq_true c6s; have c6s2 := eq_false (Nat.not_lt.2 c6s)))
      obtain rfl := Option.some.inj H
      go_enter Try.func44, Try.ntmps44
      go_wp2
      go_ret
      exact ⟨by first | rfl | (simp only [Go.IntWalk.i64_left]; first | done | rfl) | (simp; done) | (simp [*]; done), by repeat (first | exact Drawn0.refl _ | apply Drawn0.step)⟩
    · rw [if_neg c6] at H
      exact absurd H (by simp)
  · rw [if_neg c5] at H
    have c5b0 : (a0 == 9) = false := beq_eq_false_iff_ne.mpr c5
    have c5b1 : (a0 != 9) = true := bne_iff_ne.mpr c5
    by_cases c7 : a0 ≥ 5
    · rw [if_pos c7] at H
      have c7b0 : decide (5 ≤ a0) = true := decide_eq_true c7
      clear c7
      replace H := Option.bind_eq_some_iff.mp H
      obtain ⟨t101, A80, H⟩ := H
      replace H : (if a2.size + t101.size ≤ 9223372036854775807 then (some (a2 ++ t101)) else (none)) = some r := H
      have A8 := Aside0.mk A80
      clear A80
      by_cases c9 : a2.size + t101.size ≤ 9223372036854775807
      · rw [if_pos c9] at H
        have c9b0 := eq_true c9
        have c9b1 : decide (a2.size + t101.size ≤ 9223372036854775807) = true := decide_eq_true c9
        try have c9b2 : (9223372036854775807 < a2.size + t101.size) = False := eq_false (Nat.not_lt.2 c9)
        (try (have c9s := c9; simp only [ByteArray.size_append, ByteArray.size_extract] at c9s; have c9s0 := eq_true c9s; have c9s1 := decide_eq_true c9s; have c9s2 := eq_false (Nat.not_lt.2 c9s)))
        obtain rfl := Option.some.inj H
        go_enter Try.func44, Try.ntmps44
        go_wp2_with (first | ((with_reducible refine gate_callee (f := 44) rfl ?_); refine goesL_ (some 24) rfl rfl Try.func44 (by kernel_rfl) rfl #[.int .i64 (wrap64 (a0 - 5)), .string a1, .string a2, .string a3] rfl (by (try simp only [List.map_toArray, List.map_cons, List.map_nil]); first | done | rfl | (simp only [List.length_drop, List.length_take]; rfl)) ?_; (with_reducible refine (ih k (by omega) (wrap64 (a0 - 5)) a1 a2 a3 t101 _ A8.out).mono ?_); rintro e w' ⟨rfl, ⟨nd, rfl⟩⟩; refine ⟨_, rfl, ?_⟩))
        go_ret
        exact ⟨by first | rfl | (simp only [Go.IntWalk.i64_left]; first | done | rfl) | (simp; done) | (simp [*]; done), by repeat (first | exact Drawn0.refl _ | apply Drawn0.step)⟩
      · rw [if_neg c9] at H
        exact absurd H (by simp)
    · rw [if_neg c7] at H
      have c7b0 : decide (5 ≤ a0) = false := decide_eq_false c7
      clear c7
      by_cases c10 : a0 = 4
      · rw [if_pos c10] at H
        have c10b0 : (a0 == 4) = true := beq_iff_eq.mpr c10
        have c10b1 : (a0 != 4) = false := bne_eq_false_iff_eq.mpr c10
        clear c10
        by_cases c11 : a1.size + a2.size ≤ 9223372036854775807
        · rw [if_pos c11] at H
          have c11b0 := eq_true c11
          have c11b1 : decide (a1.size + a2.size ≤ 9223372036854775807) = true := decide_eq_true c11
          try have c11b2 : (9223372036854775807 < a1.size + a2.size) = False := eq_false (Nat.not_lt.2 c11)
          (try (have c11s := c11; simp only [ByteArray.size_append, ByteArray.size_extract] at c11s; have c11s0 := eq_true c11s; have c11s1 := decide_eq_true c11s; have c11s2 := eq_false (Nat.not_lt.2 c11s)))
          obtain rfl := Option.some.inj H
          go_enter Try.func44, Try.ntmps44
          go_wp2
          go_ret
          exact ⟨by first | rfl | (simp only [Go.IntWalk.i64_left]; first | done | rfl) | (simp; done) | (simp [*]; done), by repeat (first | exact Drawn0.refl _ | apply Drawn0.step)⟩
        · rw [if_neg c11] at H
          exact absurd H (by simp)
      · rw [if_neg c10] at H
        have c10b0 : (a0 == 4) = false := beq_eq_false_iff_ne.mpr c10
        have c10b1 : (a0 != 4) = true := bne_iff_ne.mpr c10
        by_cases c12 : a0 = 0
        · rw [if_pos c12] at H
          have c12b0 : (a0 == 0) = true := beq_iff_eq.mpr c12
          have c12b1 : (a0 != 0) = false := bne_eq_false_iff_eq.mpr c12
          clear c12
          obtain rfl := Option.some.inj H
          go_enter Try.func44, Try.ntmps44
          go_wp2
          go_ret
          exact ⟨by first | rfl | (simp only [Go.IntWalk.i64_left]; first | done | rfl) | (simp; done) | (simp [*]; done), by repeat (first | exact Drawn0.refl _ | apply Drawn0.step)⟩
        · rw [if_neg c12] at H
          have c12b0 : (a0 == 0) = false := beq_eq_false_iff_ne.mpr c12
          have c12b1 : (a0 != 0) = true := bne_iff_ne.mpr c12
          replace H := Option.bind_eq_some_iff.mp H
          obtain ⟨t102, A130, H⟩ := H
          replace H : (if a1.size + t102.size ≤ 9223372036854775807 then (some (a1 ++ t102)) else (none)) = some r := H
          have A13 := Aside0.mk A130
          clear A130
          by_cases c14 : a1.size + t102.size ≤ 9223372036854775807
          · rw [if_pos c14] at H
            have c14b0 := eq_true c14
            have c14b1 : decide (a1.size + t102.size ≤ 9223372036854775807) = true := decide_eq_true c14
            try have c14b2 : (9223372036854775807 < a1.size + t102.size) = False := eq_false (Nat.not_lt.2 c14)
            (try (have c14s := c14; simp only [ByteArray.size_append, ByteArray.size_extract] at c14s; have c14s0 := eq_true c14s; have c14s1 := decide_eq_true c14s; have c14s2 := eq_false (Nat.not_lt.2 c14s)))
            obtain rfl := Option.some.inj H
            go_enter Try.func44, Try.ntmps44
            go_wp2_with (first | ((with_reducible refine gate_callee (f := 44) rfl ?_); refine goesL_ (some 41) rfl rfl Try.func44 (by kernel_rfl) rfl #[.int .i64 (wrap64 (a0 - 1)), .string a1, .string a2, .string a3] rfl (by (try simp only [List.map_toArray, List.map_cons, List.map_nil]); first | done | rfl | (simp only [List.length_drop, List.length_take]; rfl)) ?_; (with_reducible refine (ih k (by omega) (wrap64 (a0 - 1)) a1 a2 a3 t102 _ A13.out).mono ?_); rintro e w' ⟨rfl, ⟨nd, rfl⟩⟩; refine ⟨_, rfl, ?_⟩))
            go_ret
            exact ⟨by first | rfl | (simp only [Go.IntWalk.i64_left]; first | done | rfl) | (simp; done) | (simp [*]; done), by repeat (first | exact Drawn0.refl _ | apply Drawn0.step)⟩
          · rw [if_neg c14] at H
            exact absurd H (by simp)

/-! ### spec_RomanText: function 12 -/
def spec_RomanText.f (k : Nat) (a0 : Int) : Option (ByteArray) := (spec_l01In.f a0 1 3999).bind fun t103 => (if t103 = true then ((spec_l02Digit.f k (wrap64 (Int.tdiv a0 1000)) (⟨#[109]⟩ : ByteArray) (⟨#[]⟩ : ByteArray) (⟨#[]⟩ : ByteArray)).bind fun t104 => ((spec_l02Digit.f k (Int.tmod (wrap64 (Int.tdiv a0 100)) 10) (⟨#[99]⟩ : ByteArray) (⟨#[100]⟩ : ByteArray) (⟨#[109]⟩ : ByteArray)).bind fun t105 => (if t104.size + t105.size ≤ 9223372036854775807 then ((spec_l02Digit.f k (Int.tmod (wrap64 (Int.tdiv a0 10)) 10) (⟨#[120]⟩ : ByteArray) (⟨#[108]⟩ : ByteArray) (⟨#[99]⟩ : ByteArray)).bind fun t106 => (if (t104 ++ t105).size + t106.size ≤ 9223372036854775807 then ((spec_l02Digit.f k (Int.tmod a0 10) (⟨#[105]⟩ : ByteArray) (⟨#[118]⟩ : ByteArray) (⟨#[120]⟩ : ByteArray)).bind fun t107 => (if ((t104 ++ t105) ++ t106).size + t107.size ≤ 9223372036854775807 then (some (((t104 ++ t105) ++ t106) ++ t107)) else (none))) else (none))) else (none)))) else (some (⟨#[]⟩ : ByteArray)))
theorem spec_RomanText.mono : ∀ a0 k, LeO (spec_RomanText.f k a0) (spec_RomanText.f (k + 1) a0) := by
  intro a0 k
  unfold spec_RomanText.f
  repeat' first
      | (with_reducible exact spec_l02Digit.mono _ _ _ _ _)
      | (with_reducible exact LeO.refl _)
      | (with_reducible exact LeO.none _)
      | (with_reducible refine LeO.ite ?_ ?_)
      | (with_reducible refine LeO.bind ?_ (fun _ => ?_))
      | exact spec_l02Digit.mono _ _ _ _ _
      | exact LeO.none _
      | refine LeO.ite ?_ ?_
      | refine LeO.bind ?_ (fun _ => ?_)
set_option maxHeartbeats 8000000 in
set_option maxRecDepth 100000 in
theorem spec_RomanText.calls (k : Nat) (a0 : Int) (r : ByteArray) (w : World) (h : spec_RomanText.f k a0 = some r) :
    Calls Try.prog 12 #[.int .i64 a0] w fun e w' => e = .returned (.string r) ∧ Drawn0 w w' := by
  have H : ((spec_l01In.f a0 1 3999).bind fun t103 => (if t103 = true then ((spec_l02Digit.f k (wrap64 (Int.tdiv a0 1000)) (⟨#[109]⟩ : ByteArray) (⟨#[]⟩ : ByteArray) (⟨#[]⟩ : ByteArray)).bind fun t104 => ((spec_l02Digit.f k (Int.tmod (wrap64 (Int.tdiv a0 100)) 10) (⟨#[99]⟩ : ByteArray) (⟨#[100]⟩ : ByteArray) (⟨#[109]⟩ : ByteArray)).bind fun t105 => (if t104.size + t105.size ≤ 9223372036854775807 then ((spec_l02Digit.f k (Int.tmod (wrap64 (Int.tdiv a0 10)) 10) (⟨#[120]⟩ : ByteArray) (⟨#[108]⟩ : ByteArray) (⟨#[99]⟩ : ByteArray)).bind fun t106 => (if (t104 ++ t105).size + t106.size ≤ 9223372036854775807 then ((spec_l02Digit.f k (Int.tmod a0 10) (⟨#[105]⟩ : ByteArray) (⟨#[118]⟩ : ByteArray) (⟨#[120]⟩ : ByteArray)).bind fun t107 => (if ((t104 ++ t105) ++ t106).size + t107.size ≤ 9223372036854775807 then (some (((t104 ++ t105) ++ t106) ++ t107)) else (none))) else (none))) else (none)))) else (some (⟨#[]⟩ : ByteArray)))) = some r := h
  clear h
  replace H := Option.bind_eq_some_iff.mp H
  obtain ⟨t103, A20, H⟩ := H
  replace H : (if t103 = true then ((spec_l02Digit.f k (wrap64 (Int.tdiv a0 1000)) (⟨#[109]⟩ : ByteArray) (⟨#[]⟩ : ByteArray) (⟨#[]⟩ : ByteArray)).bind fun t104 => ((spec_l02Digit.f k (Int.tmod (wrap64 (Int.tdiv a0 100)) 10) (⟨#[99]⟩ : ByteArray) (⟨#[100]⟩ : ByteArray) (⟨#[109]⟩ : ByteArray)).bind fun t105 => (if t104.size + t105.size ≤ 9223372036854775807 then ((spec_l02Digit.f k (Int.tmod (wrap64 (Int.tdiv a0 10)) 10) (⟨#[120]⟩ : ByteArray) (⟨#[108]⟩ : ByteArray) (⟨#[99]⟩ : ByteArray)).bind fun t106 => (if (t104 ++ t105).size + t106.size ≤ 9223372036854775807 then ((spec_l02Digit.f k (Int.tmod a0 10) (⟨#[105]⟩ : ByteArray) (⟨#[118]⟩ : ByteArray) (⟨#[120]⟩ : ByteArray)).bind fun t107 => (if ((t104 ++ t105) ++ t106).size + t107.size ≤ 9223372036854775807 then (some (((t104 ++ t105) ++ t106) ++ t107)) else (none))) else (none))) else (none)))) else (some (⟨#[]⟩ : ByteArray))) = some r := H
  have A2 := Aside0.mk A20
  clear A20
  by_cases c3 : t103 = true
  · subst c3
    have H1 : ((spec_l02Digit.f k (wrap64 (Int.tdiv a0 1000)) (⟨#[109]⟩ : ByteArray) (⟨#[]⟩ : ByteArray) (⟨#[]⟩ : ByteArray)).bind fun t104 => ((spec_l02Digit.f k (Int.tmod (wrap64 (Int.tdiv a0 100)) 10) (⟨#[99]⟩ : ByteArray) (⟨#[100]⟩ : ByteArray) (⟨#[109]⟩ : ByteArray)).bind fun t105 => (if t104.size + t105.size ≤ 9223372036854775807 then ((spec_l02Digit.f k (Int.tmod (wrap64 (Int.tdiv a0 10)) 10) (⟨#[120]⟩ : ByteArray) (⟨#[108]⟩ : ByteArray) (⟨#[99]⟩ : ByteArray)).bind fun t106 => (if (t104 ++ t105).size + t106.size ≤ 9223372036854775807 then ((spec_l02Digit.f k (Int.tmod a0 10) (⟨#[105]⟩ : ByteArray) (⟨#[118]⟩ : ByteArray) (⟨#[120]⟩ : ByteArray)).bind fun t107 => (if ((t104 ++ t105) ++ t106).size + t107.size ≤ 9223372036854775807 then (some (((t104 ++ t105) ++ t106) ++ t107)) else (none))) else (none))) else (none)))) = some r := by rw [if_pos rfl] at H; exact H
    clear H
    have H := H1
    clear H1
    replace H := Option.bind_eq_some_iff.mp H
    obtain ⟨t104, A40, H⟩ := H
    replace H : ((spec_l02Digit.f k (Int.tmod (wrap64 (Int.tdiv a0 100)) 10) (⟨#[99]⟩ : ByteArray) (⟨#[100]⟩ : ByteArray) (⟨#[109]⟩ : ByteArray)).bind fun t105 => (if t104.size + t105.size ≤ 9223372036854775807 then ((spec_l02Digit.f k (Int.tmod (wrap64 (Int.tdiv a0 10)) 10) (⟨#[120]⟩ : ByteArray) (⟨#[108]⟩ : ByteArray) (⟨#[99]⟩ : ByteArray)).bind fun t106 => (if (t104 ++ t105).size + t106.size ≤ 9223372036854775807 then ((spec_l02Digit.f k (Int.tmod a0 10) (⟨#[105]⟩ : ByteArray) (⟨#[118]⟩ : ByteArray) (⟨#[120]⟩ : ByteArray)).bind fun t107 => (if ((t104 ++ t105) ++ t106).size + t107.size ≤ 9223372036854775807 then (some (((t104 ++ t105) ++ t106) ++ t107)) else (none))) else (none))) else (none))) = some r := H
    have A4 := Aside0.mk A40
    clear A40
    replace H := Option.bind_eq_some_iff.mp H
    obtain ⟨t105, A50, H⟩ := H
    replace H : (if t104.size + t105.size ≤ 9223372036854775807 then ((spec_l02Digit.f k (Int.tmod (wrap64 (Int.tdiv a0 10)) 10) (⟨#[120]⟩ : ByteArray) (⟨#[108]⟩ : ByteArray) (⟨#[99]⟩ : ByteArray)).bind fun t106 => (if (t104 ++ t105).size + t106.size ≤ 9223372036854775807 then ((spec_l02Digit.f k (Int.tmod a0 10) (⟨#[105]⟩ : ByteArray) (⟨#[118]⟩ : ByteArray) (⟨#[120]⟩ : ByteArray)).bind fun t107 => (if ((t104 ++ t105) ++ t106).size + t107.size ≤ 9223372036854775807 then (some (((t104 ++ t105) ++ t106) ++ t107)) else (none))) else (none))) else (none)) = some r := H
    have A5 := Aside0.mk A50
    clear A50
    by_cases c6 : t104.size + t105.size ≤ 9223372036854775807
    · rw [if_pos c6] at H
      have c6b0 := eq_true c6
      have c6b1 : decide (t104.size + t105.size ≤ 9223372036854775807) = true := decide_eq_true c6
      try have c6b2 : (9223372036854775807 < t104.size + t105.size) = False := eq_false (Nat.not_lt.2 c6)
      (try (have c6s := c6; simp only [ByteArray.size_append, ByteArray.size_extract] at c6s; have c6s0 := eq_true c6s; have c6s1 := decide_eq_true c6s; have c6s2 := eq_false (Nat.not_lt.2 c6s)))
      replace H := Option.bind_eq_some_iff.mp H
      obtain ⟨t106, A70, H⟩ := H
      replace H : (if (t104 ++ t105).size + t106.size ≤ 9223372036854775807 then ((spec_l02Digit.f k (Int.tmod a0 10) (⟨#[105]⟩ : ByteArray) (⟨#[118]⟩ : ByteArray) (⟨#[120]⟩ : ByteArray)).bind fun t107 => (if ((t104 ++ t105) ++ t106).size + t107.size ≤ 9223372036854775807 then (some (((t104 ++ t105) ++ t106) ++ t107)) else (none))) else (none)) = some r := H
      have A7 := Aside0.mk A70
      clear A70
      by_cases c8 : (t104 ++ t105).size + t106.size ≤ 9223372036854775807
      · rw [if_pos c8] at H
        have c8b0 := eq_true c8
        have c8b1 : decide ((t104 ++ t105).size + t106.size ≤ 9223372036854775807) = true := decide_eq_true c8
        try have c8b2 : (9223372036854775807 < (t104 ++ t105).size + t106.size) = False := eq_false (Nat.not_lt.2 c8)
        (try (have c8s := c8; simp only [ByteArray.size_append, ByteArray.size_extract] at c8s; have c8s0 := eq_true c8s; have c8s1 := decide_eq_true c8s; have c8s2 := eq_false (Nat.not_lt.2 c8s)))
        replace H := Option.bind_eq_some_iff.mp H
        obtain ⟨t107, A90, H⟩ := H
        replace H : (if ((t104 ++ t105) ++ t106).size + t107.size ≤ 9223372036854775807 then (some (((t104 ++ t105) ++ t106) ++ t107)) else (none)) = some r := H
        have A9 := Aside0.mk A90
        clear A90
        by_cases c10 : ((t104 ++ t105) ++ t106).size + t107.size ≤ 9223372036854775807
        · rw [if_pos c10] at H
          have c10b0 := eq_true c10
          have c10b1 : decide (((t104 ++ t105) ++ t106).size + t107.size ≤ 9223372036854775807) = true := decide_eq_true c10
          try have c10b2 : (9223372036854775807 < ((t104 ++ t105) ++ t106).size + t107.size) = False := eq_false (Nat.not_lt.2 c10)
          (try (have c10s := c10; simp only [ByteArray.size_append, ByteArray.size_extract] at c10s; have c10s0 := eq_true c10s; have c10s1 := decide_eq_true c10s; have c10s2 := eq_false (Nat.not_lt.2 c10s)))
          obtain rfl := Option.some.inj H
          go_enter Try.func12, Try.ntmps12
          go_wp2_with (first | ((with_reducible refine gate_callee (f := 43) rfl ?_); refine goesL_ (some 4) rfl rfl Try.func43 (by kernel_rfl) rfl #[.int .i64 a0, .int .i64 1, .int .i64 3999] rfl (by (try simp only [List.map_toArray, List.map_cons, List.map_nil]); first | done | rfl | (simp only [List.length_drop, List.length_take]; rfl)) ?_; (with_reducible refine (spec_l01In.calls a0 1 3999 true _ A2.out).mono ?_); rintro e w' ⟨rfl, ⟨nd, rfl⟩⟩; refine ⟨_, rfl, ?_⟩) | ((with_reducible refine gate_callee (f := 44) rfl ?_); refine goesL_ (some 8) rfl rfl Try.func44 (by kernel_rfl) rfl #[.int .i64 (wrap64 (Int.tdiv a0 1000)), .string (⟨#[109]⟩ : ByteArray), .string (⟨#[]⟩ : ByteArray), .string (⟨#[]⟩ : ByteArray)] rfl (by (try simp only [List.map_toArray, List.map_cons, List.map_nil]); first | done | rfl | (simp only [List.length_drop, List.length_take]; rfl)) ?_; (with_reducible refine (spec_l02Digit.calls k (wrap64 (Int.tdiv a0 1000)) (⟨#[109]⟩ : ByteArray) (⟨#[]⟩ : ByteArray) (⟨#[]⟩ : ByteArray) t104 _ A4.out).mono ?_); rintro e w' ⟨rfl, ⟨nd, rfl⟩⟩; refine ⟨_, rfl, ?_⟩) | ((with_reducible refine gate_callee (f := 44) rfl ?_); refine goesL_ (some 12) rfl rfl Try.func44 (by kernel_rfl) rfl #[.int .i64 (Int.tmod (wrap64 (Int.tdiv a0 100)) 10), .string (⟨#[99]⟩ : ByteArray), .string (⟨#[100]⟩ : ByteArray), .string (⟨#[109]⟩ : ByteArray)] rfl (by (try simp only [List.map_toArray, List.map_cons, List.map_nil]); first | done | rfl | (simp only [List.length_drop, List.length_take]; rfl)) ?_; (with_reducible refine (spec_l02Digit.calls k (Int.tmod (wrap64 (Int.tdiv a0 100)) 10) (⟨#[99]⟩ : ByteArray) (⟨#[100]⟩ : ByteArray) (⟨#[109]⟩ : ByteArray) t105 _ A5.out).mono ?_); rintro e w' ⟨rfl, ⟨nd, rfl⟩⟩; refine ⟨_, rfl, ?_⟩) | ((with_reducible refine gate_callee (f := 44) rfl ?_); refine goesL_ (some 17) rfl rfl Try.func44 (by kernel_rfl) rfl #[.int .i64 (Int.tmod (wrap64 (Int.tdiv a0 10)) 10), .string (⟨#[120]⟩ : ByteArray), .string (⟨#[108]⟩ : ByteArray), .string (⟨#[99]⟩ : ByteArray)] rfl (by (try simp only [List.map_toArray, List.map_cons, List.map_nil]); first | done | rfl | (simp only [List.length_drop, List.length_take]; rfl)) ?_; (with_reducible refine (spec_l02Digit.calls k (Int.tmod (wrap64 (Int.tdiv a0 10)) 10) (⟨#[120]⟩ : ByteArray) (⟨#[108]⟩ : ByteArray) (⟨#[99]⟩ : ByteArray) t106 _ A7.out).mono ?_); rintro e w' ⟨rfl, ⟨nd, rfl⟩⟩; refine ⟨_, rfl, ?_⟩) | ((with_reducible refine gate_callee (f := 44) rfl ?_); refine goesL_ (some 21) rfl rfl Try.func44 (by kernel_rfl) rfl #[.int .i64 (Int.tmod a0 10), .string (⟨#[105]⟩ : ByteArray), .string (⟨#[118]⟩ : ByteArray), .string (⟨#[120]⟩ : ByteArray)] rfl (by (try simp only [List.map_toArray, List.map_cons, List.map_nil]); first | done | rfl | (simp only [List.length_drop, List.length_take]; rfl)) ?_; (with_reducible refine (spec_l02Digit.calls k (Int.tmod a0 10) (⟨#[105]⟩ : ByteArray) (⟨#[118]⟩ : ByteArray) (⟨#[120]⟩ : ByteArray) t107 _ A9.out).mono ?_); rintro e w' ⟨rfl, ⟨nd, rfl⟩⟩; refine ⟨_, rfl, ?_⟩))
          go_ret
          exact ⟨by first | rfl | (simp only [Go.IntWalk.i64_left]; first | done | rfl) | (simp; done) | (simp [*]; done), by repeat (first | exact Drawn0.refl _ | apply Drawn0.step)⟩
        · rw [if_neg c10] at H
          exact absurd H (by simp)
      · rw [if_neg c8] at H
        exact absurd H (by simp)
    · rw [if_neg c6] at H
      exact absurd H (by simp)
  · replace c3 := Bool.eq_false_iff.mpr c3
    subst c3
    have H1 : (some (⟨#[]⟩ : ByteArray)) = some r := by rw [if_neg (show ¬ (false = true) by decide)] at H; exact H
    clear H
    have H := H1
    clear H1
    obtain rfl := Option.some.inj H
    go_enter Try.func12, Try.ntmps12
    go_wp2_with (first | ((with_reducible refine gate_callee (f := 43) rfl ?_); refine goesL_ (some 4) rfl rfl Try.func43 (by kernel_rfl) rfl #[.int .i64 a0, .int .i64 1, .int .i64 3999] rfl (by (try simp only [List.map_toArray, List.map_cons, List.map_nil]); first | done | rfl | (simp only [List.length_drop, List.length_take]; rfl)) ?_; (with_reducible refine (spec_l01In.calls a0 1 3999 false _ A2.out).mono ?_); rintro e w' ⟨rfl, ⟨nd, rfl⟩⟩; refine ⟨_, rfl, ?_⟩))
    go_ret
    exact ⟨by first | rfl | (simp only [Go.IntWalk.i64_left]; first | done | rfl) | (simp; done) | (simp [*]; done), by repeat (first | exact Drawn0.refl _ | apply Drawn0.step)⟩

/-! ### impl_inRange: function 45 -/
def impl_inRange.f (a0 : Int) (a1 : Int) (a2 : Int) : Option (Bool) := if a1 ≤ a0 then (some (decide (a0 ≤ a2))) else (some false)
set_option maxHeartbeats 8000000 in
set_option maxRecDepth 100000 in
theorem impl_inRange.calls (a0 : Int) (a1 : Int) (a2 : Int) (r : Bool) (w : World) (h : impl_inRange.f a0 a1 a2 = some r) :
    Calls Try.prog 45 #[.int .i64 a0, .int .i64 a1, .int .i64 a2] w fun e w' => e = .returned (.bool r) ∧ Drawn0 w w' := by
  have H : (if a1 ≤ a0 then (some (decide (a0 ≤ a2))) else (some false)) = some r := h
  clear h
  by_cases c4 : a1 ≤ a0
  · rw [if_pos c4] at H
    have c4b0 : decide (a1 ≤ a0) = true := decide_eq_true c4
    clear c4
    obtain rfl := Option.some.inj H
    go_enter Try.func45, Try.ntmps45
    go_wp2
    go_ret
    exact ⟨by first | rfl | (simp only [Go.IntWalk.i64_left]; first | done | rfl) | (simp; done) | (simp [*]; done), by repeat (first | exact Drawn0.refl _ | apply Drawn0.step)⟩
  · rw [if_neg c4] at H
    have c4b0 : decide (a1 ≤ a0) = false := decide_eq_false c4
    clear c4
    obtain rfl := Option.some.inj H
    go_enter Try.func45, Try.ntmps45
    go_wp2
    go_ret
    exact ⟨by first | rfl | (simp only [Go.IntWalk.i64_left]; first | done | rfl) | (simp; done) | (simp [*]; done), by repeat (first | exact Drawn0.refl _ | apply Drawn0.step)⟩

-- NOT PRINTED: function 68 (abi_NoEscape)

-- NOT PRINTED: function 65 (strings_Builder_copyCheck)

-- NOT PRINTED: function 46 (strings_Builder_WriteString)

-- NOT PRINTED: function 47 (strings_Builder_String)

/-! ### impl_RomanText -/
def romTab : List (Int × List UInt8) := [(1000, [109]), (900, [99, 109]), (500, [100]), (400, [99, 100]), (100, [99]), (90, [120, 99]), (50, [108]), (40, [120, 108]), (10, [120]), (9, [105, 120]), (5, [118]), (4, [105, 118]), (1, [105])]
def romStep (v : Int) (m : List UInt8) : Nat → Int → List UInt8 → Int × List UInt8
  | 0, n, acc => (n, acc)
  | k + 1, n, acc => if v ≤ n then romStep v m k (n - v) (acc ++ m) else (n, acc)
def romAll : List (Int × List UInt8) → Int → List UInt8 → List UInt8
  | [], n, acc => acc
  | p :: t, n, acc => romAll t (romStep p.1 p.2 4000 n acc).1 (romStep p.1 p.2 4000 n acc).2
def impl_RomanText.f (a0 : Int) : Option ByteArray := if 1 ≤ a0 ∧ a0 ≤ 3999 then some ⟨(romAll romTab a0 []).toArray⟩ else some ⟨#[]⟩
theorem rom_range (n : Int) : impl_inRange.f n 1 3999 = some (decide (1 ≤ n ∧ n ≤ 3999)) := by
  unfold impl_inRange.f
  by_cases h : 1 ≤ n
  · rw [if_pos h]; simp [h]
  · rw [if_neg h]; simp [h]
set_option maxHeartbeats 1000000 in
set_option maxRecDepth 100000 in
theorem bld_used (b : Nat) (w : World) (h0 : w.cell? ⟨b, 0, none⟩ = some (.pointer (some ⟨b, 0, none⟩))) :
    Calls Try.prog 65 #[.pointer (some ⟨b, 0, none⟩)] w fun e w' => e = .returned (.tuple #[]) ∧ w' = w := by
  obtain ⟨j, hj, _⟩ := Option.map_eq_some_iff.1 (show (Try.prog.info? 60).map (·.size) = some 2 by kernel_rfl)
  go_enter Try.func65, Try.ntmps65
  go_wp2
  rw [Lib.run_neq_ptr_same w _ Try.underlying58 hj]
  go_wp2
  go_end0
  exact ⟨rfl, rfl⟩
set_option maxHeartbeats 1000000 in
set_option maxRecDepth 100000 in
theorem bld_fresh (b : Nat) (w : World) (h0 : w.cell? ⟨b, 0, none⟩ = some (.pointer none)) (hsh : w.shape? b = some (60, 2)) (hfz : w.frozen? ⟨b, 0, none⟩ = false) :
    Calls Try.prog 65 #[.pointer (some ⟨b, 0, none⟩)] w fun e w' => e = .returned (.tuple #[]) ∧ w' = w.setCell ⟨b, 0, none⟩ (.pointer (some ⟨b, 0, none⟩)) := by
  obtain ⟨j, hj, hjs⟩ := Option.map_eq_some_iff.1 (show (Try.prog.info? 60).map (·.size) = some 2 by kernel_rfl)
  go_enter Try.func65, Try.ntmps65
  go_wp2
  rw [Lib.run_to_unsafe w ⟨b, 0, none⟩ Try.underlying58 Try.underlying83 hj (by rw [hjs]; decide) hsh (Nat.zero_lt_succ 1)]
  simp only [Result.andThen]
  rw [Oper.upon_value]
  go_wp2
  rw [run_callFunc_extern Try.func68 (by kernel_rfl) (by kernel_rfl) (by kernel_rfl) (e := Extern.AbiNoEscape.same) (by kernel_rfl)]
  rw [Lib.run_noEscape]
  simp only [Result.andThen]
  rw [Oper.upon_value]
  go_wp2
  rw [Lib.run_from_unsafe w ⟨b, 0, none⟩ Try.underlying83 Try.underlying58 hj hsh (by kernel_rfl)]
  simp only [Result.andThen]
  rw [Oper.upon_value]
  go_wp2
  go_end0
  exact ⟨rfl, rfl⟩
theorem bld_check (B b : Nat) (bs : List Value) (w : World) (h : Lib.IsBuilder 60 5 B b bs w) :
    Calls Try.prog 65 #[.pointer (some ⟨b, 0, none⟩)] w fun e w' => e = .returned (.tuple #[]) ∧ (Lib.BuilderAt 60 5 B b (.pointer (some ⟨b, 0, none⟩)) bs w' ∧ Below B w w') := by
  rcases h with h | h
  · refine (bld_fresh b w h.cell0 h.shape h.frozen0).mono ?_
    rintro e w' ⟨rfl, rfl⟩
    exact ⟨rfl, h.used _, (Below.refl B w).setCell (p := ⟨b, 0, none⟩) h.1 _⟩
  · refine (bld_used b w h.cell0).mono ?_
    rintro e w' ⟨rfl, rfl⟩
    exact ⟨rfl, h, Below.refl B _⟩
set_option maxHeartbeats 2000000 in
set_option maxRecDepth 100000 in
theorem bld_write (B b : Nat) (bs : List Value) (s : ByteArray) (w : World) (h : Lib.IsBuilder 60 5 B b bs w) (hlen : bs.length + s.size ≤ 140737488355328) (hBw : B ≤ w.heap.size) :
    Calls Try.prog 46 #[.pointer (some ⟨b, 0, none⟩), .string s] w fun e w' => e = .returned (.tuple #[.int .i64 s.size, .nilIface]) ∧ (Lib.BuilderAt 60 5 B b (.pointer (some ⟨b, 0, none⟩)) (bs ++ Lib.strCells s) w' ∧ Below B w w') := by
  obtain ⟨i0, hi, hz0, hz1, hz2⟩ := info_parts (show (Try.prog.info? 5).map (fun i => (i.zero, i.size, i.bytes)) = some (some (.int .u8 0), 1, 1) by kernel_rfl)
  go_enter Try.func46, Try.ntmps46
  go_wp2_with (go_at_call 65; refine (bld_check B b bs _ h).mono ?_)
  rintro e w1 ⟨rfl, h1, hb1⟩
  obtain ⟨hB, v, hbk, hown, hne⟩ := h1
  have c0 : w1.cell? ⟨b, 0, none⟩ = some (.pointer (some ⟨b, 0, none⟩)) := by rw [Lib.cell_of_heap hbk]; rfl
  have c1 : w1.cell? ⟨b, 1, none⟩ = some v := by rw [Lib.cell_of_heap hbk]; rfl
  go_wp2_with (at_builtin; refine Lib.wpList_append_own_string _ rfl _ _ 27 9 rfl B 5 i0 Try.underlying27 Try.underlying9 hi hz0 hz1 hz2 _ _ _ rfl hown s rfl ?c3 ?c4 ?c5 ?_)
  case c3 => unfold maxLen; omega
  case c4 => omega
  case c5 => have := hb1.size; omega
  intro v' w2 hown' hgrow _
  have hlt : b < w1.heap.size := by
    rcases Nat.lt_or_ge b w1.heap.size with h' | h'
    · exact h'
    · simp [Array.getElem?_eq_none h'] at hbk
  have hb2 : w2.heap[b]? = some (.cells #[.pointer (some ⟨b, 0, none⟩), v] 60 (0, 0)) := by
    rw [hgrow.block b hlt (fun e => hne e.symm)]
    exact hbk
  have d0 : w2.cell? ⟨b, 0, none⟩ = some (.pointer (some ⟨b, 0, none⟩)) := by rw [Lib.cell_of_heap hb2]; rfl
  have d1 : w2.cell? ⟨b, 1, none⟩ = some v := by rw [Lib.cell_of_heap hb2]; rfl
  have f1 : w2.frozen? ⟨b, 1, none⟩ = false := Lib.frozen_of_heap hb2 1
  obtain ⟨ao, n', cap, rfl⟩ : ∃ ao n' cap, v' = .slice ao n' cap := by
    rcases hown'.2 with ⟨hv, _⟩ | ⟨g, cap, cur, hv, _⟩
    · exact ⟨_, _, _, hv⟩
    · exact ⟨_, _, _, hv⟩
  go_wp2
  go_ret2
  refine ⟨rfl, ?_, ?_⟩
  · exact Lib.BuilderAt.put (T := 60) (e := 5) hB hb2 (bs' := bs ++ Lib.strCells s) (by simpa [Lib.strCells_length] using hown') (by decide)
  · exact (hb1.grown hgrow (by have := hb1.size; omega) (fun k hk => (hown.lt k hk).1)).setCell (p := ⟨b, 1, none⟩) hB _
def rom_ren : Go.Shelf.Ren := ⟨fun | 169 => 47 | n => n, fun | 70 => 58 | 9 => 9 | 0 => 0 | 72 => 60 | 37 => 27 | 127 => 79 | 3 => 3 | 5 => 5 | n => n, fun | n => n⟩
theorem rom_lays : Go.Proofs.Lays.n169 Try.prog rom_ren := {
  mixed := by kernel_rfl
  f169 := Try.func47.trans (congrArg some (by kernel_rfl))
  t0 := Try.underlying0
  a0 := Try.isAgg0
  z0 := Try.sizeOf0
  v0 := Try.zeroValue0
  t3 := Try.underlying3
  a3 := Try.isAgg3
  z3 := Try.sizeOf3
  v3 := Try.zeroValue3
  t9 := Try.underlying9
  a9 := Try.isAgg9
  z9 := Try.sizeOf9
  v9 := Try.zeroValue9
  t37 := Try.underlying27
  a37 := Try.isAgg27
  z37 := Try.sizeOf27
  v37 := Try.zeroValue27
  t70 := Try.underlying58
  a70 := Try.isAgg58
  z70 := Try.sizeOf58
  v70 := Try.zeroValue58
  t72 := Try.underlying60
  a72 := Try.isAgg60
  z72 := Try.sizeOf60
  v72 := Try.zeroValue60
  t127 := Try.underlying79
  a127 := Try.isAgg79
  z127 := Try.sizeOf79
  v127 := Try.zeroValue79 }
theorem rom_extra : Go.Proofs.Builder.Extra Try.prog rom_ren := {
  sizeBuilder := by kernel_rfl
  liesBuilder := by kernel_rfl
  t5 := Try.underlying5
  a5 := Try.isAgg5
  z5 := Try.sizeOf5
  v5 := Try.zeroValue5
  infoByte := by kernel_rfl
  cellsByte := by kernel_rfl
  sizeByte := by kernel_rfl
  neB5 := by decide }
theorem rom_String (B b : Nat) (l : List UInt8) (w : World) (h : Lib.IsBuilder 60 5 B b (Lib.byteCells l) w) (hBw : B ≤ w.heap.size) :
    Calls Try.prog 47 #[.pointer (some ⟨b, 0, none⟩)] w fun e w' => e = .returned (.string ⟨l.toArray⟩) ∧ Below B w w' := Go.Proofs.Any.Builder_String_any rom_lays rom_extra B b l w h hBw
theorem rom_facts : ∀ i : Fin 13, 1 ≤ (romTab.getD i.val (0, [])).1 ∧ (romTab.getD i.val (0, [])).1 ≤ 1000 ∧ (romTab.getD i.val (0, [])).2.length ≤ 2 := by decide
theorem rom_drop (i : Nat) (h : i < 13) : romTab.drop i = romTab.getD i (0, []) :: romTab.drop (i + 1) := by
  have hl : i < romTab.length := h
  rw [List.drop_eq_getElem_cons hl]
  simp [List.getD_eq_getElem?_getD, hl]
def romVals : Array Value := #[.int .i64 1000, .int .i64 900, .int .i64 500, .int .i64 400, .int .i64 100, .int .i64 90, .int .i64 50, .int .i64 40, .int .i64 10, .int .i64 9, .int .i64 5, .int .i64 4, .int .i64 1]
def romMarks : Array Value := #[.string ⟨#[109]⟩, .string ⟨#[99, 109]⟩, .string ⟨#[100]⟩, .string ⟨#[99, 100]⟩, .string ⟨#[99]⟩, .string ⟨#[120, 99]⟩, .string ⟨#[108]⟩, .string ⟨#[120, 108]⟩, .string ⟨#[120]⟩, .string ⟨#[105, 120]⟩, .string ⟨#[118]⟩, .string ⟨#[105, 118]⟩, .string ⟨#[105]⟩]
theorem rom_at : ∀ i : Fin 13, romVals[i.val]? = some (.int .i64 (romTab.getD i.val (0, [])).1) ∧ romMarks[i.val]? = some (.string ⟨(romTab.getD i.val (0, [])).2.toArray⟩) := by
  intro i
  obtain ⟨i, hi⟩ := i
  match i, hi with
  | 0, _ | 1, _ | 2, _ | 3, _ | 4, _ | 5, _ | 6, _ | 7, _ | 8, _ | 9, _ | 10, _ | 11, _ | 12, _ => exact ⟨rfl, rfl⟩
  | n + 13, h => omega
theorem rom_cells (w : World) (H : Nat) (arr : Array Value) (t : TypeId) (h : w.heap[H]? = some (.cells arr t (0, 0))) (i : Nat) (v : Value) (hv : arr[i]? = some v) : w.cell? ⟨H, i, none⟩ = some v := by
  simp [World.cell?, h, hv]
theorem rom_blocks (w : World) (o1 o2 o3 : Obj) : (((w.alloc o1).alloc o2).alloc o3).heap[w.heap.size]? = some o1 ∧ (((w.alloc o1).alloc o2).alloc o3).heap[w.heap.size + 1]? = some o2 ∧ (((w.alloc o1).alloc o2).alloc o3).heap[w.heap.size + 2]? = some o3 ∧ (((w.alloc o1).alloc o2).alloc o3).heap.size = w.heap.size + 3 := by
  have s1 : (w.alloc o1).heap.size = w.heap.size + 1 := World.size_alloc _ _
  have s2 : ((w.alloc o1).alloc o2).heap.size = w.heap.size + 2 := by rw [World.size_alloc, s1]
  have s3 : (((w.alloc o1).alloc o2).alloc o3).heap.size = w.heap.size + 3 := by rw [World.size_alloc, s2]
  refine ⟨?_, ?_, ?_, s3⟩
  · rw [Lib.alloc_old _ _ _ (by omega), Lib.alloc_old _ _ _ (by omega)]; exact heap_alloc_new _ _
  · rw [Lib.alloc_old _ _ _ (by omega), ← s1]; exact heap_alloc_new _ _
  · rw [← s2]; exact heap_alloc_new _ _
set_option maxHeartbeats 4000000 in
set_option maxRecDepth 100000 in
theorem impl_RomanText.calls (a0 : Int) (r : ByteArray) (w : World) (h : impl_RomanText.f a0 = some r) :
    Calls Try.prog 13 #[.int .i64 a0] w fun e w' => e = .returned (.string r) ∧ Below w.heap.size w w' := by
  by_cases hr : 1 ≤ a0 ∧ a0 ≤ 3999
  · have hf : impl_RomanText.f a0 = some ⟨(romAll romTab a0 []).toArray⟩ := if_pos hr
    have hv := Option.some.inj (hf.symm.trans h)
    have HV := Aside0.mk hv
    have h1 := hr.1
    have h2 := hr.2
    have HRng := Aside0.mk (show impl_inRange.f a0 1 3999 = some true by rw [rom_range, decide_eq_true hr])
    clear h hf hv hr
    go_enter Try.func13, Try.ntmps13
    go_wp2_with (go_at_call 45; (with_reducible refine (impl_inRange.calls a0 1 3999 true _ HRng.out).mono ?_); rintro e w' ⟨rfl, ⟨nd, rfl⟩⟩)
    generalize hW : (((w.drewN nd).alloc (Obj.cells #[Value.int IntKind.i64 1000, Value.int IntKind.i64 900, Value.int IntKind.i64 500, Value.int IntKind.i64 400, Value.int IntKind.i64 100, Value.int IntKind.i64 90, Value.int IntKind.i64 50, Value.int IntKind.i64 40, Value.int IntKind.i64 10, Value.int IntKind.i64 9, Value.int IntKind.i64 5, Value.int IntKind.i64 4, Value.int IntKind.i64 1] 2)).alloc (Obj.cells #[Value.string { data := #[109] }, Value.string { data := #[99, 109] }, Value.string { data := #[100] }, Value.string { data := #[99, 100] }, Value.string { data := #[99] }, Value.string { data := #[120, 99] }, Value.string { data := #[108] }, Value.string { data := #[120, 108] }, Value.string { data := #[120] }, Value.string { data := #[105, 120] }, Value.string { data := #[118] }, Value.string { data := #[105, 118] }, Value.string { data := #[105] }] 9)).alloc (Obj.cells #[Value.pointer none, Value.slice none 0 0] 60) = W0
    obtain ⟨hbV, hbM, hbB, hsz⟩ := rom_blocks (w.drewN nd) (Obj.cells romVals 2) (Obj.cells romMarks 9) (Obj.cells #[Value.pointer none, Value.slice none 0 0] 60)
    have hB0 : Below w.heap.size w W0 := by rw [← hW]; exact below_alloc (below_alloc (below_alloc (pw_below_drewN (Below.refl _ _) _) _) _) _
    have hW2 : (((w.drewN nd).alloc (Obj.cells romVals 2)).alloc (Obj.cells romMarks 9)).alloc (Obj.cells #[Value.pointer none, Value.slice none 0 0] 60) = W0 := hW
    rw [hW2] at hbV hbM hbB hsz
    replace hbV : W0.heap[w.heap.size]? = some (.cells romVals 2 (0, 0)) := hbV
    replace hbM : W0.heap[w.heap.size + 1]? = some (.cells romMarks 9 (0, 0)) := hbM
    replace hbB : W0.heap[w.heap.size + 2]? = some (.cells #[.pointer none, .slice none 0 0] 60 (0, 0)) := hbB
    replace hsz : W0.heap.size = w.heap.size + 3 := hsz
    clear hW2
    clear hW
    have hBB := Aside0.mk (show Lib.IsBuilder 60 5 (w.heap.size + 1 + 1) (w.heap.size + 1 + 1) (Lib.byteCells []) W0 from .inl ⟨Nat.le_refl _, .slice none 0 0, hbB, own_nil _ _ _ _, by simp [Value.ownBlock]⟩)
    have HSZ := Aside0.mk hsz
    have HB0 := Aside0.mk hB0
    have HBV := Aside0.mk hbV
    have HBM := Aside0.mk hbM
    clear hsz hB0 hbV hbM hbB
    go_loopw [0, 15] (fun v0 v15 wr => ∃ (i : Nat) (n : Int) (acc : List UInt8), v15 = .int .i64 (i : Int) ∧ v0 = .int .i64 n ∧ Aside0 (i ≤ 13 ∧ 0 ≤ n ∧ n ≤ 3999 ∧ (acc.length : Int) + 2 * n ≤ 8000) ∧ Aside0 (romAll (romTab.drop i) n acc = romAll romTab a0 []) ∧ Aside0 (Lib.IsBuilder 60 5 (w.heap.size + 1 + 1) (w.heap.size + 1 + 1) (Lib.byteCells acc) wr) ∧ Aside0 (Below (w.heap.size + 1 + 1) W0 wr)) (fun _ v15 _ => 13 - (intOf v15).toNat)
    case atStart => exact ⟨0, a0, [], rfl, rfl, ⟨by omega, by omega, by omega, by simp; omega⟩, ⟨rfl⟩, hBB, ⟨Below.refl _ _⟩⟩
    case round =>
      obtain ⟨i, n, acc, rfl, rfl, HN, HR, HI, HL⟩ := hrel
      clear hBB
      by_cases hlt : i < 13
      · obtain ⟨f1, f2, f3⟩ := rom_facts ⟨i, hlt⟩
        obtain ⟨g1, g2⟩ := rom_at ⟨i, hlt⟩
        have HR2 := HR.out
        rw [rom_drop i hlt, romAll] at HR2
        simp only at f1 f2 f3 g1 g2
        have cV := rom_cells wr w.heap.size romVals 2 ((HL.out.block _ (by omega)).trans HBV.out) i _ g1
        have cM := Aside0.mk g2
        clear g1 g2
        generalize (romTab.getD i (0, [])) = p at HR2 f1 f2 f3 cV cM
        obtain ⟨v, m⟩ := p
        simp only at HR2 f1 f2 f3 cV cM
        have HR3 := Aside0.mk HR2
        have F3 := Aside0.mk f3
        clear HR HR2 f3
        obtain ⟨_, hn0, hn1, hn2⟩ := HN.out
        have HN2 := Aside0.mk hn2
        clear hn2
        have hd13 : decide ((i : Int) < 13) = true := decide_eq_true (by omega)
        go_wp2
        obtain ⟨wo, hwo⟩ : ∃ wo : World, wo = wr := ⟨_, rfl⟩
        rw [← hwo]
        have HI2 := Aside0.mk (show Lib.IsBuilder 60 5 (w.heap.size + 1 + 1) (w.heap.size + 1 + 1) (Lib.byteCells acc) wo by rw [hwo]; exact HI.out)
        have HL2 := Aside0.mk (show Below (w.heap.size + 1 + 1) W0 wo by rw [hwo]; exact HL.out)
        clear cV HI HL
        go_loopw [0] (fun v0 w2 => ∃ (n : Int) (acc : List UInt8) (k : Nat), v0 = .int .i64 n ∧ Aside0 (0 ≤ n ∧ n ≤ 3999 ∧ n < k ∧ (acc.length : Int) + 2 * n ≤ 8000) ∧ Aside0 (romAll (romTab.drop (i + 1)) (romStep v m k n acc).1 (romStep v m k n acc).2 = romAll romTab a0 []) ∧ Aside0 (Lib.IsBuilder 60 5 (w.heap.size + 1 + 1) (w.heap.size + 1 + 1) (Lib.byteCells acc) w2) ∧ Aside0 (Below (w.heap.size + 1 + 1) W0 w2)) (fun v0 _ => (intOf v0).toNat)
        case atStart => exact ⟨n, acc, 4000, rfl, ⟨by have := HN.out; omega, by have := HN.out; omega, by have := HN.out; omega, HN2.out⟩, HR3, HI2, HL2⟩
        case round =>
          clear HN HN2 HR3 HI2 HL2 hn0 hn1 hwo
          obtain ⟨n, acc, k, rfl, HN, HR, HI, HL⟩ := hrel
          obtain ⟨hn0, hn1, hk, hn2⟩ := HN.out
          cases k with
          | zero => exact absurd hk (by omega)
          | succ k =>
            have HR2 := HR.out
            rw [romStep] at HR2
            by_cases hv : v ≤ n
            · rw [if_pos hv] at HR2
              have HR3 := Aside0.mk HR2
              clear HR HR2
              have hm3 := F3.out
              have cM2 := rom_cells wr (w.heap.size + 1) romMarks 9 ((HL.out.block _ (by omega)).trans HBM.out) i _ cM.out
              have HSM := Aside0.mk (show (Lib.byteCells acc).length + (⟨m.toArray⟩ : ByteArray).size ≤ 140737488355328 by rw [Lib.byteCells_length]; show acc.length + m.toArray.size ≤ _; rw [List.size_toArray]; omega)
              have HSZ2 := Aside0.mk (show w.heap.size + 1 + 1 ≤ wr.heap.size by have := HL.out.size; have := HSZ.out; omega)
              clear hk hn2
              go_wp2_with (go_at_call 46; (with_reducible refine (bld_write (w.heap.size + 1 + 1) (w.heap.size + 1 + 1) (Lib.byteCells acc) ⟨m.toArray⟩ _ HI.out HSM.out HSZ2.out).mono ?_); rintro e w' ⟨rfl, hb1, hb2⟩; have HI3 := Aside0.mk hb1; have HL3 := Aside0.mk hb2; clear hb1 hb2)
              go_roundw
              case rel => exact ⟨n - v, acc ++ m, k, by go_num, ⟨by omega, by omega, by have := HN.out; omega, by have := HN.out; rw [List.length_append]; omega⟩, HR3, ⟨.inr (by rw [Lib.byteCells_append]; exact HI3.out)⟩, ⟨HL.out.trans HL3.out⟩⟩
              case measure => simp [intOf]; omega
            · rw [if_neg hv] at HR2
              have HR3 := Aside0.mk HR2
              clear HR HR2
              go_wp2
              go_roundw
              case rel => exact ⟨i + 1, n, acc, by go_num, rfl, ⟨by omega, by omega, by omega, by omega⟩, HR3, HI, HL⟩
              case measure => simp [intOf]; omega
      · obtain ⟨hi, hn0, hn1, hn2⟩ := HN.out
        have HR2 := HR.out
        rw [show romTab.drop i = [] from List.drop_of_length_le (by show 13 ≤ i; omega), romAll] at HR2
        have HR3 := Aside0.mk HR2
        have HSZ2 := Aside0.mk (show w.heap.size + 1 + 1 ≤ wr.heap.size by have := HL.out.size; have := HSZ.out; omega)
        clear HR HR2 hi hn0 hn1 hn2
        go_wp2_with (go_at_call 47; (with_reducible refine (rom_String (w.heap.size + 1 + 1) (w.heap.size + 1 + 1) acc _ HI.out HSZ2.out).mono ?_); rintro e w' ⟨rfl, hb⟩; have HL3 := Aside0.mk hb; clear hb)
        go_ret
        rw [← HV.out, ← HR3.out]
        exact ⟨rfl, HB0.out.trans ((HL.out.trans HL3.out).mono (by omega))⟩
  · have hf : impl_RomanText.f a0 = some ⟨#[]⟩ := if_neg hr
    have hv := Option.some.inj (hf.symm.trans h)
    have HV := Aside0.mk hv
    have HRng := Aside0.mk (show impl_inRange.f a0 1 3999 = some false by rw [rom_range, decide_eq_false hr])
    clear h hf hv hr
    go_enter Try.func13, Try.ntmps13
    go_wp2_with (go_at_call 45; (with_reducible refine (impl_inRange.calls a0 1 3999 false _ HRng.out).mono ?_); rintro e w' ⟨rfl, ⟨nd, rfl⟩⟩)
    go_ret
    rw [← HV.out]
    exact ⟨rfl, pw_below_drewN (Below.refl _ _) _⟩

/-! ### spec_ReadRoman: function 14 -/
def spec_ReadRoman.l0 : Nat → ByteArray → Int → Option (Int × Bool)
  | 0, _, _ => none
  | k + 1, x0, x4 => if x4 ≤ 3999 then ((spec_RomanText.f k x4).bind fun t108 => (if t108.toList = x0.toList then (some (x4, true)) else (spec_ReadRoman.l0 k x0 (wrap64 (x4 + 1))))) else (some (0, false))
def spec_ReadRoman.f (k : Nat) (a0 : ByteArray) : Option (Int × Bool) := spec_ReadRoman.l0 k a0 1
theorem spec_ReadRoman.mono_l : ∀ k, (∀ y0 y1, LeO (spec_ReadRoman.l0 k y0 y1) (spec_ReadRoman.l0 (k + 1) y0 y1))
  | 0 => fun _ _ r h => by simp [spec_ReadRoman.l0] at h
  | k + 1 => by
    have ih0 := spec_ReadRoman.mono_l k
    · intro y0 y1
      unfold spec_ReadRoman.l0
      repeat' first
      | (with_reducible exact ih0 _ _)
      | (with_reducible exact spec_RomanText.mono _ _)
      | (with_reducible exact LeO.refl _)
      | (with_reducible exact LeO.none _)
      | (with_reducible refine LeO.ite ?_ ?_)
      | (with_reducible refine LeO.bind ?_ (fun _ => ?_))
      | exact ih0 _ _
      | exact spec_RomanText.mono _ _
      | exact LeO.none _
      | refine LeO.ite ?_ ?_
      | refine LeO.bind ?_ (fun _ => ?_)
theorem spec_ReadRoman.mono : ∀ a0 k, LeO (spec_ReadRoman.f k a0) (spec_ReadRoman.f (k + 1) a0) := by
  intro a0 k
  have ih0 := spec_ReadRoman.mono_l k
  unfold spec_ReadRoman.f
  repeat' first
      | (with_reducible exact ih0 _ _)
      | (with_reducible exact spec_RomanText.mono _ _)
      | (with_reducible exact LeO.refl _)
      | (with_reducible exact LeO.none _)
      | (with_reducible refine LeO.ite ?_ ?_)
      | (with_reducible refine LeO.bind ?_ (fun _ => ?_))
      | exact ih0 _ _
      | exact spec_RomanText.mono _ _
      | exact LeO.none _
      | refine LeO.ite ?_ ?_
      | refine LeO.bind ?_ (fun _ => ?_)
set_option maxHeartbeats 8000000 in
set_option maxRecDepth 100000 in
theorem spec_ReadRoman.calls (k : Nat) (a0 : ByteArray) (r1 : Int) (r2 : Bool) (w : World) (h : spec_ReadRoman.f k a0 = some (r1, r2)) :
    Calls Try.prog 14 #[.string a0] w fun e w' => e = .returned (.tuple #[.int .i64 r1, .bool r2]) ∧ Drawn0 w w' := by
  have H : (spec_ReadRoman.l0 k a0 1) = some (r1, r2) := h
  clear h
  have H' := Aside0.mk H
  clear H
  go_enter Try.func14, Try.ntmps14
  go_wp2
  go_loopg [4] k (fun kq v4 w' => ∃ (x4_1 : Int), v4 = .int .i64 x4_1 ∧ Aside0 (spec_ReadRoman.l0 kq a0 x4_1 = some (r1, r2)) ∧ Aside0 (kq ≤ k) ∧ Drawn0 w w')
  case atStart => exact ⟨(1), (by first | rfl | (simp; done) | (simp [*]; done)), H', ⟨Nat.le_refl _⟩, by repeat (first | exact Drawn0.refl _ | apply Drawn0.step)⟩
  case round =>
    clear H'
    try clear c1
    obtain ⟨x4_1, rfl, HA, HK1, ⟨m1, rfl⟩⟩ := hrel
    cases gk with
    | zero => exact absurd HA.out (by simp [spec_ReadRoman.l0])
    | succ k1 =>
      have H := HA.out
      clear HA
      simp only [spec_ReadRoman.l0] at H
      by_cases c2 : x4_1 ≤ 3999
      · rw [if_pos c2] at H
        have c2b0 : decide (x4_1 ≤ 3999) = true := decide_eq_true c2
        clear c2
        replace H := Option.bind_eq_some_iff.mp H
        obtain ⟨t108, A30, H⟩ := H
        replace H : (if t108.toList = a0.toList then (some (x4_1, true)) else (spec_ReadRoman.l0 k1 a0 (wrap64 (x4_1 + 1)))) = some (r1, r2) := H
        have A3 := Aside0.mk A30
        clear A30
        by_cases c4 : t108.toList = a0.toList
        · rw [if_pos c4] at H
          have c4b0 : (t108.toList == a0.toList) = true := beq_iff_eq.mpr c4
          have c4b1 : (t108.toList != a0.toList) = false := bne_eq_false_iff_eq.mpr c4
          clear c4
          simp only [Option.some.injEq, Prod.mk.injEq] at H
          obtain ⟨rfl, rfl⟩ := H
          go_wp2_with (first | ((with_reducible refine gate_callee (f := 12) rfl ?_); refine goesL_ (some 10) rfl rfl Try.func12 (by kernel_rfl) rfl #[.int .i64 x4_1] rfl (by (try simp only [List.map_toArray, List.map_cons, List.map_nil]); first | done | rfl | (simp only [List.length_drop, List.length_take]; rfl)) ?_; (with_reducible refine (spec_RomanText.calls k1 x4_1 t108 _ A3.out).mono ?_); rintro e w' ⟨rfl, ⟨nd, rfl⟩⟩; refine ⟨_, rfl, ?_⟩))
          go_ret2
          exact ⟨by first | rfl | (simp only [Go.IntWalk.i64_left]; first | done | rfl) | (simp; done) | (simp [*]; done), by repeat (first | exact Drawn0.refl _ | apply Drawn0.step)⟩
        · rw [if_neg c4] at H
          have c4b0 : (t108.toList == a0.toList) = false := beq_eq_false_iff_ne.mpr c4
          have c4b1 : (t108.toList != a0.toList) = true := bne_iff_ne.mpr c4
          have H' := Aside0.mk H
          clear H
          go_wp2_with (first | ((with_reducible refine gate_callee (f := 12) rfl ?_); refine goesL_ (some 10) rfl rfl Try.func12 (by kernel_rfl) rfl #[.int .i64 x4_1] rfl (by (try simp only [List.map_toArray, List.map_cons, List.map_nil]); first | done | rfl | (simp only [List.length_drop, List.length_take]; rfl)) ?_; (with_reducible refine (spec_RomanText.calls k1 x4_1 t108 _ A3.out).mono ?_); rintro e w' ⟨rfl, ⟨nd, rfl⟩⟩; refine ⟨_, rfl, ?_⟩))
          go_roundg k1
          case measure => have := HK1.out; omega
          case rel => exact ⟨(wrap64 (x4_1 + 1)), (by first | rfl | (simp; done) | (simp [*]; done)), H', ⟨by have := HK1.out; omega⟩, by repeat (first | exact Drawn0.refl _ | apply Drawn0.step)⟩
      · rw [if_neg c2] at H
        have c2b0 : decide (x4_1 ≤ 3999) = false := decide_eq_false c2
        clear c2
        simp only [Option.some.injEq, Prod.mk.injEq] at H
        obtain ⟨rfl, rfl⟩ := H
        go_wp2
        go_ret2
        exact ⟨by first | rfl | (simp only [Go.IntWalk.i64_left]; first | done | rfl) | (simp; done) | (simp [*]; done), by repeat (first | exact Drawn0.refl _ | apply Drawn0.step)⟩

/-! ### impl_ReadRoman: function 15 -/
def impl_ReadRoman.l0 : Nat → ByteArray → Int → Option (Int × Bool)
  | 0, _, _ => none
  | k + 1, x0, x4 => if x4 ≤ 3999 then ((impl_RomanText.f x4).bind fun t109 => (if t109.toList = x0.toList then (some (x4, true)) else (impl_ReadRoman.l0 k x0 (wrap64 (x4 + 1))))) else (some (0, false))
def impl_ReadRoman.f (k : Nat) (a0 : ByteArray) : Option (Int × Bool) := impl_ReadRoman.l0 k a0 1
theorem impl_ReadRoman.mono_l : ∀ k, (∀ y0 y1, LeO (impl_ReadRoman.l0 k y0 y1) (impl_ReadRoman.l0 (k + 1) y0 y1))
  | 0 => fun _ _ r h => by simp [impl_ReadRoman.l0] at h
  | k + 1 => by
    have ih0 := impl_ReadRoman.mono_l k
    · intro y0 y1
      unfold impl_ReadRoman.l0
      repeat' first
      | (with_reducible exact ih0 _ _)
      | (with_reducible exact LeO.refl _)
      | (with_reducible exact LeO.none _)
      | (with_reducible refine LeO.ite ?_ ?_)
      | (with_reducible refine LeO.bind ?_ (fun _ => ?_))
      | exact ih0 _ _
      | exact LeO.none _
      | refine LeO.ite ?_ ?_
      | refine LeO.bind ?_ (fun _ => ?_)
theorem impl_ReadRoman.mono : ∀ a0 k, LeO (impl_ReadRoman.f k a0) (impl_ReadRoman.f (k + 1) a0) := by
  intro a0 k
  have ih0 := impl_ReadRoman.mono_l k
  unfold impl_ReadRoman.f
  repeat' first
      | (with_reducible exact ih0 _ _)
      | (with_reducible exact LeO.refl _)
      | (with_reducible exact LeO.none _)
      | (with_reducible refine LeO.ite ?_ ?_)
      | (with_reducible refine LeO.bind ?_ (fun _ => ?_))
      | exact ih0 _ _
      | exact LeO.none _
      | refine LeO.ite ?_ ?_
      | refine LeO.bind ?_ (fun _ => ?_)
set_option maxHeartbeats 8000000 in
set_option maxRecDepth 100000 in
theorem impl_ReadRoman.calls (k : Nat) (a0 : ByteArray) (r1 : Int) (r2 : Bool) (w : World) (h : impl_ReadRoman.f k a0 = some (r1, r2)) :
    Calls Try.prog 15 #[.string a0] w fun e w' => e = .returned (.tuple #[.int .i64 r1, .bool r2]) ∧ Below w.heap.size w w' := by
  have HB := Aside0.mk (Below.refl w.heap.size w)
  have H : (impl_ReadRoman.l0 k a0 1) = some (r1, r2) := h
  clear h
  have H' := Aside0.mk H
  clear H
  go_enter Try.func15, Try.ntmps15
  go_wp2
  go_loopg [4] k (fun kq v4 w' => ∃ (x4_1 : Int), v4 = .int .i64 x4_1 ∧ Aside0 (impl_ReadRoman.l0 kq a0 x4_1 = some (r1, r2)) ∧ Aside0 (kq ≤ k) ∧ Aside0 (Below w.heap.size w w'))
  case atStart => exact ⟨(1), (by first | rfl | (simp; done) | (simp [*]; done)), H', ⟨Nat.le_refl _⟩, ⟨by repeat (first | (with_reducible first | exact HB.out | apply below_alloc | apply pw_below_drewN | apply below_drew1) | exact HB.out)⟩⟩
  case round =>
    clear H'
    try clear c1
    obtain ⟨x4_1, rfl, HA, HK1, HB⟩ := hrel
    cases gk with
    | zero => exact absurd HA.out (by simp [impl_ReadRoman.l0])
    | succ k1 =>
      have H := HA.out
      clear HA
      simp only [impl_ReadRoman.l0] at H
      by_cases c2 : x4_1 ≤ 3999
      · rw [if_pos c2] at H
        have c2b0 : decide (x4_1 ≤ 3999) = true := decide_eq_true c2
        clear c2
        replace H := Option.bind_eq_some_iff.mp H
        obtain ⟨t109, A30, H⟩ := H
        replace H : (if t109.toList = a0.toList then (some (x4_1, true)) else (impl_ReadRoman.l0 k1 a0 (wrap64 (x4_1 + 1)))) = some (r1, r2) := H
        have A3 := Aside0.mk A30
        clear A30
        by_cases c4 : t109.toList = a0.toList
        · rw [if_pos c4] at H
          have c4b0 : (t109.toList == a0.toList) = true := beq_iff_eq.mpr c4
          have c4b1 : (t109.toList != a0.toList) = false := bne_eq_false_iff_eq.mpr c4
          clear c4
          simp only [Option.some.injEq, Prod.mk.injEq] at H
          obtain ⟨rfl, rfl⟩ := H
          go_wp2_with (first | ((with_reducible refine gate_callee (f := 13) rfl ?_); refine goesL_ (some 10) rfl rfl Try.func13 (by kernel_rfl) rfl #[.int .i64 x4_1] rfl (by (try simp only [List.map_toArray, List.map_cons, List.map_nil]); first | done | rfl | (simp only [List.length_drop, List.length_take]; rfl)) ?_; (with_reducible refine (impl_RomanText.calls x4_1 t109 _ A3.out).mono ?_); rintro e w5 ⟨rfl, hb⟩; refine ⟨_, rfl, ?_⟩; have n0_ := Aside0.mk (below_step (by repeat (first | (with_reducible first | exact HB.out | apply below_alloc | apply pw_below_drewN | apply below_drew1) | exact HB.out)) hb); clear HB; have HB := n0_; clear n0_; (try clear hb); (try clear hb2); (try clear hk); (try clear hi)))
          go_ret2
          exact ⟨by first | rfl | (simp only [Go.IntWalk.i64_left]; first | done | rfl) | (simp [errW_none, errW_some] <;> rfl) | (simp [*, errW_none, errW_some] <;> rfl), by repeat (first | (with_reducible first | exact HB.out | apply below_alloc | apply pw_below_drewN | apply below_drew1) | exact HB.out)⟩
        · rw [if_neg c4] at H
          have c4b0 : (t109.toList == a0.toList) = false := beq_eq_false_iff_ne.mpr c4
          have c4b1 : (t109.toList != a0.toList) = true := bne_iff_ne.mpr c4
          have H' := Aside0.mk H
          clear H
          go_wp2_with (first | ((with_reducible refine gate_callee (f := 13) rfl ?_); refine goesL_ (some 10) rfl rfl Try.func13 (by kernel_rfl) rfl #[.int .i64 x4_1] rfl (by (try simp only [List.map_toArray, List.map_cons, List.map_nil]); first | done | rfl | (simp only [List.length_drop, List.length_take]; rfl)) ?_; (with_reducible refine (impl_RomanText.calls x4_1 t109 _ A3.out).mono ?_); rintro e w6 ⟨rfl, hb⟩; refine ⟨_, rfl, ?_⟩; have n0_ := Aside0.mk (below_step (by repeat (first | (with_reducible first | exact HB.out | apply below_alloc | apply pw_below_drewN | apply below_drew1) | exact HB.out)) hb); clear HB; have HB := n0_; clear n0_; (try clear hb); (try clear hb2); (try clear hk); (try clear hi)))
          go_roundg k1
          case measure => have := HK1.out; omega
          case rel => exact ⟨(wrap64 (x4_1 + 1)), (by first | rfl | (simp; done) | (simp [*]; done)), H', ⟨by have := HK1.out; omega⟩, ⟨by repeat (first | (with_reducible first | exact HB.out | apply below_alloc | apply pw_below_drewN | apply below_drew1) | exact HB.out)⟩⟩
      · rw [if_neg c2] at H
        have c2b0 : decide (x4_1 ≤ 3999) = false := decide_eq_false c2
        clear c2
        simp only [Option.some.injEq, Prod.mk.injEq] at H
        obtain ⟨rfl, rfl⟩ := H
        go_wp2
        go_ret2
        exact ⟨by first | rfl | (simp only [Go.IntWalk.i64_left]; first | done | rfl) | (simp [errW_none, errW_some] <;> rfl) | (simp [*, errW_none, errW_some] <;> rfl), by repeat (first | (with_reducible first | exact HB.out | apply below_alloc | apply pw_below_drewN | apply below_drew1) | exact HB.out)⟩

/-! ### laws_big: function 16 -/
def laws_big.f (l0 : List Int) : Option (Bool) := some (decide ((l0.length : Int) > 4096))
set_option maxHeartbeats 8000000 in
set_option maxRecDepth 100000 in
theorem laws_big.calls (A0 : Option Addr) (c0 : Nat) (l0 : List Int) (r : Bool) (w : World) (hr0 : Kd.C (Kd.int .u8) w A0 l0.length l0) (hc0 : l0.length ≤ c0) (h : laws_big.f l0 = some r) :
    Calls Try.prog 16 #[.slice A0 l0.length c0] w fun e w' => e = .returned (.bool r) ∧ Drawn0 w w' := by
  have HR0 := Aside0.mk hr0
  have HC0 := Aside0.mk hc0
  clear hr0 hc0
  have H : (some (decide ((l0.length : Int) > 4096))) = some r := h
  clear h
  obtain rfl := Option.some.inj H
  go_enter Try.func16, Try.ntmps16
  go_wp2
  go_ret
  exact ⟨by first | rfl | (simp only [Go.IntWalk.i64_left]; first | done | rfl) | (simp; done) | (simp [*]; done), by repeat (first | exact Drawn0.refl _ | apply Drawn0.step)⟩

end Go.Proofs.Ytcgjeglkgdakcaa.QFnRomans
