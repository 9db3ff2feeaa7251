-- Written by own_print.py of this session's repo over the kit's print (its output, turned at some places).
import Derived.Test.YtcgjeglkgdakcaaQFnRomansx0
import Derived.Test.YtcgjeglkgdakcaaQFnRomansx1
import Derived.Test.YtcgjeglkgdakcaaQFnRomansx2
namespace Go.Proofs.Ytcgjeglkgdakcaa.QFnRomans
open Go.RowKit Go.Proofs.YtcgjeglkgdakcaaW.PrintWords Go.Proofs.YtcgjeglkgdakcaaW.PrintLast Go.Proofs.YtcgjeglkgdakcaaW.PrintMore
attribute [local go_sem] max2_int min2_int max_two min_two max_three min_three max_four min_four   -- for this text's walks alone
set_option linter.unusedVariables false
set_option linter.unusedSimpArgs false

/-! ### spec_DrawReadRoman: function 18 -/
def spec_DrawReadRoman.f (k : Nat) (l0 : List Int) : Option (ByteArray) := (spec_l01From.f k l0).bind fun bt140 => ((spec_l01Next.f bt140.1 bt140.2.1 bt140.2.2 4000).bind fun bt144 => ((spec_RomanText.f k (wrap64 (1 + bt144.1))).bind fun t147 => ((spec_l01Next.f bt140.1 bt144.2.1 bt144.2.2 3).bind fun bt148 => (if bt148.1 = 0 then ((spec_l01Next.f bt140.1 bt148.2.1 bt148.2.2 (wrap64 ((t147.size : Int) + 1))).bind fun bt151 => (if 0 ≤ bt151.1 then (if bt151.1 ≤ (t147.size : Int) then ((some (([(⟨#[105]⟩ : ByteArray), (⟨#[118]⟩ : ByteArray), (⟨#[120]⟩ : ByteArray), (⟨#[99]⟩ : ByteArray), (⟨#[109]⟩ : ByteArray), (⟨#[97]⟩ : ByteArray)] : List ByteArray) : List ByteArray)).bind fun y154 => ((spec_l01Next.f bt140.1 bt151.2.1 bt151.2.2 6).bind fun bt157 => (if 0 ≤ bt157.1 then (if bt157.1 < (y154.length : Int) then (if (t147.extract 0 (bt151.1 : Int).toNat).size + (rdOf ByteArray.empty y154 bt157.1).size ≤ 9223372036854775807 then (if ((t147.extract 0 (bt151.1 : Int).toNat) ++ (rdOf ByteArray.empty y154 bt157.1)).size + (t147.extract (bt151.1 : Int).toNat t147.size).size ≤ 9223372036854775807 then (some (((t147.extract 0 (bt151.1 : Int).toNat) ++ (rdOf ByteArray.empty y154 bt157.1)) ++ (t147.extract (bt151.1 : Int).toNat t147.size))) else (none)) else (none)) else (none)) else (none)))) else (none)) else (none))) else (some t147)))))
theorem spec_DrawReadRoman.mono : ∀ a0 k, LeO (spec_DrawReadRoman.f k a0) (spec_DrawReadRoman.f (k + 1) a0) := by
  intro a0 k
  unfold spec_DrawReadRoman.f
  repeat' first
      | (with_reducible exact spec_RomanText.mono _ _)
      | (with_reducible exact spec_l01From.mono _ _)
      | (with_reducible exact LeO.refl _)
      | (with_reducible exact LeO.none _)
      | (with_reducible refine LeO.ite ?_ ?_)
      | (with_reducible refine LeO.bind ?_ (fun _ => ?_))
      | exact spec_RomanText.mono _ _
      | exact spec_l01From.mono _ _
      | exact LeO.none _
      | refine LeO.ite ?_ ?_
      | refine LeO.bind ?_ (fun _ => ?_)
def spec_DrawReadRoman.T5 : Bool × List (List Nat × List Nat) := (true, [([], []), ([], []), ([0, 1], [0, 1]), ([], []), ([], []), ([4], [4]), ([3, 5], [3, 5]), ([6], [6]), ([2, 7], [2, 7]), ([], []), ([], []), ([9, 10], [9, 10]), ([8, 11], [8, 11]), ([12, 5, 0, 1, 2, 3, 4, 5, 6, 7, 8, 9, 10, 11, 12], [12])])
def spec_DrawReadRoman.B5 : List Nat := [0, 0, 3, 0, 0, 16, 56, 120, 255, 0, 0, 1536, 4095, 8191]
theorem spec_DrawReadRoman.tab5 : rtab .any (opsOf Try.f18 5) = spec_DrawReadRoman.T5 := by kernel_rfl
theorem spec_DrawReadRoman.bits5 : waitsOk spec_DrawReadRoman.T5.2 spec_DrawReadRoman.B5 = true := by kernel_rfl
set_option maxHeartbeats 8000000 in
set_option maxRecDepth 100000 in
theorem spec_DrawReadRoman.calls (k : Nat) (A0 : Option Addr) (c0 : Nat) (l0 : List Int) (r : ByteArray) (w : World) (hr0 : Kd.C (Kd.int .u8) w A0 l0.length l0) (hc0 : l0.length ≤ c0) (h : spec_DrawReadRoman.f k l0 = some r) :
    Calls Try.prog 18 #[.slice A0 l0.length c0] w fun e w' => e = .returned (.string r) ∧ Below w.heap.size w w' := by
  have HR0 := Aside0.mk hr0
  have HC0 := Aside0.mk hc0
  clear hr0 hc0
  have HB := Aside0.mk (Below.refl w.heap.size w)
  have H : ((spec_l01From.f k l0).bind fun bt140 => ((spec_l01Next.f bt140.1 bt140.2.1 bt140.2.2 4000).bind fun bt144 => ((spec_RomanText.f k (wrap64 (1 + bt144.1))).bind fun t147 => ((spec_l01Next.f bt140.1 bt144.2.1 bt144.2.2 3).bind fun bt148 => (if bt148.1 = 0 then ((spec_l01Next.f bt140.1 bt148.2.1 bt148.2.2 (wrap64 ((t147.size : Int) + 1))).bind fun bt151 => (if 0 ≤ bt151.1 then (if bt151.1 ≤ (t147.size : Int) then ((some (([(⟨#[105]⟩ : ByteArray), (⟨#[118]⟩ : ByteArray), (⟨#[120]⟩ : ByteArray), (⟨#[99]⟩ : ByteArray), (⟨#[109]⟩ : ByteArray), (⟨#[97]⟩ : ByteArray)] : List ByteArray) : List ByteArray)).bind fun y154 => ((spec_l01Next.f bt140.1 bt151.2.1 bt151.2.2 6).bind fun bt157 => (if 0 ≤ bt157.1 then (if bt157.1 < (y154.length : Int) then (if (t147.extract 0 (bt151.1 : Int).toNat).size + (rdOf ByteArray.empty y154 bt157.1).size ≤ 9223372036854775807 then (if ((t147.extract 0 (bt151.1 : Int).toNat) ++ (rdOf ByteArray.empty y154 bt157.1)).size + (t147.extract (bt151.1 : Int).toNat t147.size).size ≤ 9223372036854775807 then (some (((t147.extract 0 (bt151.1 : Int).toNat) ++ (rdOf ByteArray.empty y154 bt157.1)) ++ (t147.extract (bt151.1 : Int).toNat t147.size))) else (none)) else (none)) else (none)) else (none)))) else (none)) else (none))) else (some t147)))))) = some r := h
  clear h
  replace H := Option.bind_eq_some_iff.mp H
  obtain ⟨⟨t140, t141, t142⟩, A20, H⟩ := H
  replace H : ((spec_l01Next.f t140 t141 t142 4000).bind fun bt144 => ((spec_RomanText.f k (wrap64 (1 + bt144.1))).bind fun t147 => ((spec_l01Next.f t140 bt144.2.1 bt144.2.2 3).bind fun bt148 => (if bt148.1 = 0 then ((spec_l01Next.f t140 bt148.2.1 bt148.2.2 (wrap64 ((t147.size : Int) + 1))).bind fun bt151 => (if 0 ≤ bt151.1 then (if bt151.1 ≤ (t147.size : Int) then ((some (([(⟨#[105]⟩ : ByteArray), (⟨#[118]⟩ : ByteArray), (⟨#[120]⟩ : ByteArray), (⟨#[99]⟩ : ByteArray), (⟨#[109]⟩ : ByteArray), (⟨#[97]⟩ : ByteArray)] : List ByteArray) : List ByteArray)).bind fun y154 => ((spec_l01Next.f t140 bt151.2.1 bt151.2.2 6).bind fun bt157 => (if 0 ≤ bt157.1 then (if bt157.1 < (y154.length : Int) then (if (t147.extract 0 (bt151.1 : Int).toNat).size + (rdOf ByteArray.empty y154 bt157.1).size ≤ 9223372036854775807 then (if ((t147.extract 0 (bt151.1 : Int).toNat) ++ (rdOf ByteArray.empty y154 bt157.1)).size + (t147.extract (bt151.1 : Int).toNat t147.size).size ≤ 9223372036854775807 then (some (((t147.extract 0 (bt151.1 : Int).toNat) ++ (rdOf ByteArray.empty y154 bt157.1)) ++ (t147.extract (bt151.1 : Int).toNat t147.size))) else (none)) else (none)) else (none)) else (none)))) else (none)) else (none))) else (some t147))))) = some r := H
  have A2 := Aside0.mk A20
  clear A20
  replace H := Option.bind_eq_some_iff.mp H
  obtain ⟨⟨t144, t145, t146⟩, A30, H⟩ := H
  replace H : ((spec_RomanText.f k (wrap64 (1 + t144))).bind fun t147 => ((spec_l01Next.f t140 t145 t146 3).bind fun bt148 => (if bt148.1 = 0 then ((spec_l01Next.f t140 bt148.2.1 bt148.2.2 (wrap64 ((t147.size : Int) + 1))).bind fun bt151 => (if 0 ≤ bt151.1 then (if bt151.1 ≤ (t147.size : Int) then ((some (([(⟨#[105]⟩ : ByteArray), (⟨#[118]⟩ : ByteArray), (⟨#[120]⟩ : ByteArray), (⟨#[99]⟩ : ByteArray), (⟨#[109]⟩ : ByteArray), (⟨#[97]⟩ : ByteArray)] : List ByteArray) : List ByteArray)).bind fun y154 => ((spec_l01Next.f t140 bt151.2.1 bt151.2.2 6).bind fun bt157 => (if 0 ≤ bt157.1 then (if bt157.1 < (y154.length : Int) then (if (t147.extract 0 (bt151.1 : Int).toNat).size + (rdOf ByteArray.empty y154 bt157.1).size ≤ 9223372036854775807 then (if ((t147.extract 0 (bt151.1 : Int).toNat) ++ (rdOf ByteArray.empty y154 bt157.1)).size + (t147.extract (bt151.1 : Int).toNat t147.size).size ≤ 9223372036854775807 then (some (((t147.extract 0 (bt151.1 : Int).toNat) ++ (rdOf ByteArray.empty y154 bt157.1)) ++ (t147.extract (bt151.1 : Int).toNat t147.size))) else (none)) else (none)) else (none)) else (none)))) else (none)) else (none))) else (some t147)))) = some r := H
  have A3 := Aside0.mk A30
  clear A30
  replace H := Option.bind_eq_some_iff.mp H
  obtain ⟨t147, A40, H⟩ := H
  replace H : ((spec_l01Next.f t140 t145 t146 3).bind fun bt148 => (if bt148.1 = 0 then ((spec_l01Next.f t140 bt148.2.1 bt148.2.2 (wrap64 ((t147.size : Int) + 1))).bind fun bt151 => (if 0 ≤ bt151.1 then (if bt151.1 ≤ (t147.size : Int) then ((some (([(⟨#[105]⟩ : ByteArray), (⟨#[118]⟩ : ByteArray), (⟨#[120]⟩ : ByteArray), (⟨#[99]⟩ : ByteArray), (⟨#[109]⟩ : ByteArray), (⟨#[97]⟩ : ByteArray)] : List ByteArray) : List ByteArray)).bind fun y154 => ((spec_l01Next.f t140 bt151.2.1 bt151.2.2 6).bind fun bt157 => (if 0 ≤ bt157.1 then (if bt157.1 < (y154.length : Int) then (if (t147.extract 0 (bt151.1 : Int).toNat).size + (rdOf ByteArray.empty y154 bt157.1).size ≤ 9223372036854775807 then (if ((t147.extract 0 (bt151.1 : Int).toNat) ++ (rdOf ByteArray.empty y154 bt157.1)).size + (t147.extract (bt151.1 : Int).toNat t147.size).size ≤ 9223372036854775807 then (some (((t147.extract 0 (bt151.1 : Int).toNat) ++ (rdOf ByteArray.empty y154 bt157.1)) ++ (t147.extract (bt151.1 : Int).toNat t147.size))) else (none)) else (none)) else (none)) else (none)))) else (none)) else (none))) else (some t147))) = some r := H
  have A4 := Aside0.mk A40
  clear A40
  replace H := Option.bind_eq_some_iff.mp H
  obtain ⟨⟨t148, t149, t150⟩, A50, H⟩ := H
  replace H : (if t148 = 0 then ((spec_l01Next.f t140 t149 t150 (wrap64 ((t147.size : Int) + 1))).bind fun bt151 => (if 0 ≤ bt151.1 then (if bt151.1 ≤ (t147.size : Int) then ((some (([(⟨#[105]⟩ : ByteArray), (⟨#[118]⟩ : ByteArray), (⟨#[120]⟩ : ByteArray), (⟨#[99]⟩ : ByteArray), (⟨#[109]⟩ : ByteArray), (⟨#[97]⟩ : ByteArray)] : List ByteArray) : List ByteArray)).bind fun y154 => ((spec_l01Next.f t140 bt151.2.1 bt151.2.2 6).bind fun bt157 => (if 0 ≤ bt157.1 then (if bt157.1 < (y154.length : Int) then (if (t147.extract 0 (bt151.1 : Int).toNat).size + (rdOf ByteArray.empty y154 bt157.1).size ≤ 9223372036854775807 then (if ((t147.extract 0 (bt151.1 : Int).toNat) ++ (rdOf ByteArray.empty y154 bt157.1)).size + (t147.extract (bt151.1 : Int).toNat t147.size).size ≤ 9223372036854775807 then (some (((t147.extract 0 (bt151.1 : Int).toNat) ++ (rdOf ByteArray.empty y154 bt157.1)) ++ (t147.extract (bt151.1 : Int).toNat t147.size))) else (none)) else (none)) else (none)) else (none)))) else (none)) else (none))) else (some t147)) = some r := H
  have A5 := Aside0.mk A50
  clear A50
  by_cases c6 : t148 = 0
  · rw [if_pos c6] at H
    have c6b0 : (t148 == 0) = true := beq_iff_eq.mpr c6
    have c6b1 : (t148 != 0) = false := bne_eq_false_iff_eq.mpr c6
    clear c6
    replace H := Option.bind_eq_some_iff.mp H
    obtain ⟨⟨t151, t152, t153⟩, A70, H⟩ := H
    replace H : (if 0 ≤ t151 then (if t151 ≤ (t147.size : Int) then ((some (([(⟨#[105]⟩ : ByteArray), (⟨#[118]⟩ : ByteArray), (⟨#[120]⟩ : ByteArray), (⟨#[99]⟩ : ByteArray), (⟨#[109]⟩ : ByteArray), (⟨#[97]⟩ : ByteArray)] : List ByteArray) : List ByteArray)).bind fun y154 => ((spec_l01Next.f t140 t152 t153 6).bind fun bt157 => (if 0 ≤ bt157.1 then (if bt157.1 < (y154.length : Int) then (if (t147.extract 0 (t151 : Int).toNat).size + (rdOf ByteArray.empty y154 bt157.1).size ≤ 9223372036854775807 then (if ((t147.extract 0 (t151 : Int).toNat) ++ (rdOf ByteArray.empty y154 bt157.1)).size + (t147.extract (t151 : Int).toNat t147.size).size ≤ 9223372036854775807 then (some (((t147.extract 0 (t151 : Int).toNat) ++ (rdOf ByteArray.empty y154 bt157.1)) ++ (t147.extract (t151 : Int).toNat t147.size))) else (none)) else (none)) else (none)) else (none)))) else (none)) else (none)) = some r := H
    have A7 := Aside0.mk A70
    clear A70
    by_cases c8 : 0 ≤ t151
    · rw [if_pos c8] at H
      have c8b0 := eq_true c8
      have c8b1 : decide (0 ≤ t151) = true := decide_eq_true c8
      clear c8
      by_cases c9 : t151 ≤ (t147.size : Int)
      · rw [if_pos c9] at H
        have c9b0 := eq_true c9
        have c9b1 : decide (t151 ≤ (t147.size : Int)) = true := decide_eq_true c9
        clear c9
        obtain ⟨y154, hy154⟩ : ∃ y_ : List ByteArray, y_ = (([(⟨#[105]⟩ : ByteArray), (⟨#[118]⟩ : ByteArray), (⟨#[120]⟩ : ByteArray), (⟨#[99]⟩ : ByteArray), (⟨#[109]⟩ : ByteArray), (⟨#[97]⟩ : ByteArray)] : List ByteArray)) := ⟨_, rfl⟩
        replace H : ((spec_l01Next.f t140 t152 t153 6).bind fun bt157 => (if 0 ≤ bt157.1 then (if bt157.1 < (y154.length : Int) then (if (t147.extract 0 (t151 : Int).toNat).size + (rdOf ByteArray.empty y154 bt157.1).size ≤ 9223372036854775807 then (if ((t147.extract 0 (t151 : Int).toNat) ++ (rdOf ByteArray.empty y154 bt157.1)).size + (t147.extract (t151 : Int).toNat t147.size).size ≤ 9223372036854775807 then (some (((t147.extract 0 (t151 : Int).toNat) ++ (rdOf ByteArray.empty y154 bt157.1)) ++ (t147.extract (t151 : Int).toNat t147.size))) else (none)) else (none)) else (none)) else (none))) = some r := by first | (rw [hy154]; with_reducible exact H) | (have H2_ := (Option.bind_some _ _).symm.trans H; rw [hy154]; with_reducible exact H2_) | (have H2_ := (Option.bind_some _ _).symm.trans H; with_reducible exact H2_) | with_reducible exact H | (rw [hy154]; exact H) | exact H
        have Ny154 := Aside0.mk hy154
        clear hy154
        replace H := Option.bind_eq_some_iff.mp H
        obtain ⟨⟨t157, t158, t159⟩, A100, H⟩ := H
        replace H : (if 0 ≤ t157 then (if t157 < (y154.length : Int) then (if (t147.extract 0 (t151 : Int).toNat).size + (rdOf ByteArray.empty y154 t157).size ≤ 9223372036854775807 then (if ((t147.extract 0 (t151 : Int).toNat) ++ (rdOf ByteArray.empty y154 t157)).size + (t147.extract (t151 : Int).toNat t147.size).size ≤ 9223372036854775807 then (some (((t147.extract 0 (t151 : Int).toNat) ++ (rdOf ByteArray.empty y154 t157)) ++ (t147.extract (t151 : Int).toNat t147.size))) else (none)) else (none)) else (none)) else (none)) = some r := H
        have A10 := Aside0.mk A100
        clear A100
        by_cases c11 : 0 ≤ t157
        · rw [if_pos c11] at H
          have c11b0 : decide (0 ≤ t157) = true := decide_eq_true c11
          clear c11
          by_cases c12 : t157 < (y154.length : Int)
          · rw [if_pos c12] at H
            have c12b0 : decide (t157 < (y154.length : Int)) = true := decide_eq_true c12
            clear c12
            by_cases c13 : (t147.extract 0 (t151 : Int).toNat).size + (rdOf ByteArray.empty y154 t157).size ≤ 9223372036854775807
            · rw [if_pos c13] at H
              have c13b0 := eq_true c13
              have c13b1 : decide ((t147.extract 0 (t151 : Int).toNat).size + (rdOf ByteArray.empty y154 t157).size ≤ 9223372036854775807) = true := decide_eq_true c13
              try have c13b2 : (9223372036854775807 < (t147.extract 0 (t151 : Int).toNat).size + (rdOf ByteArray.empty y154 t157).size) = False := eq_false (Nat.not_lt.2 c13)
              (try (have c13s := c13; simp only [ByteArray.size_append, ByteArray.size_extract] at c13s; have c13s0 := eq_true c13s; have c13s1 := decide_eq_true c13s; have c13s2 := eq_false (Nat.not_lt.2 c13s)))
              have c14b0 := eq_true (of_decide_eq_true (by first | (with_reducible assumption) | assumption) : 0 ≤ t151)
              have c15b0 := eq_true (of_decide_eq_true (by first | (with_reducible assumption) | assumption) : t151 ≤ (t147.size : Int))
              by_cases c16 : ((t147.extract 0 (t151 : Int).toNat) ++ (rdOf ByteArray.empty y154 t157)).size + (t147.extract (t151 : Int).toNat t147.size).size ≤ 9223372036854775807
              · rw [if_pos c16] at H
                have c16b0 := eq_true c16
                have c16b1 : decide (((t147.extract 0 (t151 : Int).toNat) ++ (rdOf ByteArray.empty y154 t157)).size + (t147.extract (t151 : Int).toNat t147.size).size ≤ 9223372036854775807) = true := decide_eq_true c16
                try have c16b2 : (9223372036854775807 < ((t147.extract 0 (t151 : Int).toNat) ++ (rdOf ByteArray.empty y154 t157)).size + (t147.extract (t151 : Int).toNat t147.size).size) = False := eq_false (Nat.not_lt.2 c16)
                (try (have c16s := c16; simp only [ByteArray.size_append, ByteArray.size_extract] at c16s; have c16s0 := eq_true c16s; have c16s1 := decide_eq_true c16s; have c16s2 := eq_false (Nat.not_lt.2 c16s)))
                obtain rfl := Option.some.inj H
                go_enter Try.func18, Try.ntmps18
                try go_wp2_with (first | ((with_reducible refine gate_callee (f := 48) rfl ?_); refine goesL_ (some 7) rfl rfl Try.func48 (by kernel_rfl) rfl #[.slice A0 l0.length c0] rfl (by (try simp only [List.map_toArray, List.map_cons, List.map_nil]); first | done | rfl | (simp only [List.length_drop, List.length_take]; rfl)) ?_; (with_reducible refine (spec_l01From.calls k _ _ l0 t140 t141 t142 w _ ?side1 ?side2 ?side3 A2.out).mono ?_); (case side1 => repeat (first | (with_reducible first | exact HB.out | apply below_alloc | apply pw_below_drewN | apply below_drew1) | exact HB.out)); (case side2 => exact HR0.out); (case side3 => exact HC0.out); rintro e w17 ⟨g143, rfl, hi, hb, hb2⟩; refine ⟨_, rfl, ?_⟩; have n0_ := Aside0.mk (hb); have n1_ := Aside0.mk (hi); clear HB; have HB := n0_; have HI143 := n1_; clear n0_ n1_; (try clear hb); (try clear hb2); (try clear hk); (try clear hi)) | ((with_reducible refine gate_callee (f := 50) rfl ?_); refine goesL_ (some 9) rfl rfl Try.func50 (by kernel_rfl) rfl #[.pointer (some ⟨g143, 0, none⟩), .int .i64 4000] rfl (by (try simp only [List.map_toArray, List.map_cons, List.map_nil]); first | done | rfl | (simp only [List.length_drop, List.length_take]; rfl)) ?_; (with_reducible refine (spec_l01Next.calls g143 t140 t141 t142 4000 t144 t145 t146 w _ ?side1 ?side2 A3.out).mono ?_); (case side1 => repeat (first | (with_reducible first | exact HI143.out | apply IsS81.alloc | apply IsS81.drewN | apply IsS81.drew | apply IsS81.set_1 | apply IsS81.set_2) | exact HI143.out)); (case side2 => repeat (first | (with_reducible first | exact HB.out | apply below_alloc | apply pw_below_drewN | apply below_drew1 | refine below_set ?_ (IsS81.ge HI143.out)) | exact HB.out)); rintro e w18 ⟨rfl, hi, hb, hk⟩; refine ⟨_, rfl, ?_⟩; have n0_ := Aside0.mk (hb); have n1_ := Aside0.mk (hi); clear HB; clear HI143; have HB := n0_; have HI143 := n1_; clear n0_ n1_; (try clear hb); (try clear hb2); (try clear hk); (try clear hi)) | ((with_reducible refine gate_callee (f := 12) rfl ?_); refine goesL_ (some 11) rfl rfl Try.func12 (by kernel_rfl) rfl #[.int .i64 (wrap64 (1 + t144))] rfl (by (try simp only [List.map_toArray, List.map_cons, List.map_nil]); first | done | rfl | (simp only [List.length_drop, List.length_take]; rfl)) ?_; (with_reducible refine (spec_RomanText.calls k (wrap64 (1 + t144)) t147 _ A4.out).mono ?_); rintro e w' ⟨rfl, ⟨nd, rfl⟩⟩; refine ⟨_, rfl, ?_⟩) | ((with_reducible refine gate_callee (f := 50) rfl ?_); refine goesL_ (some 13) rfl rfl Try.func50 (by kernel_rfl) rfl #[.pointer (some ⟨g143, 0, none⟩), .int .i64 3] rfl (by (try simp only [List.map_toArray, List.map_cons, List.map_nil]); first | done | rfl | (simp only [List.length_drop, List.length_take]; rfl)) ?_; (with_reducible refine (spec_l01Next.calls g143 t140 t145 t146 3 t148 t149 t150 w _ ?side1 ?side2 A5.out).mono ?_); (case side1 => repeat (first | (with_reducible first | exact HI143.out | apply IsS81.alloc | apply IsS81.drewN | apply IsS81.drew | apply IsS81.set_1 | apply IsS81.set_2) | exact HI143.out)); (case side2 => repeat (first | (with_reducible first | exact HB.out | apply below_alloc | apply pw_below_drewN | apply below_drew1 | refine below_set ?_ (IsS81.ge HI143.out)) | exact HB.out)); rintro e w19 ⟨rfl, hi, hb, hk⟩; refine ⟨_, rfl, ?_⟩; have n0_ := Aside0.mk (hb); have n1_ := Aside0.mk (hi); clear HB; clear HI143; have HB := n0_; have HI143 := n1_; clear n0_ n1_; (try clear hb); (try clear hb2); (try clear hk); (try clear hi)) | ((with_reducible refine gate_callee (f := 50) rfl ?_); refine goesL_ (some 19) rfl rfl Try.func50 (by kernel_rfl) rfl #[.pointer (some ⟨g143, 0, none⟩), .int .i64 (wrap64 ((t147.size : Int) + 1))] rfl (by (try simp only [List.map_toArray, List.map_cons, List.map_nil]); first | done | rfl | (simp only [List.length_drop, List.length_take]; rfl)) ?_; (with_reducible refine (spec_l01Next.calls g143 t140 t149 t150 (wrap64 ((t147.size : Int) + 1)) t151 t152 t153 w _ ?side1 ?side2 A7.out).mono ?_); (case side1 => repeat (first | (with_reducible first | exact HI143.out | apply IsS81.alloc | apply IsS81.drewN | apply IsS81.drew | apply IsS81.set_1 | apply IsS81.set_2) | exact HI143.out)); (case side2 => repeat (first | (with_reducible first | exact HB.out | apply below_alloc | apply pw_below_drewN | apply below_drew1 | refine below_set ?_ (IsS81.ge HI143.out)) | exact HB.out)); rintro e w20 ⟨rfl, hi, hb, hk⟩; refine ⟨_, rfl, ?_⟩; have n0_ := Aside0.mk (hb); have n1_ := Aside0.mk (hi); clear HB; clear HI143; have HB := n0_; have HI143 := n1_; clear n0_ n1_; (try clear hb); (try clear hb2); (try clear hk); (try clear hi)))
                have pi160 : (0 ≤ (t157 : Int)) = True := eq_true (of_decide_eq_true (by first | (with_reducible assumption) | assumption))
                have qi160 : (t157 < (y154.length : Int)) = True := eq_true (of_decide_eq_true (by first | (with_reducible assumption) | assumption))
                have n0_ := Aside0.mk (IsS81.drew HI143.out)
                have n1_ := Aside0.mk (below_drew1 HB.out)
                clear HI143
                clear HB
                have HI143 := n0_
                have HB := n1_
                clear n0_ n1_
                refine start_ (n := 14) (S := fun w' => True) (ds := []) #[false, false, false, false, false, false, false, false, false, false, false, false, false, false] (by kernel_rfl) rfl rfl trivial (fun hHeld => ?_); refine with_tabW spec_DrawReadRoman.tab5 spec_DrawReadRoman.bits5 (fun HT_ HW_ => ?_)
                generalize w20.drew = w21 at HI143 HB hHeld ⊢
                refine pure_ (i := 0) (N := some 20) (v := ?_) (a' := ?_) #[true, false, false, false, false, false, false, false, false, false, false, false, false, false] rfl rfl (any_of HT_.out (by kernel_rfl)) (fun _ _ _ h => h) (Or.inl ⟨by rfl, ?_⟩) ?_ ?_
                rotate_left
                · intro w'
                  go_simp
                  with_reducible rfl
                rotate_left
                · simp only [Act.put, List.setIfInBounds_toArray, List.set_cons_zero, List.set_cons_succ, i64_w, i32_w]
                  rfl
                refine pure_ (i := 1) (N := some 21) (v := ?_) (a' := ?_) #[true, true, false, false, false, false, false, false, false, false, false, false, false, false] rfl rfl (any_of HT_.out (by kernel_rfl)) (fun _ _ _ h => h) (Or.inl ⟨by rfl, ?_⟩) ?_ ?_
                rotate_left
                · intro w'
                  go_simp
                  with_reducible rfl
                rotate_left
                · simp only [Act.put, List.setIfInBounds_toArray, List.set_cons_zero, List.set_cons_succ, i64_w, i32_w]
                  rfl
                refine pure_ (i := 4) (N := some 24) (v := ?_) (a' := ?_) #[true, true, false, false, true, false, false, false, false, false, false, false, false, false] rfl rfl (any_of HT_.out (by kernel_rfl)) (fun _ _ _ h => h) (Or.inl ⟨by rfl, ?_⟩) ?_ ?_
                rotate_left
                · intro w'
                  go_simp
                  with_reducible rfl
                rotate_left
                · simp only [Act.put, List.setIfInBounds_toArray, List.set_cons_zero, List.set_cons_succ, i64_w, i32_w]
                  rfl
                refine pure_ (i := 9) (N := some 29) (v := ?_) (a' := ?_) #[true, true, false, false, true, false, false, false, false, true, false, false, false, false] rfl rfl (any_of HT_.out (by kernel_rfl)) (fun _ _ _ h => h) (Or.inl ⟨by rfl, ?_⟩) ?_ ?_
                rotate_left
                · intro w'
                  go_simp
                  with_reducible rfl
                rotate_left
                · simp only [Act.put, List.setIfInBounds_toArray, List.set_cons_zero, List.set_cons_succ, i64_w, i32_w]
                  rfl
                refine pure_ (i := 10) (N := some 30) (v := ?_) (a' := ?_) #[true, true, false, false, true, false, false, false, false, true, true, false, false, false] rfl rfl (any_of HT_.out (by kernel_rfl)) (fun _ _ _ h => h) (Or.inl ⟨by rfl, ?_⟩) ?_ ?_
                rotate_left
                · intro w'
                  go_simp
                  with_reducible rfl
                rotate_left
                · simp only [Act.put, List.setIfInBounds_toArray, List.set_cons_zero, List.set_cons_succ, i64_w, i32_w]
                  rfl
                refine inv_at [2, 3, 5, 6, 7, 8, 11, 12, 13] (fun a0_ b a w' => ∃ (v155 : Value) (adz_v155 : Addr) (m6_ : Value), a = putSel a0_ b [(2, 22, .string (t147.extract 0 (t151 : Int).toNat)), (3, 23, v155), (5, 25, .int .i64 t157), (6, 26, m6_), (7, 27, .string (rdOf ByteArray.empty y154 t157)), (8, 28, .string ((t147.extract 0 (t151 : Int).toNat) ++ (rdOf ByteArray.empty y154 t157))), (11, 31, .string (t147.extract (t151 : Int).toNat t147.size)), (12, 32, .string (((t147.extract 0 (t151 : Int).toNat) ++ (rdOf ByteArray.empty y154 t157)) ++ (t147.extract (t151 : Int).toNat t147.size))), (13, 2, .string (((t147.extract 0 (t151 : Int).toNat) ++ (rdOf ByteArray.empty y154 t157)) ++ (t147.extract (t151 : Int).toNat t147.size)))] ∧ (b 5 = false → IsS81 w w' g143 t140 t152 t153) ∧ (Below w.heap.size w w') ∧ (b 3 = true → Kd.R Kd.string 9 w' w.heap.size (fun _ => True) v155 y154) ∧ (b 3 = true → ∃ c_, (v155 : Value) = .slice (some adz_v155) y154.length c_) ∧ (b 5 = true → IsS81 w w' g143 t140 t158 t159) ∧ (b 6 = true → (m6_ : Value) = .pointer (some (adz_v155.add (t157).toNat)))) HT_.out HW_.out (by kernel_rfl) (by kernel_rfl) ?_ ?_ ?_
                · exact ⟨.bool false, ⟨0, 0, none⟩, .bool false, by simp only [putSel, Bool.false_eq_true, if_false], fun _ => HI143.out, HB.out, fun h_ => absurd h_ (by decide), fun h_ => absurd h_ (by decide), fun h_ => absurd h_ (by decide), fun h_ => absurd h_ (by decide)⟩
                · skip
                  clear HB HI143
                  refine steps_cons ?_ ?_
                  · rintro b a w' ⟨v155, adz_v155, m6_, ha, Q_HI143, Q_HB, Q_HO156, Q_HA_HO156, Q_HI143_e5, Q_X6_⟩ hb_ hon hoff
                    refine ⟨_, rfl, fun K hK => ?_⟩
                    have e20 : a.tmps[20]? = some (.string t147) := by rw [ha]; exact (putSel_off rfl).trans rfl
                    have e21 : a.tmps[21]? = some (.int .i64 t151) := by rw [ha]; exact (putSel_off rfl).trans rfl
                    replace ha := Aside0.mk ha
                    have HB := Aside0.mk Q_HB
                    refine value_ (w1 := w') (v := .string (t147.extract 0 (t151 : Int).toNat)) (by rfl) rfl ?_ ?_
                    · go_simp
                      (try simp only [i64_w])
                      try rfl
                      (try (first | done | omega | (simp only [decide_eq_true_eq] at *; omega)))
                    refine hK.out _ _ ⟨v155, adz_v155, m6_, (by rw [ha.out]; exact putSel_upk 0 hb_ rfl rfl rfl), Q_HI143, Q_HB, Q_HO156, Q_HA_HO156, Q_HI143_e5, Q_X6_⟩
                  refine steps_cons ?_ ?_
                  · rintro b a w' ⟨v155, adz_v155, m6_, ha, Q_HI143, Q_HB, Q_HO156, Q_HA_HO156, Q_HI143_e5, Q_X6_⟩ hb_ hon hoff
                    refine ⟨_, rfl, fun K hK => ?_⟩
                    replace ha := Aside0.mk ha
                    have HB := Aside0.mk Q_HB
                    refine Kd.R_lit_step Kd.string _ 9 ?hg (N := 23) ?hd (xs := ([(⟨#[105]⟩ : ByteArray), (⟨#[118]⟩ : ByteArray), (⟨#[120]⟩ : ByteArray), (⟨#[99]⟩ : ByteArray), (⟨#[109]⟩ : ByteArray), (⟨#[97]⟩ : ByteArray)] : List ByteArray)) (inner := [.string (⟨#[105]⟩ : ByteArray), .string (⟨#[118]⟩ : ByteArray), .string (⟨#[120]⟩ : ByteArray), .string (⟨#[99]⟩ : ByteArray), .string (⟨#[109]⟩ : ByteArray), .string (⟨#[97]⟩ : ByteArray)]) (ok := fun _ => True) (okp := fun _ => True) ?hr ?hp (fun _ hk => hk) trivial (Below.refl _ _) (Nat.le_refl _) (by simp) ?_; (case hd => rfl); (case hg => rfl); (case hr => first | (go_simp; done) | (go_simp; rfl)); (case hp => exact (Reps.one (show Kd.M Kd.string _ _ _ (⟨#[105]⟩ : ByteArray) [.string (⟨#[105]⟩ : ByteArray)] from rfl) (Reps.one (show Kd.M Kd.string _ _ _ (⟨#[118]⟩ : ByteArray) [.string (⟨#[118]⟩ : ByteArray)] from rfl) (Reps.one (show Kd.M Kd.string _ _ _ (⟨#[120]⟩ : ByteArray) [.string (⟨#[120]⟩ : ByteArray)] from rfl) (Reps.one (show Kd.M Kd.string _ _ _ (⟨#[99]⟩ : ByteArray) [.string (⟨#[99]⟩ : ByteArray)] from rfl) (Reps.one (show Kd.M Kd.string _ _ _ (⟨#[109]⟩ : ByteArray) [.string (⟨#[109]⟩ : ByteArray)] from rfl) (Reps.one (show Kd.M Kd.string _ _ _ (⟨#[97]⟩ : ByteArray) [.string (⟨#[97]⟩ : ByteArray)] from rfl) (Reps.none _ _))))))))
                    intro v155 w22 ho23 hb hg_ hnew_
                    clear hg_ hnew_
                    (first | rw [← Ny154.out] at ho23 | (simp only [Int.reduceToNat] at ho23; rw [← Ny154.out] at ho23))
                    have n0_ := Aside0.mk (Kd.R_lower ho23 (below_size (by repeat (first | (with_reducible first | exact HB.out | apply below_alloc | apply pw_below_drewN | apply below_drew1) | exact HB.out))))
                    have n2_ := Aside0.mk (below_step (by repeat (first | (with_reducible first | exact HB.out | apply below_alloc | apply pw_below_drewN | apply below_drew1) | exact HB.out)) hb)
                    have z_HI143 := fun (h0_ : b 5 = false) => (show IsS81 w w22 g143 t140 t152 t153 from by first | exact (IsS81.below (by repeat (first | (with_reducible first | exact (Q_HI143 h0_) | apply IsS81.alloc | apply IsS81.drewN | apply IsS81.drew | apply IsS81.set_1 | apply IsS81.set_2) | exact (Q_HI143 h0_))) hb))
                    have z_HI143_e5 := fun (h0_ : b 5 = true) => (show IsS81 w w22 g143 t140 t158 t159 from by first | exact (IsS81.below (by repeat (first | (with_reducible first | exact (Q_HI143_e5 h0_) | apply IsS81.alloc | apply IsS81.drewN | apply IsS81.drew | apply IsS81.set_1 | apply IsS81.set_2) | exact (Q_HI143_e5 h0_))) hb))
                    clear HB
                    have HO156 := n0_
                    have HB := n2_
                    clear n0_ n2_
                    clear hb ho23
                    obtain ⟨Ao24, co24, eo24⟩ := Kd.R_slice HO156.out
                    subst eo24
                    obtain ⟨ado24, fo24, _⟩ := Kd.at_string (Kd.R_reads' HO156.out).2.2 0 (by decide) (by rw [Ny154.out]; simp)
                    cases fo24
                    refine hK.out _ _ ⟨.slice (some ado24) y154.length co24, ado24, m6_, (by rw [ha.out]; exact putSel_upk 1 hb_ rfl rfl rfl), z_HI143, (by repeat (first | (with_reducible first | exact HB.out | apply below_alloc | apply pw_below_drewN | apply below_drew1) | exact HB.out)), fun _ => (by (with_reducible repeat (first | apply Kd.R_alloc | apply Kd.R_drewN | apply Kd.R_drew)); exact HO156.out), fun _ => ⟨_, rfl⟩, z_HI143_e5, fun h0_ => absurd ((hoff 6 (by kernel_rfl)).symm.trans h0_) (by decide)⟩
                  refine steps_cons ?_ ?_
                  · rintro b a w' ⟨v155, adz_v155, m6_, ha, Q_HI143, Q_HB, Q_HO156, Q_HA_HO156, Q_HI143_e5, Q_X6_⟩ hb_ hon hoff
                    refine ⟨_, rfl, fun K hK => ?_⟩
                    have e24 : a.tmps[24]? = some (.pointer (some ⟨g143, 0, none⟩)) := by rw [ha]; exact (putSel_off rfl).trans rfl
                    replace ha := Aside0.mk ha
                    have HI143 := Aside0.mk (Q_HI143 hb_)
                    have HB := Aside0.mk Q_HB
                    refine goes_ Try.func50 (by kernel_rfl) rfl #[.pointer (some ⟨g143, 0, none⟩), .int .i64 6] (by rfl) rfl rfl (by first | (simp only [List.map_toArray, List.map_cons, List.map_nil, Act.eval, Array.getD_eq_getD_getElem?, Option.getD_some, e24]; done) | (simp only [List.map_toArray, List.map_cons, List.map_nil, Act.eval, Array.getD_eq_getD_getElem?, Option.getD_some, e24]; rfl)) ?_
                    with_reducible refine (spec_l01Next.calls g143 t140 t152 t153 6 t157 t158 t159 w _ ?side1 ?side2 A10.out).mono ?_
                    (case side1 => repeat (first | (with_reducible first | exact HI143.out | apply IsS81.alloc | apply IsS81.drewN | apply IsS81.drew | apply IsS81.set_1 | apply IsS81.set_2) | exact HI143.out))
                    (case side2 => repeat (first | (with_reducible first | exact HB.out | apply below_alloc | apply pw_below_drewN | apply below_drew1 | refine below_set ?_ (IsS81.ge HI143.out)) | exact HB.out))
                    rintro e w22 ⟨rfl, hi, hb, hk⟩
                    refine ⟨_, rfl, ?_⟩
                    have n0_ := Aside0.mk (hb)
                    have n1_ := Aside0.mk (hi)
                    have z_HO156 := fun (h0_ : b 3 = true) => (show Kd.R Kd.string 9 w22 w.heap.size (fun _ => True) v155 y154 from by first | exact (Kd.R_mono (Kd.R_keep (IsS81.apart (show IsS81 w _ g143 t140 t152 t153 from by repeat (first | (with_reducible first | exact HI143.out | apply IsS81.alloc | apply IsS81.drewN | apply IsS81.drew | apply IsS81.set_1 | apply IsS81.set_2) | exact HI143.out)) (by (with_reducible repeat (first | apply Kd.R_alloc | apply Kd.R_drewN | apply Kd.R_drew)); exact (Q_HO156 h0_)) (by decide)) hk (fun _ h => h.2)) (fun _ h => h.1)) | exact Kd.R_mono (Kd.R_mono (Kd.R_keep (IsS81.apart (show IsS81 w _ g143 t140 t152 t153 from by repeat (first | (with_reducible first | exact HI143.out | apply IsS81.alloc | apply IsS81.drewN | apply IsS81.drew | apply IsS81.set_1 | apply IsS81.set_2) | exact HI143.out)) (by (with_reducible repeat (first | apply Kd.R_alloc | apply Kd.R_drewN | apply Kd.R_drew)); exact (Q_HO156 h0_)) (by decide)) hk (fun _ h => h.2)) (fun _ h => h.1)) (fun _ h_ => by first | trivial | exact h_ | exact h_.1))
                    clear HB
                    clear HI143
                    have HB := n0_
                    have HI143 := n1_
                    clear n0_ n1_
                    (try clear hb)
                    (try clear hb2)
                    (try clear hk)
                    (try clear hi)
                    refine hK.out _ _ ⟨v155, adz_v155, m6_, (by rw [ha.out]; exact putSel_upk 2 hb_ rfl rfl rfl), fun h0_ => absurd ((up_self b 5).symm.trans h0_) (by decide), (by repeat (first | (with_reducible first | exact HB.out | apply below_alloc | apply pw_below_drewN | apply below_drew1 | refine below_set ?_ (IsS81.ge HI143.out)) | exact HB.out)), z_HO156, Q_HA_HO156, fun _ => (by repeat (first | (with_reducible first | exact HI143.out | apply IsS81.alloc | apply IsS81.drewN | apply IsS81.drew | apply IsS81.set_1 | apply IsS81.set_2) | exact HI143.out)), fun h0_ => absurd ((hoff 6 (by kernel_rfl)).symm.trans h0_) (by decide)⟩
                  refine steps_cons ?_ ?_
                  · rintro b a w' ⟨v155, adz_v155, m6_, ha, Q_HI143, Q_HB, Q_HO156, Q_HA_HO156, Q_HI143_e5, Q_X6_⟩ hb_ hon hoff
                    refine ⟨_, rfl, fun K hK => ?_⟩
                    have e23 : a.tmps[23]? = some (v155) := by rw [ha]; exact putSel_on (e := (3, 23, v155)) 1 rfl rfl (hon 3 (by kernel_rfl)) rfl
                    have e25 : a.tmps[25]? = some (.int .i64 t157) := by rw [ha]; exact putSel_on (e := (5, 25, .int .i64 t157)) 2 rfl rfl (hon 5 (by kernel_rfl)) rfl
                    replace ha := Aside0.mk ha
                    have HB := Aside0.mk Q_HB
                    have HO156 := Aside0.mk (Q_HO156 (hon 3 (by kernel_rfl)))
                    have HA_HO156 := Aside0.mk (Q_HA_HO156 (hon 3 (by kernel_rfl)))
                    have HI143 := Aside0.mk (Q_HI143_e5 (hon 5 (by kernel_rfl)))
                    obtain ⟨c_, hv_⟩ := HA_HO156.out
                    rw [hv_] at e23
                    refine value_ (w1 := w') (v := .pointer (some (adz_v155.add (t157).toNat))) (by rfl) rfl ?_ ?_
                    · go_simp
                      (try simp only [i64_w])
                      try rfl
                      (try (first | done | omega | (simp only [decide_eq_true_eq] at *; omega)))
                    refine hK.out _ _ ⟨v155, adz_v155, (.pointer (some (adz_v155.add (t157).toNat))), (by rw [ha.out]; exact putSel_upk 3 hb_ rfl rfl rfl), fun h0_ => absurd ((hon 5 (by kernel_rfl)).symm.trans h0_) (by decide), Q_HB, Q_HO156, Q_HA_HO156, Q_HI143_e5, fun _ => rfl⟩
                  refine steps_cons ?_ ?_
                  · rintro b a w' ⟨v155, adz_v155, m6_, ha, Q_HI143, Q_HB, Q_HO156, Q_HA_HO156, Q_HI143_e5, Q_X6_⟩ hb_ hon hoff
                    refine ⟨_, rfl, fun K hK => ?_⟩
                    have e26 : a.tmps[26]? = some (m6_) := by rw [ha]; exact putSel_on (e := (6, 26, m6_)) 3 rfl rfl (hon 6 (by kernel_rfl)) rfl
                    rw [Q_X6_ (hon 6 (by kernel_rfl))] at e26
                    replace ha := Aside0.mk ha
                    have HB := Aside0.mk Q_HB
                    have HO156 := Aside0.mk (Q_HO156 (hon 3 (by kernel_rfl)))
                    have HA_HO156 := Aside0.mk (Q_HA_HO156 (hon 3 (by kernel_rfl)))
                    have HI143 := Aside0.mk (Q_HI143_e5 (hon 5 (by kernel_rfl)))
                    obtain ⟨c_, hv_⟩ := HA_HO156.out
                    have hF_ := HO156.out
                    rw [hv_] at hF_
                    obtain ⟨ad_, ea_, hx_⟩ := Kd.at_string (Kd.R_reads' hF_).2.2 t157 (of_eq_true pi160) (of_eq_true qi160)
                    cases ea_
                    refine value_ (w1 := w') (v := .string (rdOf ByteArray.empty y154 t157)) (by rfl) rfl ?_ ?_
                    · go_simp
                      (try simp only [i64_w])
                      try rfl
                      (try (first | done | omega | (simp only [decide_eq_true_eq] at *; omega)))
                    refine hK.out _ _ ⟨v155, adz_v155, m6_, (by rw [ha.out]; exact putSel_upk 4 hb_ rfl rfl rfl), fun h0_ => absurd ((hon 5 (by kernel_rfl)).symm.trans h0_) (by decide), Q_HB, Q_HO156, Q_HA_HO156, Q_HI143_e5, Q_X6_⟩
                  refine steps_cons ?_ ?_
                  · rintro b a w' ⟨v155, adz_v155, m6_, ha, Q_HI143, Q_HB, Q_HO156, Q_HA_HO156, Q_HI143_e5, Q_X6_⟩ hb_ hon hoff
                    refine ⟨_, rfl, fun K hK => ?_⟩
                    have e22 : a.tmps[22]? = some (.string (t147.extract 0 (t151 : Int).toNat)) := by rw [ha]; exact putSel_on (e := (2, 22, .string (t147.extract 0 (t151 : Int).toNat))) 0 rfl rfl (hon 2 (by kernel_rfl)) rfl
                    have e27 : a.tmps[27]? = some (.string (rdOf ByteArray.empty y154 t157)) := by rw [ha]; exact putSel_on (e := (7, 27, .string (rdOf ByteArray.empty y154 t157))) 4 rfl rfl (hon 7 (by kernel_rfl)) rfl
                    replace ha := Aside0.mk ha
                    have HB := Aside0.mk Q_HB
                    have HO156 := Aside0.mk (Q_HO156 (hon 3 (by kernel_rfl)))
                    have HA_HO156 := Aside0.mk (Q_HA_HO156 (hon 3 (by kernel_rfl)))
                    have HI143 := Aside0.mk (Q_HI143_e5 (hon 5 (by kernel_rfl)))
                    refine value_ (w1 := w') (v := .string ((t147.extract 0 (t151 : Int).toNat) ++ (rdOf ByteArray.empty y154 t157))) (by rfl) rfl ?_ ?_
                    · go_simp
                      (try simp only [i64_w])
                      try rfl
                      (try (first | done | omega | (simp only [decide_eq_true_eq] at *; omega)))
                    refine hK.out _ _ ⟨v155, adz_v155, m6_, (by rw [ha.out]; exact putSel_upk 5 hb_ rfl rfl rfl), fun h0_ => absurd ((hon 5 (by kernel_rfl)).symm.trans h0_) (by decide), Q_HB, Q_HO156, Q_HA_HO156, Q_HI143_e5, Q_X6_⟩
                  refine steps_cons ?_ ?_
                  · rintro b a w' ⟨v155, adz_v155, m6_, ha, Q_HI143, Q_HB, Q_HO156, Q_HA_HO156, Q_HI143_e5, Q_X6_⟩ hb_ hon hoff
                    refine ⟨_, rfl, fun K hK => ?_⟩
                    have e29 : a.tmps[29]? = some (.string t147) := by rw [ha]; exact (putSel_off rfl).trans rfl
                    have e30 : a.tmps[30]? = some (.int .i64 t151) := by rw [ha]; exact (putSel_off rfl).trans rfl
                    replace ha := Aside0.mk ha
                    have HB := Aside0.mk Q_HB
                    refine value_ (w1 := w') (v := .string (t147.extract (t151 : Int).toNat t147.size)) (by rfl) rfl ?_ ?_
                    · go_simp
                      (try simp only [i64_w])
                      try rfl
                      (try (first | done | omega | (simp only [decide_eq_true_eq] at *; omega)))
                    refine hK.out _ _ ⟨v155, adz_v155, m6_, (by rw [ha.out]; exact putSel_upk 6 hb_ rfl rfl rfl), Q_HI143, Q_HB, Q_HO156, Q_HA_HO156, Q_HI143_e5, Q_X6_⟩
                  refine steps_cons ?_ ?_
                  · rintro b a w' ⟨v155, adz_v155, m6_, ha, Q_HI143, Q_HB, Q_HO156, Q_HA_HO156, Q_HI143_e5, Q_X6_⟩ hb_ hon hoff
                    refine ⟨_, rfl, fun K hK => ?_⟩
                    have e28 : a.tmps[28]? = some (.string ((t147.extract 0 (t151 : Int).toNat) ++ (rdOf ByteArray.empty y154 t157))) := by rw [ha]; exact putSel_on (e := (8, 28, .string ((t147.extract 0 (t151 : Int).toNat) ++ (rdOf ByteArray.empty y154 t157)))) 5 rfl rfl (hon 8 (by kernel_rfl)) rfl
                    have e31 : a.tmps[31]? = some (.string (t147.extract (t151 : Int).toNat t147.size)) := by rw [ha]; exact putSel_on (e := (11, 31, .string (t147.extract (t151 : Int).toNat t147.size))) 6 rfl rfl (hon 11 (by kernel_rfl)) rfl
                    replace ha := Aside0.mk ha
                    have HB := Aside0.mk Q_HB
                    have HO156 := Aside0.mk (Q_HO156 (hon 3 (by kernel_rfl)))
                    have HA_HO156 := Aside0.mk (Q_HA_HO156 (hon 3 (by kernel_rfl)))
                    have HI143 := Aside0.mk (Q_HI143_e5 (hon 5 (by kernel_rfl)))
                    refine value_ (w1 := w') (v := .string (((t147.extract 0 (t151 : Int).toNat) ++ (rdOf ByteArray.empty y154 t157)) ++ (t147.extract (t151 : Int).toNat t147.size))) (by rfl) rfl ?_ ?_
                    · go_simp
                      (try simp only [i64_w])
                      try rfl
                      (try (first | done | omega | (simp only [decide_eq_true_eq] at *; omega)))
                    refine hK.out _ _ ⟨v155, adz_v155, m6_, (by rw [ha.out]; exact putSel_upk 7 hb_ rfl rfl rfl), fun h0_ => absurd ((hon 5 (by kernel_rfl)).symm.trans h0_) (by decide), Q_HB, Q_HO156, Q_HA_HO156, Q_HI143_e5, Q_X6_⟩
                  refine steps_cons ?_ ?_
                  · rintro b a w' ⟨v155, adz_v155, m6_, ha, Q_HI143, Q_HB, Q_HO156, Q_HA_HO156, Q_HI143_e5, Q_X6_⟩ hb_ hon hoff
                    refine ⟨_, rfl, fun K hK => ?_⟩
                    have e32 : a.tmps[32]? = some (.string (((t147.extract 0 (t151 : Int).toNat) ++ (rdOf ByteArray.empty y154 t157)) ++ (t147.extract (t151 : Int).toNat t147.size))) := by rw [ha]; exact putSel_on (e := (12, 32, .string (((t147.extract 0 (t151 : Int).toNat) ++ (rdOf ByteArray.empty y154 t157)) ++ (t147.extract (t151 : Int).toNat t147.size)))) 7 rfl rfl (hon 12 (by kernel_rfl)) rfl
                    replace ha := Aside0.mk ha
                    have HB := Aside0.mk Q_HB
                    have HO156 := Aside0.mk (Q_HO156 (hon 3 (by kernel_rfl)))
                    have HA_HO156 := Aside0.mk (Q_HA_HO156 (hon 3 (by kernel_rfl)))
                    have HI143 := Aside0.mk (Q_HI143_e5 (hon 5 (by kernel_rfl)))
                    refine value_ (w1 := w') (v := .string (((t147.extract 0 (t151 : Int).toNat) ++ (rdOf ByteArray.empty y154 t157)) ++ (t147.extract (t151 : Int).toNat t147.size))) (by rfl) rfl ?_ ?_
                    · go_simp
                      (try simp only [i64_w])
                      try rfl
                      (try (first | done | omega | (simp only [decide_eq_true_eq] at *; omega)))
                    refine hK.out _ _ ⟨v155, adz_v155, m6_, (by rw [ha.out]; exact putSel_upk 8 hb_ rfl rfl rfl), fun h0_ => absurd ((hon 5 (by kernel_rfl)).symm.trans h0_) (by decide), Q_HB, Q_HO156, Q_HA_HO156, Q_HI143_e5, Q_X6_⟩
                  exact steps_nil
                rintro b a w26 hall ⟨v155, adz_v155, m6_, ha, Q_HI143, Q_HB, Q_HO156, Q_HA_HO156, Q_HI143_e5, Q_X6_⟩
                clear HB HI143
                have hb2_ := hall 2 (by kernel_rfl)
                have hb3_ := hall 3 (by kernel_rfl)
                have hb5_ := hall 5 (by kernel_rfl)
                have hb6_ := hall 6 (by kernel_rfl)
                have hb7_ := hall 7 (by kernel_rfl)
                have hb8_ := hall 8 (by kernel_rfl)
                have hb11_ := hall 11 (by kernel_rfl)
                have hb12_ := hall 12 (by kernel_rfl)
                have hb13_ := hall 13 (by kernel_rfl)
                subst ha
                obtain rfl := Q_X6_ hb6_
                simp only [putSel, hb2_, hb3_, hb5_, hb6_, hb7_, hb8_, hb11_, hb12_, hb13_, if_true, Act.put, List.setIfInBounds_toArray, List.set_cons_zero, List.set_cons_succ]
                clear Q_HI143
                have HB := Aside0.mk Q_HB
                clear Q_HB
                have HO156 := Aside0.mk (Q_HO156 hb3_)
                clear Q_HO156
                have HA_HO156 := Aside0.mk (Q_HA_HO156 hb3_)
                clear Q_HA_HO156
                have HI143 := Aside0.mk (Q_HI143_e5 hb5_)
                clear Q_HI143_e5
                clear hall hb2_ hb3_ hb5_ hb6_ hb7_ hb8_ hb11_ hb12_ hb13_
                obtain ⟨co27, eo27⟩ := HA_HO156.out
                clear HA_HO156
                subst eo27
                try go_wp2
                go_ret
                exact ⟨by first | rfl | (simp only [Go.IntWalk.i64_left]; first | done | rfl) | (simp [errW_none, errW_some] <;> rfl) | (simp [*, errW_none, errW_some] <;> rfl), by repeat (first | (with_reducible first | exact HB.out | apply below_alloc | apply pw_below_drewN | apply below_drew1 | refine below_set ?_ (IsS81.ge HI143.out)) | exact HB.out)⟩
              · rw [if_neg c16] at H
                exact absurd H (by simp)
            · rw [if_neg c13] at H
              exact absurd H (by simp)
          · rw [if_neg c12] at H
            exact absurd H (by simp)
        · rw [if_neg c11] at H
          exact absurd H (by simp)
      · rw [if_neg c9] at H
        exact absurd H (by simp)
    · rw [if_neg c8] at H
      exact absurd H (by simp)
  · rw [if_neg c6] at H
    have c6b0 : (t148 == 0) = false := beq_eq_false_iff_ne.mpr c6
    have c6b1 : (t148 != 0) = true := bne_iff_ne.mpr c6
    obtain rfl := Option.some.inj H
    go_enter Try.func18, Try.ntmps18
    go_wp2_with (first | ((with_reducible refine gate_callee (f := 48) rfl ?_); refine goesL_ (some 7) rfl rfl Try.func48 (by kernel_rfl) rfl #[.slice A0 l0.length c0] rfl (by (try simp only [List.map_toArray, List.map_cons, List.map_nil]); first | done | rfl | (simp only [List.length_drop, List.length_take]; rfl)) ?_; (with_reducible refine (spec_l01From.calls k _ _ l0 t140 t141 t142 w _ ?side1 ?side2 ?side3 A2.out).mono ?_); (case side1 => repeat (first | (with_reducible first | exact HB.out | apply below_alloc | apply pw_below_drewN | apply below_drew1) | exact HB.out)); (case side2 => exact HR0.out); (case side3 => exact HC0.out); rintro e w28 ⟨g143, rfl, hi, hb, hb2⟩; refine ⟨_, rfl, ?_⟩; have n0_ := Aside0.mk (hb); have n1_ := Aside0.mk (hi); clear HB; have HB := n0_; have HI143 := n1_; clear n0_ n1_; (try clear hb); (try clear hb2); (try clear hk); (try clear hi)) | ((with_reducible refine gate_callee (f := 50) rfl ?_); refine goesL_ (some 9) rfl rfl Try.func50 (by kernel_rfl) rfl #[.pointer (some ⟨g143, 0, none⟩), .int .i64 4000] rfl (by (try simp only [List.map_toArray, List.map_cons, List.map_nil]); first | done | rfl | (simp only [List.length_drop, List.length_take]; rfl)) ?_; (with_reducible refine (spec_l01Next.calls g143 t140 t141 t142 4000 t144 t145 t146 w _ ?side1 ?side2 A3.out).mono ?_); (case side1 => repeat (first | (with_reducible first | exact HI143.out | apply IsS81.alloc | apply IsS81.drewN | apply IsS81.drew | apply IsS81.set_1 | apply IsS81.set_2) | exact HI143.out)); (case side2 => repeat (first | (with_reducible first | exact HB.out | apply below_alloc | apply pw_below_drewN | apply below_drew1 | refine below_set ?_ (IsS81.ge HI143.out)) | exact HB.out)); rintro e w29 ⟨rfl, hi, hb, hk⟩; refine ⟨_, rfl, ?_⟩; have n0_ := Aside0.mk (hb); have n1_ := Aside0.mk (hi); clear HB; clear HI143; have HB := n0_; have HI143 := n1_; clear n0_ n1_; (try clear hb); (try clear hb2); (try clear hk); (try clear hi)) | ((with_reducible refine gate_callee (f := 12) rfl ?_); refine goesL_ (some 11) rfl rfl Try.func12 (by kernel_rfl) rfl #[.int .i64 (wrap64 (1 + t144))] rfl (by (try simp only [List.map_toArray, List.map_cons, List.map_nil]); first | done | rfl | (simp only [List.length_drop, List.length_take]; rfl)) ?_; (with_reducible refine (spec_RomanText.calls k (wrap64 (1 + t144)) t147 _ A4.out).mono ?_); rintro e w' ⟨rfl, ⟨nd, rfl⟩⟩; refine ⟨_, rfl, ?_⟩) | ((with_reducible refine gate_callee (f := 50) rfl ?_); refine goesL_ (some 13) rfl rfl Try.func50 (by kernel_rfl) rfl #[.pointer (some ⟨g143, 0, none⟩), .int .i64 3] rfl (by (try simp only [List.map_toArray, List.map_cons, List.map_nil]); first | done | rfl | (simp only [List.length_drop, List.length_take]; rfl)) ?_; (with_reducible refine (spec_l01Next.calls g143 t140 t145 t146 3 t148 t149 t150 w _ ?side1 ?side2 A5.out).mono ?_); (case side1 => repeat (first | (with_reducible first | exact HI143.out | apply IsS81.alloc | apply IsS81.drewN | apply IsS81.drew | apply IsS81.set_1 | apply IsS81.set_2) | exact HI143.out)); (case side2 => repeat (first | (with_reducible first | exact HB.out | apply below_alloc | apply pw_below_drewN | apply below_drew1 | refine below_set ?_ (IsS81.ge HI143.out)) | exact HB.out)); rintro e w30 ⟨rfl, hi, hb, hk⟩; refine ⟨_, rfl, ?_⟩; have n0_ := Aside0.mk (hb); have n1_ := Aside0.mk (hi); clear HB; clear HI143; have HB := n0_; have HI143 := n1_; clear n0_ n1_; (try clear hb); (try clear hb2); (try clear hk); (try clear hi)))
    go_ret
    exact ⟨by first | rfl | (simp only [Go.IntWalk.i64_left]; first | done | rfl) | (simp [errW_none, errW_some] <;> rfl) | (simp [*, errW_none, errW_some] <;> rfl), by repeat (first | (with_reducible first | exact HB.out | apply below_alloc | apply pw_below_drewN | apply below_drew1 | refine below_set ?_ (IsS81.ge HI143.out)) | exact HB.out)⟩

/-! ### spec_DrawPaddedCount: function 19 -/
def spec_DrawPaddedCount.f (k : Nat) (l0 : List Int) : Option (Int × Int) := (spec_l01From.f k l0).bind fun bt161 => ((spec_l01Next.f bt161.1 bt161.2.1 bt161.2.2 8).bind fun bt165 => (if bt165.1 = 0 then ((spec_l01Pick.f bt161.1 bt165.2.1 bt165.2.2 (([(-1), 0, 1000000000, 1000000001] : List Int))).bind fun bt171 => ((spec_l01Pick.f bt161.1 bt171.2.1 bt171.2.2 (([0, 1, 1000000000, 1000000001] : List Int))).bind fun bt177 => (some (bt171.1, bt177.1)))) else ((spec_l01Next.f bt161.1 bt165.2.1 bt165.2.2 300).bind fun bt180 => ((spec_l01Next.f bt161.1 bt180.2.1 bt180.2.2 40).bind fun bt183 => (some (bt180.1, wrap64 (1 + bt183.1)))))))
theorem spec_DrawPaddedCount.mono : ∀ a0 k, LeO (spec_DrawPaddedCount.f k a0) (spec_DrawPaddedCount.f (k + 1) a0) := by
  intro a0 k
  unfold spec_DrawPaddedCount.f
  repeat' first
      | (with_reducible exact spec_l01From.mono _ _)
      | (with_reducible exact LeO.refl _)
      | (with_reducible exact LeO.none _)
      | (with_reducible refine LeO.ite ?_ ?_)
      | (with_reducible refine LeO.bind ?_ (fun _ => ?_))
      | exact spec_l01From.mono _ _
      | exact LeO.none _
      | refine LeO.ite ?_ ?_
      | refine LeO.bind ?_ (fun _ => ?_)
set_option maxHeartbeats 8000000 in
set_option maxRecDepth 100000 in
theorem spec_DrawPaddedCount.calls (k : Nat) (A0 : Option Addr) (c0 : Nat) (l0 : List Int) (r1 : Int) (r2 : Int) (w : World) (hr0 : Kd.C (Kd.int .u8) w A0 l0.length l0) (hc0 : l0.length ≤ c0) (h : spec_DrawPaddedCount.f k l0 = some (r1, r2)) :
    Calls Try.prog 19 #[.slice A0 l0.length c0] w fun e w' => e = .returned (.tuple #[.int .i64 r1, .int .i64 r2]) ∧ Below w.heap.size w w' := by
  have HR0 := Aside0.mk hr0
  have HC0 := Aside0.mk hc0
  clear hr0 hc0
  have HB := Aside0.mk (Below.refl w.heap.size w)
  have H : ((spec_l01From.f k l0).bind fun bt161 => ((spec_l01Next.f bt161.1 bt161.2.1 bt161.2.2 8).bind fun bt165 => (if bt165.1 = 0 then ((spec_l01Pick.f bt161.1 bt165.2.1 bt165.2.2 (([(-1), 0, 1000000000, 1000000001] : List Int))).bind fun bt171 => ((spec_l01Pick.f bt161.1 bt171.2.1 bt171.2.2 (([0, 1, 1000000000, 1000000001] : List Int))).bind fun bt177 => (some (bt171.1, bt177.1)))) else ((spec_l01Next.f bt161.1 bt165.2.1 bt165.2.2 300).bind fun bt180 => ((spec_l01Next.f bt161.1 bt180.2.1 bt180.2.2 40).bind fun bt183 => (some (bt180.1, wrap64 (1 + bt183.1)))))))) = some (r1, r2) := h
  clear h
  replace H := Option.bind_eq_some_iff.mp H
  obtain ⟨⟨t161, t162, t163⟩, A20, H⟩ := H
  replace H : ((spec_l01Next.f t161 t162 t163 8).bind fun bt165 => (if bt165.1 = 0 then ((spec_l01Pick.f t161 bt165.2.1 bt165.2.2 (([(-1), 0, 1000000000, 1000000001] : List Int))).bind fun bt171 => ((spec_l01Pick.f t161 bt171.2.1 bt171.2.2 (([0, 1, 1000000000, 1000000001] : List Int))).bind fun bt177 => (some (bt171.1, bt177.1)))) else ((spec_l01Next.f t161 bt165.2.1 bt165.2.2 300).bind fun bt180 => ((spec_l01Next.f t161 bt180.2.1 bt180.2.2 40).bind fun bt183 => (some (bt180.1, wrap64 (1 + bt183.1))))))) = some (r1, r2) := H
  have A2 := Aside0.mk A20
  clear A20
  replace H := Option.bind_eq_some_iff.mp H
  obtain ⟨⟨t165, t166, t167⟩, A30, H⟩ := H
  replace H : (if t165 = 0 then ((spec_l01Pick.f t161 t166 t167 (([(-1), 0, 1000000000, 1000000001] : List Int))).bind fun bt171 => ((spec_l01Pick.f t161 bt171.2.1 bt171.2.2 (([0, 1, 1000000000, 1000000001] : List Int))).bind fun bt177 => (some (bt171.1, bt177.1)))) else ((spec_l01Next.f t161 t166 t167 300).bind fun bt180 => ((spec_l01Next.f t161 bt180.2.1 bt180.2.2 40).bind fun bt183 => (some (bt180.1, wrap64 (1 + bt183.1)))))) = some (r1, r2) := H
  have A3 := Aside0.mk A30
  clear A30
  by_cases c4 : t165 = 0
  · rw [if_pos c4] at H
    have c4b0 : (t165 == 0) = true := beq_iff_eq.mpr c4
    have c4b1 : (t165 != 0) = false := bne_eq_false_iff_eq.mpr c4
    clear c4
    obtain ⟨y168, hy168⟩ : ∃ y_ : List Int, y_ = (([(-1), 0, 1000000000, 1000000001] : List Int)) := ⟨_, rfl⟩
    replace H : ((spec_l01Pick.f t161 t166 t167 y168).bind fun bt171 => ((spec_l01Pick.f t161 bt171.2.1 bt171.2.2 (([0, 1, 1000000000, 1000000001] : List Int))).bind fun bt177 => (some (bt171.1, bt177.1)))) = some (r1, r2) := by first | (rw [hy168]; with_reducible exact H) | (have H2_ := (Option.bind_some _ _).symm.trans H; rw [hy168]; with_reducible exact H2_) | (have H2_ := (Option.bind_some _ _).symm.trans H; with_reducible exact H2_) | with_reducible exact H | (rw [hy168]; exact H) | exact H
    have Ny168 := Aside0.mk hy168
    clear hy168
    replace H := Option.bind_eq_some_iff.mp H
    obtain ⟨⟨t171, t172, t173⟩, A50, H⟩ := H
    replace H : ((spec_l01Pick.f t161 t172 t173 (([0, 1, 1000000000, 1000000001] : List Int))).bind fun bt177 => (some (t171, bt177.1))) = some (r1, r2) := H
    have A5 := Aside0.mk A50
    clear A50
    obtain ⟨y174, hy174⟩ : ∃ y_ : List Int, y_ = (([0, 1, 1000000000, 1000000001] : List Int)) := ⟨_, rfl⟩
    replace H : ((spec_l01Pick.f t161 t172 t173 y174).bind fun bt177 => (some (t171, bt177.1))) = some (r1, r2) := by first | (rw [hy174]; with_reducible exact H) | (have H2_ := (Option.bind_some _ _).symm.trans H; rw [hy174]; with_reducible exact H2_) | (have H2_ := (Option.bind_some _ _).symm.trans H; with_reducible exact H2_) | with_reducible exact H | (rw [hy174]; exact H) | exact H
    have Ny174 := Aside0.mk hy174
    clear hy174
    replace H := Option.bind_eq_some_iff.mp H
    obtain ⟨⟨t177, t178, t179⟩, A60, H⟩ := H
    replace H : (some (t171, t177)) = some (r1, r2) := H
    have A6 := Aside0.mk A60
    clear A60
    simp only [Option.some.injEq, Prod.mk.injEq] at H
    obtain ⟨rfl, rfl⟩ := H
    go_enter Try.func19, Try.ntmps19
    go_wp2_with (first | ((with_reducible refine gate_callee (f := 48) rfl ?_); refine goesL_ (some 6) rfl rfl Try.func48 (by kernel_rfl) rfl #[.slice A0 l0.length c0] rfl (by (try simp only [List.map_toArray, List.map_cons, List.map_nil]); first | done | rfl | (simp only [List.length_drop, List.length_take]; rfl)) ?_; (with_reducible refine (spec_l01From.calls k _ _ l0 t161 t162 t163 w _ ?side1 ?side2 ?side3 A2.out).mono ?_); (case side1 => repeat (first | (with_reducible first | exact HB.out | apply below_alloc | apply pw_below_drewN | apply below_drew1) | exact HB.out)); (case side2 => exact HR0.out); (case side3 => exact HC0.out); rintro e w7 ⟨g164, rfl, hi, hb, hb2⟩; refine ⟨_, rfl, ?_⟩; have n0_ := Aside0.mk (hb); have n1_ := Aside0.mk (hi); clear HB; have HB := n0_; have HI164 := n1_; clear n0_ n1_; (try clear hb); (try clear hb2); (try clear hk); (try clear hi)) | ((with_reducible refine gate_callee (f := 50) rfl ?_); refine goesL_ (some 8) rfl rfl Try.func50 (by kernel_rfl) rfl #[.pointer (some ⟨g164, 0, none⟩), .int .i64 8] rfl (by (try simp only [List.map_toArray, List.map_cons, List.map_nil]); first | done | rfl | (simp only [List.length_drop, List.length_take]; rfl)) ?_; (with_reducible refine (spec_l01Next.calls g164 t161 t162 t163 8 t165 t166 t167 w _ ?side1 ?side2 A3.out).mono ?_); (case side1 => repeat (first | (with_reducible first | exact HI164.out | apply IsS81.alloc | apply IsS81.drewN | apply IsS81.drew | apply IsS81.set_1 | apply IsS81.set_2) | exact HI164.out)); (case side2 => repeat (first | (with_reducible first | exact HB.out | apply below_alloc | apply pw_below_drewN | apply below_drew1 | refine below_set ?_ (IsS81.ge HI164.out)) | exact HB.out)); rintro e w8 ⟨rfl, hi, hb, hk⟩; refine ⟨_, rfl, ?_⟩; have n0_ := Aside0.mk (hb); have n1_ := Aside0.mk (hi); clear HB; clear HI164; have HB := n0_; have HI164 := n1_; clear n0_ n1_; (try clear hb); (try clear hb2); (try clear hk); (try clear hi)) | ((with_reducible refine gate_dst (N := 11) rfl ?_); refine Kd.R_lit (Kd.int .i64) _ 2 ?hg (N := 11) ?hd (xs := ([(-1), 0, 1000000000, 1000000001] : List Int)) (inner := [.int .i64 (-1), .int .i64 0, .int .i64 1000000000, .int .i64 1000000001]) (ok := fun _ => True) (okp := fun _ => True) ?hr ?hp (fun _ hk => hk) trivial (Below.refl _ _) (Nat.le_refl _) (by simp) ?_; (case hd => rfl); (case hg => rfl); (case hr => first | (go_simp; done) | (go_simp; rfl)); (case hp => exact (Reps.one (show Kd.M (Kd.int .i64) _ _ _ (-1) [.int .i64 (-1)] from rfl) (Reps.one (show Kd.M (Kd.int .i64) _ _ _ 0 [.int .i64 0] from rfl) (Reps.one (show Kd.M (Kd.int .i64) _ _ _ 1000000000 [.int .i64 1000000000] from rfl) (Reps.one (show Kd.M (Kd.int .i64) _ _ _ 1000000001 [.int .i64 1000000001] from rfl) (Reps.none _ _)))))); intro v169 w9 ho10 hb hg_ hnew_; clear hg_ hnew_; (first | rw [← Ny168.out] at ho10 | (simp only [Int.reduceToNat] at ho10; rw [← Ny168.out] at ho10)); have n0_ := Aside0.mk (Kd.R_lower ho10 (below_size (by repeat (first | (with_reducible first | exact HB.out | apply below_alloc | apply pw_below_drewN | apply below_drew1 | refine below_set ?_ (IsS81.ge HI164.out)) | exact HB.out)))); have n1_ := Aside0.mk (IsS81.below (by repeat (first | (with_reducible first | exact HI164.out | apply IsS81.alloc | apply IsS81.drewN | apply IsS81.drew | apply IsS81.set_1 | apply IsS81.set_2) | exact HI164.out)) hb); have n2_ := Aside0.mk (below_step (by repeat (first | (with_reducible first | exact HB.out | apply below_alloc | apply pw_below_drewN | apply below_drew1 | refine below_set ?_ (IsS81.ge HI164.out)) | exact HB.out)) hb); clear HI164; clear HB; have HO170 := n0_; have HI164 := n1_; have HB := n2_; clear n0_ n1_ n2_; clear hb ho10; obtain ⟨Ao11, co11, eo11⟩ := Kd.R_slice HO170.out; subst eo11) | ((with_reducible refine gate_callee (f := 49) rfl ?_); refine goesL_ (some 12) rfl rfl Try.func49 (by kernel_rfl) rfl #[.pointer (some ⟨g164, 0, none⟩), .slice Ao11 y168.length co11] rfl (by (try simp only [List.map_toArray, List.map_cons, List.map_nil]); first | done | rfl | (simp only [List.length_drop, List.length_take]; rfl)) ?_; (with_reducible refine (spec_l01Pick.calls g164 t161 t166 t167 _ _ y168 t171 t172 t173 w _ ?side1 ?side2 ?side3 ?side4 ?side5 A5.out).mono ?_); (case side1 => repeat (first | (with_reducible first | exact HI164.out | apply IsS81.alloc | apply IsS81.drewN | apply IsS81.drew | apply IsS81.set_1 | apply IsS81.set_2) | exact HI164.out)); (case side2 => repeat (first | (with_reducible first | exact HB.out | apply below_alloc | apply pw_below_drewN | apply below_drew1 | refine below_set ?_ (IsS81.ge HI164.out)) | exact HB.out)); (case side3 => repeat (first | exact (Kd.R_reads' HO170.out).2.2 | (with_reducible refine Kd.C_alloc ?_ _) | (with_reducible refine Kd.C_drewN ?_ _) | (with_reducible refine Kd.C_drew ?_))); (case side4 => exact (Kd.R_reads' HO170.out).2.1); (case side5 => exact far_slice (IsS81.own_ne HI164.out HO170.out (by decide))); rintro e w12 ⟨rfl, hi, hb, hk⟩; refine ⟨_, rfl, ?_⟩; have n0_ := Aside0.mk (Kd.R_mono (Kd.R_keep (IsS81.apart (show IsS81 w _ g164 t161 t166 t167 from by repeat (first | (with_reducible first | exact HI164.out | apply IsS81.alloc | apply IsS81.drewN | apply IsS81.drew | apply IsS81.set_1 | apply IsS81.set_2) | exact HI164.out)) (by (with_reducible repeat (first | apply Kd.R_alloc | apply Kd.R_drewN | apply Kd.R_drew)); exact HO170.out) (by decide)) hk (fun _ h => h.2)) (fun _ h => h.1)); have n1_ := Aside0.mk (hb); have n2_ := Aside0.mk (hi); clear HO170; clear HB; clear HI164; have HO170 := n0_; have HB := n1_; have HI164 := n2_; clear n0_ n1_ n2_; (try clear hb); (try clear hb2); (try clear hk); (try clear hi)) | ((with_reducible refine gate_dst (N := 14) rfl ?_); refine Kd.R_lit (Kd.int .i64) _ 2 ?hg (N := 14) ?hd (xs := ([0, 1, 1000000000, 1000000001] : List Int)) (inner := [.int .i64 0, .int .i64 1, .int .i64 1000000000, .int .i64 1000000001]) (ok := fun _ => True) (okp := fun _ => True) ?hr ?hp (fun _ hk => hk) trivial (Below.refl _ _) (Nat.le_refl _) (by simp) ?_; (case hd => rfl); (case hg => rfl); (case hr => first | (go_simp; done) | (go_simp; rfl)); (case hp => exact (Reps.one (show Kd.M (Kd.int .i64) _ _ _ 0 [.int .i64 0] from rfl) (Reps.one (show Kd.M (Kd.int .i64) _ _ _ 1 [.int .i64 1] from rfl) (Reps.one (show Kd.M (Kd.int .i64) _ _ _ 1000000000 [.int .i64 1000000000] from rfl) (Reps.one (show Kd.M (Kd.int .i64) _ _ _ 1000000001 [.int .i64 1000000001] from rfl) (Reps.none _ _)))))); intro v175 w13 ho14 hb hg_ hnew_; clear hg_ hnew_; (first | rw [← Ny174.out] at ho14 | (simp only [Int.reduceToNat] at ho14; rw [← Ny174.out] at ho14)); have n0_ := Aside0.mk (Kd.R_elder' (by (with_reducible repeat (first | apply Kd.R_alloc | apply Kd.R_drewN | apply Kd.R_drew)); exact HO170.out) (Kd.R_base ho14) hb); have n1_ := Aside0.mk (Kd.R_lower (Kd.R_new' ho14 (Kd.R_lt (by (with_reducible repeat (first | apply Kd.R_alloc | apply Kd.R_drewN | apply Kd.R_drew)); exact HO170.out))) (below_size (by repeat (first | (with_reducible first | exact HB.out | apply below_alloc | apply pw_below_drewN | apply below_drew1 | refine below_set ?_ (IsS81.ge HI164.out)) | exact HB.out)))); have n2_ := Aside0.mk (IsS81.below (by repeat (first | (with_reducible first | exact HI164.out | apply IsS81.alloc | apply IsS81.drewN | apply IsS81.drew | apply IsS81.set_1 | apply IsS81.set_2) | exact HI164.out)) hb); have n3_ := Aside0.mk (below_step (by repeat (first | (with_reducible first | exact HB.out | apply below_alloc | apply pw_below_drewN | apply below_drew1 | refine below_set ?_ (IsS81.ge HI164.out)) | exact HB.out)) hb); clear HO170; clear HI164; clear HB; have HO170 := n0_; have HO176 := n1_; have HI164 := n2_; have HB := n3_; clear n0_ n1_ n2_ n3_; clear hb ho14; obtain ⟨Ao15, co15, eo15⟩ := Kd.R_slice HO176.out; subst eo15) | ((with_reducible refine gate_callee (f := 49) rfl ?_); refine goesL_ (some 15) rfl rfl Try.func49 (by kernel_rfl) rfl #[.pointer (some ⟨g164, 0, none⟩), .slice Ao15 y174.length co15] rfl (by (try simp only [List.map_toArray, List.map_cons, List.map_nil]); first | done | rfl | (simp only [List.length_drop, List.length_take]; rfl)) ?_; (with_reducible refine (spec_l01Pick.calls g164 t161 t172 t173 _ _ y174 t177 t178 t179 w _ ?side1 ?side2 ?side3 ?side4 ?side5 A6.out).mono ?_); (case side1 => repeat (first | (with_reducible first | exact HI164.out | apply IsS81.alloc | apply IsS81.drewN | apply IsS81.drew | apply IsS81.set_1 | apply IsS81.set_2) | exact HI164.out)); (case side2 => repeat (first | (with_reducible first | exact HB.out | apply below_alloc | apply pw_below_drewN | apply below_drew1 | refine below_set ?_ (IsS81.ge HI164.out)) | exact HB.out)); (case side3 => repeat (first | exact (Kd.R_reads' HO176.out).2.2 | (with_reducible refine Kd.C_alloc ?_ _) | (with_reducible refine Kd.C_drewN ?_ _) | (with_reducible refine Kd.C_drew ?_))); (case side4 => exact (Kd.R_reads' HO176.out).2.1); (case side5 => exact far_slice (IsS81.own_ne HI164.out HO176.out (by decide))); rintro e w16 ⟨rfl, hi, hb, hk⟩; refine ⟨_, rfl, ?_⟩; have n0_ := Aside0.mk (Kd.R_mono (Kd.R_keep (IsS81.apart (show IsS81 w _ g164 t161 t172 t173 from by repeat (first | (with_reducible first | exact HI164.out | apply IsS81.alloc | apply IsS81.drewN | apply IsS81.drew | apply IsS81.set_1 | apply IsS81.set_2) | exact HI164.out)) (by (with_reducible repeat (first | apply Kd.R_alloc | apply Kd.R_drewN | apply Kd.R_drew)); exact HO170.out) (by decide)) hk (fun _ h => h.2)) (fun _ h => h.1)); have n1_ := Aside0.mk (Kd.R_mono (Kd.R_keep (IsS81.apart (show IsS81 w _ g164 t161 t172 t173 from by repeat (first | (with_reducible first | exact HI164.out | apply IsS81.alloc | apply IsS81.drewN | apply IsS81.drew | apply IsS81.set_1 | apply IsS81.set_2) | exact HI164.out)) (by (with_reducible repeat (first | apply Kd.R_alloc | apply Kd.R_drewN | apply Kd.R_drew)); exact HO176.out) (by decide)) hk (fun _ h => h.2)) (fun _ h => h.1)); have n2_ := Aside0.mk (hb); have n3_ := Aside0.mk (hi); clear HO170; clear HO176; clear HB; clear HI164; have HO170 := n0_; have HO176 := n1_; have HB := n2_; have HI164 := n3_; clear n0_ n1_ n2_ n3_; (try clear hb); (try clear hb2); (try clear hk); (try clear hi)))
    go_ret2
    exact ⟨by first | rfl | (simp only [Go.IntWalk.i64_left]; first | done | rfl) | (simp [errW_none, errW_some] <;> rfl) | (simp [*, errW_none, errW_some] <;> rfl), by repeat (first | (with_reducible first | exact HB.out | apply below_alloc | apply pw_below_drewN | apply below_drew1 | refine below_set ?_ (IsS81.ge HI164.out)) | exact HB.out)⟩
  · rw [if_neg c4] at H
    have c4b0 : (t165 == 0) = false := beq_eq_false_iff_ne.mpr c4
    have c4b1 : (t165 != 0) = true := bne_iff_ne.mpr c4
    replace H := Option.bind_eq_some_iff.mp H
    obtain ⟨⟨t180, t181, t182⟩, A170, H⟩ := H
    replace H : ((spec_l01Next.f t161 t181 t182 40).bind fun bt183 => (some (t180, wrap64 (1 + bt183.1)))) = some (r1, r2) := H
    have A17 := Aside0.mk A170
    clear A170
    replace H := Option.bind_eq_some_iff.mp H
    obtain ⟨⟨t183, t184, t185⟩, A180, H⟩ := H
    replace H : (some (t180, wrap64 (1 + t183))) = some (r1, r2) := H
    have A18 := Aside0.mk A180
    clear A180
    simp only [Option.some.injEq, Prod.mk.injEq] at H
    obtain ⟨rfl, rfl⟩ := H
    go_enter Try.func19, Try.ntmps19
    go_wp2_with (first | ((with_reducible refine gate_callee (f := 48) rfl ?_); refine goesL_ (some 6) rfl rfl Try.func48 (by kernel_rfl) rfl #[.slice A0 l0.length c0] rfl (by (try simp only [List.map_toArray, List.map_cons, List.map_nil]); first | done | rfl | (simp only [List.length_drop, List.length_take]; rfl)) ?_; (with_reducible refine (spec_l01From.calls k _ _ l0 t161 t162 t163 w _ ?side1 ?side2 ?side3 A2.out).mono ?_); (case side1 => repeat (first | (with_reducible first | exact HB.out | apply below_alloc | apply pw_below_drewN | apply below_drew1) | exact HB.out)); (case side2 => exact HR0.out); (case side3 => exact HC0.out); rintro e w19 ⟨g164, rfl, hi, hb, hb2⟩; refine ⟨_, rfl, ?_⟩; have n0_ := Aside0.mk (hb); have n1_ := Aside0.mk (hi); clear HB; have HB := n0_; have HI164 := n1_; clear n0_ n1_; (try clear hb); (try clear hb2); (try clear hk); (try clear hi)) | ((with_reducible refine gate_callee (f := 50) rfl ?_); refine goesL_ (some 8) rfl rfl Try.func50 (by kernel_rfl) rfl #[.pointer (some ⟨g164, 0, none⟩), .int .i64 8] rfl (by (try simp only [List.map_toArray, List.map_cons, List.map_nil]); first | done | rfl | (simp only [List.length_drop, List.length_take]; rfl)) ?_; (with_reducible refine (spec_l01Next.calls g164 t161 t162 t163 8 t165 t166 t167 w _ ?side1 ?side2 A3.out).mono ?_); (case side1 => repeat (first | (with_reducible first | exact HI164.out | apply IsS81.alloc | apply IsS81.drewN | apply IsS81.drew | apply IsS81.set_1 | apply IsS81.set_2) | exact HI164.out)); (case side2 => repeat (first | (with_reducible first | exact HB.out | apply below_alloc | apply pw_below_drewN | apply below_drew1 | refine below_set ?_ (IsS81.ge HI164.out)) | exact HB.out)); rintro e w20 ⟨rfl, hi, hb, hk⟩; refine ⟨_, rfl, ?_⟩; have n0_ := Aside0.mk (hb); have n1_ := Aside0.mk (hi); clear HB; clear HI164; have HB := n0_; have HI164 := n1_; clear n0_ n1_; (try clear hb); (try clear hb2); (try clear hk); (try clear hi)) | ((with_reducible refine gate_callee (f := 50) rfl ?_); refine goesL_ (some 17) rfl rfl Try.func50 (by kernel_rfl) rfl #[.pointer (some ⟨g164, 0, none⟩), .int .i64 300] rfl (by (try simp only [List.map_toArray, List.map_cons, List.map_nil]); first | done | rfl | (simp only [List.length_drop, List.length_take]; rfl)) ?_; (with_reducible refine (spec_l01Next.calls g164 t161 t166 t167 300 t180 t181 t182 w _ ?side1 ?side2 A17.out).mono ?_); (case side1 => repeat (first | (with_reducible first | exact HI164.out | apply IsS81.alloc | apply IsS81.drewN | apply IsS81.drew | apply IsS81.set_1 | apply IsS81.set_2) | exact HI164.out)); (case side2 => repeat (first | (with_reducible first | exact HB.out | apply below_alloc | apply pw_below_drewN | apply below_drew1 | refine below_set ?_ (IsS81.ge HI164.out)) | exact HB.out)); rintro e w21 ⟨rfl, hi, hb, hk⟩; refine ⟨_, rfl, ?_⟩; have n0_ := Aside0.mk (hb); have n1_ := Aside0.mk (hi); clear HB; clear HI164; have HB := n0_; have HI164 := n1_; clear n0_ n1_; (try clear hb); (try clear hb2); (try clear hk); (try clear hi)) | ((with_reducible refine gate_callee (f := 50) rfl ?_); refine goesL_ (some 19) rfl rfl Try.func50 (by kernel_rfl) rfl #[.pointer (some ⟨g164, 0, none⟩), .int .i64 40] rfl (by (try simp only [List.map_toArray, List.map_cons, List.map_nil]); first | done | rfl | (simp only [List.length_drop, List.length_take]; rfl)) ?_; (with_reducible refine (spec_l01Next.calls g164 t161 t181 t182 40 t183 t184 t185 w _ ?side1 ?side2 A18.out).mono ?_); (case side1 => repeat (first | (with_reducible first | exact HI164.out | apply IsS81.alloc | apply IsS81.drewN | apply IsS81.drew | apply IsS81.set_1 | apply IsS81.set_2) | exact HI164.out)); (case side2 => repeat (first | (with_reducible first | exact HB.out | apply below_alloc | apply pw_below_drewN | apply below_drew1 | refine below_set ?_ (IsS81.ge HI164.out)) | exact HB.out)); rintro e w22 ⟨rfl, hi, hb, hk⟩; refine ⟨_, rfl, ?_⟩; have n0_ := Aside0.mk (hb); have n1_ := Aside0.mk (hi); clear HB; clear HI164; have HB := n0_; have HI164 := n1_; clear n0_ n1_; (try clear hb); (try clear hb2); (try clear hk); (try clear hi)))
    go_ret2
    exact ⟨by first | rfl | (simp only [Go.IntWalk.i64_left]; first | done | rfl) | (simp [errW_none, errW_some] <;> rfl) | (simp [*, errW_none, errW_some] <;> rfl), by repeat (first | (with_reducible first | exact HB.out | apply below_alloc | apply pw_below_drewN | apply below_drew1 | refine below_set ?_ (IsS81.ge HI164.out)) | exact HB.out)⟩

/-! ### impl_padded: function 51 -/
def impl_padded.f (a0 : Int) (a1 : Int) : Option (Int) := if a1 = 0 then (none) else (some (wrap64 ((wrap64 (Int.tdiv (wrap64 ((wrap64 (a0 + a1)) - 1)) a1)) * a1)))
set_option maxHeartbeats 8000000 in
set_option maxRecDepth 100000 in
theorem impl_padded.calls (a0 : Int) (a1 : Int) (r : Int) (w : World) (h : impl_padded.f a0 a1 = some r) :
    Calls Try.prog 51 #[.int .i64 a0, .int .i64 a1] w fun e w' => e = .returned (.int .i64 r) ∧ Drawn0 w w' := by
  have H : (if a1 = 0 then (none) else (some (wrap64 ((wrap64 (Int.tdiv (wrap64 ((wrap64 (a0 + a1)) - 1)) a1)) * a1)))) = some r := h
  clear h
  by_cases c3 : a1 = 0
  · rw [if_pos c3] at H
    exact absurd H (by simp)
  · rw [if_neg c3] at H
    have c3b0 : (a1 == 0) = false := beq_eq_false_iff_ne.mpr c3
    have c3b1 : (a1 != 0) = true := bne_iff_ne.mpr c3
    obtain rfl := Option.some.inj H
    go_enter Try.func51, Try.ntmps51
    go_wp2
    go_ret
    exact ⟨by first | rfl | (simp only [Go.IntWalk.i64_left]; first | done | rfl) | (simp; done) | (simp [*]; done), by repeat (first | exact Drawn0.refl _ | apply Drawn0.step)⟩

/-! ### impl_PaddedCount: function 20 -/
def impl_PaddedCount.f (a0 : Int) (a1 : Int) : Option (Int × Int) := (impl_inRange.f a0 0 1000000000).bind fun t186 => (if t186 = true then ((impl_inRange.f a1 1 1000000000).bind fun t187 => (if t187 = true then ((impl_padded.f a0 a1).bind fun t188 => (some (t188, 0))) else (some (0, 2)))) else (some (0, 2)))
set_option maxHeartbeats 8000000 in
set_option maxRecDepth 100000 in
theorem impl_PaddedCount.calls (a0 : Int) (a1 : Int) (r1 : Int) (r2 : Int) (w : World) (h : impl_PaddedCount.f a0 a1 = some (r1, r2)) :
    Calls Try.prog 20 #[.int .i64 a0, .int .i64 a1] w fun e w' => e = .returned (.tuple #[.int .i64 r1, .int .i64 r2]) ∧ Drawn0 w w' := by
  have H : ((impl_inRange.f a0 0 1000000000).bind fun t186 => (if t186 = true then ((impl_inRange.f a1 1 1000000000).bind fun t187 => (if t187 = true then ((impl_padded.f a0 a1).bind fun t188 => (some (t188, 0))) else (some (0, 2)))) else (some (0, 2)))) = some (r1, r2) := h
  clear h
  replace H := Option.bind_eq_some_iff.mp H
  obtain ⟨t186, A30, H⟩ := H
  replace H : (if t186 = true then ((impl_inRange.f a1 1 1000000000).bind fun t187 => (if t187 = true then ((impl_padded.f a0 a1).bind fun t188 => (some (t188, 0))) else (some (0, 2)))) else (some (0, 2))) = some (r1, r2) := H
  have A3 := Aside0.mk A30
  clear A30
  by_cases c4 : t186 = true
  · subst c4
    have H1 : ((impl_inRange.f a1 1 1000000000).bind fun t187 => (if t187 = true then ((impl_padded.f a0 a1).bind fun t188 => (some (t188, 0))) else (some (0, 2)))) = some (r1, r2) := by rw [if_pos rfl] at H; exact H
    clear H
    have H := H1
    clear H1
    replace H := Option.bind_eq_some_iff.mp H
    obtain ⟨t187, A50, H⟩ := H
    replace H : (if t187 = true then ((impl_padded.f a0 a1).bind fun t188 => (some (t188, 0))) else (some (0, 2))) = some (r1, r2) := H
    have A5 := Aside0.mk A50
    clear A50
    by_cases c6 : t187 = true
    · subst c6
      have H1 : ((impl_padded.f a0 a1).bind fun t188 => (some (t188, 0))) = some (r1, r2) := by rw [if_pos rfl] at H; exact H
      clear H
      have H := H1
      clear H1
      replace H := Option.bind_eq_some_iff.mp H
      obtain ⟨t188, A70, H⟩ := H
      replace H : (some (t188, 0)) = some (r1, r2) := H
      have A7 := Aside0.mk A70
      clear A70
      simp only [Option.some.injEq, Prod.mk.injEq] at H
      obtain ⟨rfl, rfl⟩ := H
      go_enter Try.func20, Try.ntmps20
      go_wp2_with (first | ((with_reducible refine gate_callee (f := 45) rfl ?_); refine goesL_ (some 7) rfl rfl Try.func45 (by kernel_rfl) rfl #[.int .i64 a0, .int .i64 0, .int .i64 1000000000] rfl (by (try simp only [List.map_toArray, List.map_cons, List.map_nil]); first | done | rfl | (simp only [List.length_drop, List.length_take]; rfl)) ?_; (with_reducible refine (impl_inRange.calls a0 0 1000000000 true _ A3.out).mono ?_); rintro e w' ⟨rfl, ⟨nd, rfl⟩⟩; refine ⟨_, rfl, ?_⟩) | (go_at_call 45; (with_reducible refine (impl_inRange.calls a1 1 1000000000 true _ A5.out).mono ?_); rintro e w' ⟨rfl, ⟨nd, rfl⟩⟩) | ((with_reducible refine gate_callee (f := 51) rfl ?_); refine goesL_ (some 16) rfl rfl Try.func51 (by kernel_rfl) rfl #[.int .i64 a0, .int .i64 a1] rfl (by (try simp only [List.map_toArray, List.map_cons, List.map_nil]); first | done | rfl | (simp only [List.length_drop, List.length_take]; rfl)) ?_; (with_reducible refine (impl_padded.calls a0 a1 t188 _ A7.out).mono ?_); rintro e w' ⟨rfl, ⟨nd, rfl⟩⟩; refine ⟨_, rfl, ?_⟩))
      go_ret2
      exact ⟨by first | rfl | (simp only [Go.IntWalk.i64_left]; first | done | rfl) | (simp; done) | (simp [*]; done), by repeat (first | exact Drawn0.refl _ | apply Drawn0.step)⟩
    · replace c6 := Bool.eq_false_iff.mpr c6
      subst c6
      have H1 : (some (0, 2)) = some (r1, r2) := by rw [if_neg (show ¬ (false = true) by decide)] at H; exact H
      clear H
      have H := H1
      clear H1
      simp only [Option.some.injEq, Prod.mk.injEq] at H
      obtain ⟨rfl, rfl⟩ := H
      go_enter Try.func20, Try.ntmps20
      go_wp2_with (first | ((with_reducible refine gate_callee (f := 45) rfl ?_); refine goesL_ (some 7) rfl rfl Try.func45 (by kernel_rfl) rfl #[.int .i64 a0, .int .i64 0, .int .i64 1000000000] rfl (by (try simp only [List.map_toArray, List.map_cons, List.map_nil]); first | done | rfl | (simp only [List.length_drop, List.length_take]; rfl)) ?_; (with_reducible refine (impl_inRange.calls a0 0 1000000000 true _ A3.out).mono ?_); rintro e w' ⟨rfl, ⟨nd, rfl⟩⟩; refine ⟨_, rfl, ?_⟩) | (go_at_call 45; (with_reducible refine (impl_inRange.calls a1 1 1000000000 false _ A5.out).mono ?_); rintro e w' ⟨rfl, ⟨nd, rfl⟩⟩))
      go_ret2
      exact ⟨by first | rfl | (simp only [Go.IntWalk.i64_left]; first | done | rfl) | (simp; done) | (simp [*]; done), by repeat (first | exact Drawn0.refl _ | apply Drawn0.step)⟩
  · replace c4 := Bool.eq_false_iff.mpr c4
    subst c4
    have H1 : (some (0, 2)) = some (r1, r2) := by rw [if_neg (show ¬ (false = true) by decide)] at H; exact H
    clear H
    have H := H1
    clear H1
    simp only [Option.some.injEq, Prod.mk.injEq] at H
    obtain ⟨rfl, rfl⟩ := H
    go_enter Try.func20, Try.ntmps20
    go_wp2_with (first | ((with_reducible refine gate_callee (f := 45) rfl ?_); refine goesL_ (some 7) rfl rfl Try.func45 (by kernel_rfl) rfl #[.int .i64 a0, .int .i64 0, .int .i64 1000000000] rfl (by (try simp only [List.map_toArray, List.map_cons, List.map_nil]); first | done | rfl | (simp only [List.length_drop, List.length_take]; rfl)) ?_; (with_reducible refine (impl_inRange.calls a0 0 1000000000 false _ A3.out).mono ?_); rintro e w' ⟨rfl, ⟨nd, rfl⟩⟩; refine ⟨_, rfl, ?_⟩))
    go_ret2
    exact ⟨by first | rfl | (simp only [Go.IntWalk.i64_left]; first | done | rfl) | (simp; done) | (simp [*]; done), by repeat (first | exact Drawn0.refl _ | apply Drawn0.step)⟩

/-! ### spec_l01Ceil: function 52 -/
def spec_l01Ceil.f (a0 : Int) (a1 : Int) : Option (Int) := if a1 = 0 then (none) else (some (wrap64 (Int.tdiv (wrap64 ((wrap64 (a0 + a1)) - 1)) a1)))
set_option maxHeartbeats 8000000 in
set_option maxRecDepth 100000 in
theorem spec_l01Ceil.calls (a0 : Int) (a1 : Int) (r : Int) (w : World) (h : spec_l01Ceil.f a0 a1 = some r) :
    Calls Try.prog 52 #[.int .i64 a0, .int .i64 a1] w fun e w' => e = .returned (.int .i64 r) ∧ Drawn0 w w' := by
  have H : (if a1 = 0 then (none) else (some (wrap64 (Int.tdiv (wrap64 ((wrap64 (a0 + a1)) - 1)) a1)))) = some r := h
  clear h
  by_cases c3 : a1 = 0
  · rw [if_pos c3] at H
    exact absurd H (by simp)
  · rw [if_neg c3] at H
    have c3b0 : (a1 == 0) = false := beq_eq_false_iff_ne.mpr c3
    have c3b1 : (a1 != 0) = true := bne_iff_ne.mpr c3
    obtain rfl := Option.some.inj H
    go_enter Try.func52, Try.ntmps52
    go_wp2
    go_ret
    exact ⟨by first | rfl | (simp only [Go.IntWalk.i64_left]; first | done | rfl) | (simp; done) | (simp [*]; done), by repeat (first | exact Drawn0.refl _ | apply Drawn0.step)⟩

/-! ### spec_PaddedCount: function 21 -/
def spec_PaddedCount.f (a0 : Int) (a1 : Int) : Option (Int × Int) := (spec_l01In.f a0 0 1000000000).bind fun t189 => (if t189 = true then ((spec_l01In.f a1 1 1000000000).bind fun t190 => (if t190 = true then ((spec_l01Ceil.f a0 a1).bind fun t191 => (some (wrap64 (t191 * a1), 0))) else (some (0, 2)))) else (some (0, 2)))
set_option maxHeartbeats 8000000 in
set_option maxRecDepth 100000 in
theorem spec_PaddedCount.calls (a0 : Int) (a1 : Int) (r1 : Int) (r2 : Int) (w : World) (h : spec_PaddedCount.f a0 a1 = some (r1, r2)) :
    Calls Try.prog 21 #[.int .i64 a0, .int .i64 a1] w fun e w' => e = .returned (.tuple #[.int .i64 r1, .int .i64 r2]) ∧ Drawn0 w w' := by
  have H : ((spec_l01In.f a0 0 1000000000).bind fun t189 => (if t189 = true then ((spec_l01In.f a1 1 1000000000).bind fun t190 => (if t190 = true then ((spec_l01Ceil.f a0 a1).bind fun t191 => (some (wrap64 (t191 * a1), 0))) else (some (0, 2)))) else (some (0, 2)))) = some (r1, r2) := h
  clear h
  replace H := Option.bind_eq_some_iff.mp H
  obtain ⟨t189, A30, H⟩ := H
  replace H : (if t189 = true then ((spec_l01In.f a1 1 1000000000).bind fun t190 => (if t190 = true then ((spec_l01Ceil.f a0 a1).bind fun t191 => (some (wrap64 (t191 * a1), 0))) else (some (0, 2)))) else (some (0, 2))) = some (r1, r2) := H
  have A3 := Aside0.mk A30
  clear A30
  by_cases c4 : t189 = true
  · subst c4
    have H1 : ((spec_l01In.f a1 1 1000000000).bind fun t190 => (if t190 = true then ((spec_l01Ceil.f a0 a1).bind fun t191 => (some (wrap64 (t191 * a1), 0))) else (some (0, 2)))) = some (r1, r2) := by rw [if_pos rfl] at H; exact H
    clear H
    have H := H1
    clear H1
    replace H := Option.bind_eq_some_iff.mp H
    obtain ⟨t190, A50, H⟩ := H
    replace H : (if t190 = true then ((spec_l01Ceil.f a0 a1).bind fun t191 => (some (wrap64 (t191 * a1), 0))) else (some (0, 2))) = some (r1, r2) := H
    have A5 := Aside0.mk A50
    clear A50
    by_cases c6 : t190 = true
    · subst c6
      have H1 : ((spec_l01Ceil.f a0 a1).bind fun t191 => (some (wrap64 (t191 * a1), 0))) = some (r1, r2) := by rw [if_pos rfl] at H; exact H
      clear H
      have H := H1
      clear H1
      replace H := Option.bind_eq_some_iff.mp H
      obtain ⟨t191, A70, H⟩ := H
      replace H : (some (wrap64 (t191 * a1), 0)) = some (r1, r2) := H
      have A7 := Aside0.mk A70
      clear A70
      simp only [Option.some.injEq, Prod.mk.injEq] at H
      obtain ⟨rfl, rfl⟩ := H
      go_enter Try.func21, Try.ntmps21
      go_wp2_with (first | ((with_reducible refine gate_callee (f := 43) rfl ?_); refine goesL_ (some 7) rfl rfl Try.func43 (by kernel_rfl) rfl #[.int .i64 a0, .int .i64 0, .int .i64 1000000000] rfl (by (try simp only [List.map_toArray, List.map_cons, List.map_nil]); first | done | rfl | (simp only [List.length_drop, List.length_take]; rfl)) ?_; (with_reducible refine (spec_l01In.calls a0 0 1000000000 true _ A3.out).mono ?_); rintro e w' ⟨rfl, ⟨nd, rfl⟩⟩; refine ⟨_, rfl, ?_⟩) | (go_at_call 43; (with_reducible refine (spec_l01In.calls a1 1 1000000000 true _ A5.out).mono ?_); rintro e w' ⟨rfl, ⟨nd, rfl⟩⟩) | ((with_reducible refine gate_callee (f := 52) rfl ?_); refine goesL_ (some 16) rfl rfl Try.func52 (by kernel_rfl) rfl #[.int .i64 a0, .int .i64 a1] rfl (by (try simp only [List.map_toArray, List.map_cons, List.map_nil]); first | done | rfl | (simp only [List.length_drop, List.length_take]; rfl)) ?_; (with_reducible refine (spec_l01Ceil.calls a0 a1 t191 _ A7.out).mono ?_); rintro e w' ⟨rfl, ⟨nd, rfl⟩⟩; refine ⟨_, rfl, ?_⟩))
      go_ret2
      exact ⟨by first | rfl | (simp only [Go.IntWalk.i64_left]; first | done | rfl) | (simp; done) | (simp [*]; done), by repeat (first | exact Drawn0.refl _ | apply Drawn0.step)⟩
    · replace c6 := Bool.eq_false_iff.mpr c6
      subst c6
      have H1 : (some (0, 2)) = some (r1, r2) := by rw [if_neg (show ¬ (false = true) by decide)] at H; exact H
      clear H
      have H := H1
      clear H1
      simp only [Option.some.injEq, Prod.mk.injEq] at H
      obtain ⟨rfl, rfl⟩ := H
      go_enter Try.func21, Try.ntmps21
      go_wp2_with (first | ((with_reducible refine gate_callee (f := 43) rfl ?_); refine goesL_ (some 7) rfl rfl Try.func43 (by kernel_rfl) rfl #[.int .i64 a0, .int .i64 0, .int .i64 1000000000] rfl (by (try simp only [List.map_toArray, List.map_cons, List.map_nil]); first | done | rfl | (simp only [List.length_drop, List.length_take]; rfl)) ?_; (with_reducible refine (spec_l01In.calls a0 0 1000000000 true _ A3.out).mono ?_); rintro e w' ⟨rfl, ⟨nd, rfl⟩⟩; refine ⟨_, rfl, ?_⟩) | (go_at_call 43; (with_reducible refine (spec_l01In.calls a1 1 1000000000 false _ A5.out).mono ?_); rintro e w' ⟨rfl, ⟨nd, rfl⟩⟩))
      go_ret2
      exact ⟨by first | rfl | (simp only [Go.IntWalk.i64_left]; first | done | rfl) | (simp; done) | (simp [*]; done), by repeat (first | exact Drawn0.refl _ | apply Drawn0.step)⟩
  · replace c4 := Bool.eq_false_iff.mpr c4
    subst c4
    have H1 : (some (0, 2)) = some (r1, r2) := by rw [if_neg (show ¬ (false = true) by decide)] at H; exact H
    clear H
    have H := H1
    clear H1
    simp only [Option.some.injEq, Prod.mk.injEq] at H
    obtain ⟨rfl, rfl⟩ := H
    go_enter Try.func21, Try.ntmps21
    go_wp2_with (first | ((with_reducible refine gate_callee (f := 43) rfl ?_); refine goesL_ (some 7) rfl rfl Try.func43 (by kernel_rfl) rfl #[.int .i64 a0, .int .i64 0, .int .i64 1000000000] rfl (by (try simp only [List.map_toArray, List.map_cons, List.map_nil]); first | done | rfl | (simp only [List.length_drop, List.length_take]; rfl)) ?_; (with_reducible refine (spec_l01In.calls a0 0 1000000000 false _ A3.out).mono ?_); rintro e w' ⟨rfl, ⟨nd, rfl⟩⟩; refine ⟨_, rfl, ?_⟩))
    go_ret2
    exact ⟨by first | rfl | (simp only [Go.IntWalk.i64_left]; first | done | rfl) | (simp; done) | (simp [*]; done), by repeat (first | exact Drawn0.refl _ | apply Drawn0.step)⟩

end Go.Proofs.Ytcgjeglkgdakcaa.QFnRomans
