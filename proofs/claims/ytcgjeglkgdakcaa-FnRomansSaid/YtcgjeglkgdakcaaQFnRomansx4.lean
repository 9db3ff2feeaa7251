-- Written by own_print.py of this session's repo over the kit's print (its output, turned at some places).
import Derived.Test.YtcgjeglkgdakcaaQFnRomansx0
import Derived.Test.YtcgjeglkgdakcaaQFnRomansx1
import Derived.Test.YtcgjeglkgdakcaaQFnRomansx2
import Derived.Test.YtcgjeglkgdakcaaQFnRomansx3
namespace Go.Proofs.Ytcgjeglkgdakcaa.QFnRomans
open Go.RowKit Go.Proofs.YtcgjeglkgdakcaaW.PrintWords Go.Proofs.YtcgjeglkgdakcaaW.PrintLast Go.Proofs.YtcgjeglkgdakcaaW.PrintMore
attribute [local go_sem] max2_int min2_int max_two min_two max_three min_three max_four min_four   -- for this text's walks alone
set_option linter.unusedVariables false
set_option linter.unusedSimpArgs false

/-! ### laws_FnRomans: function 5 -/
def laws_FnRomans.j0 : Nat → Int → ByteArray → Int → Int → Int → Int → Bool → Option (Bool)
  | 0, _, _, _, _, _, _, _ => none
  | k + 1, x3, x4, x10, x11, x12, x13, x76 => if x76 = true then (some false) else (if x4.toList = ([] : List UInt8) then (if x13 = 0 then (if x11 = 0 then (none) else (if (Int.tmod x12 x11) = 0 then (if x12 ≥ x10 then (some (decide (x12 < (wrap64 (x10 + x11))))) else (some false)) else (some false))) else (some true)) else ((impl_ReadRoman.f k x4).bind fun bt207 => (if bt207.2 = true then (if bt207.1 = x3 then (if x13 = 0 then (if x11 = 0 then (none) else (if (Int.tmod x12 x11) = 0 then (if x12 ≥ x10 then (some (decide (x12 < (wrap64 (x10 + x11))))) else (some false)) else (some false))) else (some true)) else (some false)) else (some false))))
def laws_FnRomans.f (k : Nat) (l0 : List Int) : Option (Bool) := (laws_big.f l0).bind fun t192 => (if t192 = true then (some true) else ((spec_DrawRomanText.f k l0).bind fun t193 => ((impl_RomanText.f t193).bind fun t194 => ((spec_DrawReadRoman.f k l0).bind fun t195 => ((impl_ReadRoman.f k t195).bind fun bt196 => ((spec_ReadRoman.f k t195).bind fun bt198 => ((spec_DrawPaddedCount.f k l0).bind fun bt200 => ((impl_PaddedCount.f bt200.1 bt200.2).bind fun bt202 => ((spec_PaddedCount.f bt200.1 bt200.2).bind fun bt204 => ((spec_RomanText.f k t193).bind fun t206 => (if t194.toList = t206.toList then (if bt196.1 = bt198.1 then (if (bt196.2 != bt198.2) = true then (laws_FnRomans.j0 k t193 t194 bt200.1 bt200.2 bt202.1 bt202.2 true) else (if bt202.2 = bt204.2 then (laws_FnRomans.j0 k t193 t194 bt200.1 bt200.2 bt202.1 bt202.2 (bt202.1 != bt204.1)) else (laws_FnRomans.j0 k t193 t194 bt200.1 bt200.2 bt202.1 bt202.2 true))) else (laws_FnRomans.j0 k t193 t194 bt200.1 bt200.2 bt202.1 bt202.2 true)) else (laws_FnRomans.j0 k t193 t194 bt200.1 bt200.2 bt202.1 bt202.2 true))))))))))))
theorem laws_FnRomans.mono_l : ∀ k, (∀ y0 y1 y2 y3 y4 y5 y6, LeO (laws_FnRomans.j0 k y0 y1 y2 y3 y4 y5 y6) (laws_FnRomans.j0 (k + 1) y0 y1 y2 y3 y4 y5 y6))
  | 0 => fun _ _ _ _ _ _ _ r h => by simp [laws_FnRomans.j0] at h
  | k + 1 => by
    have ih0 := laws_FnRomans.mono_l k
    · intro y0 y1 y2 y3 y4 y5 y6
      unfold laws_FnRomans.j0
      repeat' first
      | (with_reducible exact ih0 _ _ _ _ _ _ _)
      | (with_reducible exact impl_ReadRoman.mono _ _)
      | (with_reducible exact spec_DrawPaddedCount.mono _ _)
      | (with_reducible exact spec_DrawReadRoman.mono _ _)
      | (with_reducible exact spec_DrawRomanText.mono _ _)
      | (with_reducible exact spec_ReadRoman.mono _ _)
      | (with_reducible exact spec_RomanText.mono _ _)
      | (with_reducible exact LeO.refl _)
      | (with_reducible exact LeO.none _)
      | (with_reducible refine LeO.ite ?_ ?_)
      | (with_reducible refine LeO.bind ?_ (fun _ => ?_))
      | exact ih0 _ _ _ _ _ _ _
      | exact impl_ReadRoman.mono _ _
      | exact spec_DrawPaddedCount.mono _ _
      | exact spec_DrawReadRoman.mono _ _
      | exact spec_DrawRomanText.mono _ _
      | exact spec_ReadRoman.mono _ _
      | exact spec_RomanText.mono _ _
      | exact LeO.none _
      | refine LeO.ite ?_ ?_
      | refine LeO.bind ?_ (fun _ => ?_)
theorem laws_FnRomans.mono : ∀ a0 k, LeO (laws_FnRomans.f k a0) (laws_FnRomans.f (k + 1) a0) := by
  intro a0 k
  have ih0 := laws_FnRomans.mono_l k
  unfold laws_FnRomans.f
  repeat' first
      | (with_reducible exact ih0 _ _ _ _ _ _ _)
      | (with_reducible exact impl_ReadRoman.mono _ _)
      | (with_reducible exact spec_DrawPaddedCount.mono _ _)
      | (with_reducible exact spec_DrawReadRoman.mono _ _)
      | (with_reducible exact spec_DrawRomanText.mono _ _)
      | (with_reducible exact spec_ReadRoman.mono _ _)
      | (with_reducible exact spec_RomanText.mono _ _)
      | (with_reducible exact LeO.refl _)
      | (with_reducible exact LeO.none _)
      | (with_reducible refine LeO.ite ?_ ?_)
      | (with_reducible refine LeO.bind ?_ (fun _ => ?_))
      | exact ih0 _ _ _ _ _ _ _
      | exact impl_ReadRoman.mono _ _
      | exact spec_DrawPaddedCount.mono _ _
      | exact spec_DrawReadRoman.mono _ _
      | exact spec_DrawRomanText.mono _ _
      | exact spec_ReadRoman.mono _ _
      | exact spec_RomanText.mono _ _
      | exact LeO.none _
      | refine LeO.ite ?_ ?_
      | refine LeO.bind ?_ (fun _ => ?_)
set_option maxHeartbeats 8000000 in
set_option maxRecDepth 100000 in
theorem laws_FnRomans.calls (k : Nat) (A0 : Option Addr) (c0 : Nat) (l0 : List Int) (r : Bool) (w : World) (hr0 : Kd.C (Kd.int .u8) w A0 l0.length l0) (hc0 : l0.length ≤ c0) (h : laws_FnRomans.f k l0 = some r) :
    Calls Try.prog 5 #[.slice A0 l0.length c0] w fun e w' => e = .returned (.bool r) ∧ Below w.heap.size w w' := by
  have HR0 := Aside0.mk hr0
  have HC0 := Aside0.mk hc0
  clear hr0 hc0
  have HB := Aside0.mk (Below.refl w.heap.size w)
  have H : ((laws_big.f l0).bind fun t192 => (if t192 = true then (some true) else ((spec_DrawRomanText.f k l0).bind fun t193 => ((impl_RomanText.f t193).bind fun t194 => ((spec_DrawReadRoman.f k l0).bind fun t195 => ((impl_ReadRoman.f k t195).bind fun bt196 => ((spec_ReadRoman.f k t195).bind fun bt198 => ((spec_DrawPaddedCount.f k l0).bind fun bt200 => ((impl_PaddedCount.f bt200.1 bt200.2).bind fun bt202 => ((spec_PaddedCount.f bt200.1 bt200.2).bind fun bt204 => ((spec_RomanText.f k t193).bind fun t206 => (if t194.toList = t206.toList then (if bt196.1 = bt198.1 then (if (bt196.2 != bt198.2) = true then (laws_FnRomans.j0 k t193 t194 bt200.1 bt200.2 bt202.1 bt202.2 true) else (if bt202.2 = bt204.2 then (laws_FnRomans.j0 k t193 t194 bt200.1 bt200.2 bt202.1 bt202.2 (bt202.1 != bt204.1)) else (laws_FnRomans.j0 k t193 t194 bt200.1 bt200.2 bt202.1 bt202.2 true))) else (laws_FnRomans.j0 k t193 t194 bt200.1 bt200.2 bt202.1 bt202.2 true)) else (laws_FnRomans.j0 k t193 t194 bt200.1 bt200.2 bt202.1 bt202.2 true))))))))))))) = some r := h
  clear h
  replace H := Option.bind_eq_some_iff.mp H
  obtain ⟨t192, A20, H⟩ := H
  replace H : (if t192 = true then (some true) else ((spec_DrawRomanText.f k l0).bind fun t193 => ((impl_RomanText.f t193).bind fun t194 => ((spec_DrawReadRoman.f k l0).bind fun t195 => ((impl_ReadRoman.f k t195).bind fun bt196 => ((spec_ReadRoman.f k t195).bind fun bt198 => ((spec_DrawPaddedCount.f k l0).bind fun bt200 => ((impl_PaddedCount.f bt200.1 bt200.2).bind fun bt202 => ((spec_PaddedCount.f bt200.1 bt200.2).bind fun bt204 => ((spec_RomanText.f k t193).bind fun t206 => (if t194.toList = t206.toList then (if bt196.1 = bt198.1 then (if (bt196.2 != bt198.2) = true then (laws_FnRomans.j0 k t193 t194 bt200.1 bt200.2 bt202.1 bt202.2 true) else (if bt202.2 = bt204.2 then (laws_FnRomans.j0 k t193 t194 bt200.1 bt200.2 bt202.1 bt202.2 (bt202.1 != bt204.1)) else (laws_FnRomans.j0 k t193 t194 bt200.1 bt200.2 bt202.1 bt202.2 true))) else (laws_FnRomans.j0 k t193 t194 bt200.1 bt200.2 bt202.1 bt202.2 true)) else (laws_FnRomans.j0 k t193 t194 bt200.1 bt200.2 bt202.1 bt202.2 true)))))))))))) = some r := H
  have A2 := Aside0.mk A20
  clear A20
  by_cases c3 : t192 = true
  · subst c3
    have H1 : (some true) = some r := by rw [if_pos rfl] at H; exact H
    clear H
    have H := H1
    clear H1
    obtain rfl := Option.some.inj H
    go_enter Try.func5, Try.ntmps5
    go_wp2_with (first | ((with_reducible refine gate_callee (f := 16) rfl ?_); refine goesL_ (some 19) rfl rfl Try.func16 (by kernel_rfl) rfl #[.slice A0 l0.length c0] rfl (by (try simp only [List.map_toArray, List.map_cons, List.map_nil]); first | done | rfl | (simp only [List.length_drop, List.length_take]; rfl)) ?_; (with_reducible refine (laws_big.calls _ _ l0 true _ ?side1 ?side2 A2.out).mono ?_); (case side1 => repeat (first | exact HR0.out | (with_reducible refine Kd.C_alloc ?_ _) | (with_reducible refine Kd.C_drewN ?_ _) | (with_reducible refine Kd.C_drew ?_))); (case side2 => exact HC0.out); rintro e w' ⟨rfl, ⟨nd, rfl⟩⟩; refine ⟨_, rfl, ?_⟩))
    go_ret
    exact ⟨by first | rfl | (simp only [Go.IntWalk.i64_left]; first | done | rfl) | (simp [errW_none, errW_some] <;> rfl) | (simp [*, errW_none, errW_some] <;> rfl), by repeat (first | (with_reducible first | exact HB.out | apply below_alloc | apply pw_below_drewN | apply below_drew1) | exact HB.out)⟩
  · replace c3 := Bool.eq_false_iff.mpr c3
    subst c3
    have H1 : ((spec_DrawRomanText.f k l0).bind fun t193 => ((impl_RomanText.f t193).bind fun t194 => ((spec_DrawReadRoman.f k l0).bind fun t195 => ((impl_ReadRoman.f k t195).bind fun bt196 => ((spec_ReadRoman.f k t195).bind fun bt198 => ((spec_DrawPaddedCount.f k l0).bind fun bt200 => ((impl_PaddedCount.f bt200.1 bt200.2).bind fun bt202 => ((spec_PaddedCount.f bt200.1 bt200.2).bind fun bt204 => ((spec_RomanText.f k t193).bind fun t206 => (if t194.toList = t206.toList then (if bt196.1 = bt198.1 then (if (bt196.2 != bt198.2) = true then (laws_FnRomans.j0 k t193 t194 bt200.1 bt200.2 bt202.1 bt202.2 true) else (if bt202.2 = bt204.2 then (laws_FnRomans.j0 k t193 t194 bt200.1 bt200.2 bt202.1 bt202.2 (bt202.1 != bt204.1)) else (laws_FnRomans.j0 k t193 t194 bt200.1 bt200.2 bt202.1 bt202.2 true))) else (laws_FnRomans.j0 k t193 t194 bt200.1 bt200.2 bt202.1 bt202.2 true)) else (laws_FnRomans.j0 k t193 t194 bt200.1 bt200.2 bt202.1 bt202.2 true))))))))))) = some r := by rw [if_neg (show ¬ (false = true) by decide)] at H; exact H
    clear H
    have H := H1
    clear H1
    replace H := Option.bind_eq_some_iff.mp H
    obtain ⟨t193, A40, H⟩ := H
    replace H : ((impl_RomanText.f t193).bind fun t194 => ((spec_DrawReadRoman.f k l0).bind fun t195 => ((impl_ReadRoman.f k t195).bind fun bt196 => ((spec_ReadRoman.f k t195).bind fun bt198 => ((spec_DrawPaddedCount.f k l0).bind fun bt200 => ((impl_PaddedCount.f bt200.1 bt200.2).bind fun bt202 => ((spec_PaddedCount.f bt200.1 bt200.2).bind fun bt204 => ((spec_RomanText.f k t193).bind fun t206 => (if t194.toList = t206.toList then (if bt196.1 = bt198.1 then (if (bt196.2 != bt198.2) = true then (laws_FnRomans.j0 k t193 t194 bt200.1 bt200.2 bt202.1 bt202.2 true) else (if bt202.2 = bt204.2 then (laws_FnRomans.j0 k t193 t194 bt200.1 bt200.2 bt202.1 bt202.2 (bt202.1 != bt204.1)) else (laws_FnRomans.j0 k t193 t194 bt200.1 bt200.2 bt202.1 bt202.2 true))) else (laws_FnRomans.j0 k t193 t194 bt200.1 bt200.2 bt202.1 bt202.2 true)) else (laws_FnRomans.j0 k t193 t194 bt200.1 bt200.2 bt202.1 bt202.2 true)))))))))) = some r := H
    have A4 := Aside0.mk A40
    clear A40
    replace H := Option.bind_eq_some_iff.mp H
    obtain ⟨t194, A50, H⟩ := H
    replace H : ((spec_DrawReadRoman.f k l0).bind fun t195 => ((impl_ReadRoman.f k t195).bind fun bt196 => ((spec_ReadRoman.f k t195).bind fun bt198 => ((spec_DrawPaddedCount.f k l0).bind fun bt200 => ((impl_PaddedCount.f bt200.1 bt200.2).bind fun bt202 => ((spec_PaddedCount.f bt200.1 bt200.2).bind fun bt204 => ((spec_RomanText.f k t193).bind fun t206 => (if t194.toList = t206.toList then (if bt196.1 = bt198.1 then (if (bt196.2 != bt198.2) = true then (laws_FnRomans.j0 k t193 t194 bt200.1 bt200.2 bt202.1 bt202.2 true) else (if bt202.2 = bt204.2 then (laws_FnRomans.j0 k t193 t194 bt200.1 bt200.2 bt202.1 bt202.2 (bt202.1 != bt204.1)) else (laws_FnRomans.j0 k t193 t194 bt200.1 bt200.2 bt202.1 bt202.2 true))) else (laws_FnRomans.j0 k t193 t194 bt200.1 bt200.2 bt202.1 bt202.2 true)) else (laws_FnRomans.j0 k t193 t194 bt200.1 bt200.2 bt202.1 bt202.2 true))))))))) = some r := H
    have A5 := Aside0.mk A50
    clear A50
    replace H := Option.bind_eq_some_iff.mp H
    obtain ⟨t195, A60, H⟩ := H
    replace H : ((impl_ReadRoman.f k t195).bind fun bt196 => ((spec_ReadRoman.f k t195).bind fun bt198 => ((spec_DrawPaddedCount.f k l0).bind fun bt200 => ((impl_PaddedCount.f bt200.1 bt200.2).bind fun bt202 => ((spec_PaddedCount.f bt200.1 bt200.2).bind fun bt204 => ((spec_RomanText.f k t193).bind fun t206 => (if t194.toList = t206.toList then (if bt196.1 = bt198.1 then (if (bt196.2 != bt198.2) = true then (laws_FnRomans.j0 k t193 t194 bt200.1 bt200.2 bt202.1 bt202.2 true) else (if bt202.2 = bt204.2 then (laws_FnRomans.j0 k t193 t194 bt200.1 bt200.2 bt202.1 bt202.2 (bt202.1 != bt204.1)) else (laws_FnRomans.j0 k t193 t194 bt200.1 bt200.2 bt202.1 bt202.2 true))) else (laws_FnRomans.j0 k t193 t194 bt200.1 bt200.2 bt202.1 bt202.2 true)) else (laws_FnRomans.j0 k t193 t194 bt200.1 bt200.2 bt202.1 bt202.2 true)))))))) = some r := H
    have A6 := Aside0.mk A60
    clear A60
    replace H := Option.bind_eq_some_iff.mp H
    obtain ⟨⟨t196, t197⟩, A70, H⟩ := H
    replace H : ((spec_ReadRoman.f k t195).bind fun bt198 => ((spec_DrawPaddedCount.f k l0).bind fun bt200 => ((impl_PaddedCount.f bt200.1 bt200.2).bind fun bt202 => ((spec_PaddedCount.f bt200.1 bt200.2).bind fun bt204 => ((spec_RomanText.f k t193).bind fun t206 => (if t194.toList = t206.toList then (if t196 = bt198.1 then (if (t197 != bt198.2) = true then (laws_FnRomans.j0 k t193 t194 bt200.1 bt200.2 bt202.1 bt202.2 true) else (if bt202.2 = bt204.2 then (laws_FnRomans.j0 k t193 t194 bt200.1 bt200.2 bt202.1 bt202.2 (bt202.1 != bt204.1)) else (laws_FnRomans.j0 k t193 t194 bt200.1 bt200.2 bt202.1 bt202.2 true))) else (laws_FnRomans.j0 k t193 t194 bt200.1 bt200.2 bt202.1 bt202.2 true)) else (laws_FnRomans.j0 k t193 t194 bt200.1 bt200.2 bt202.1 bt202.2 true))))))) = some r := H
    have A7 := Aside0.mk A70
    clear A70
    replace H := Option.bind_eq_some_iff.mp H
    obtain ⟨⟨t198, t199⟩, A80, H⟩ := H
    replace H : ((spec_DrawPaddedCount.f k l0).bind fun bt200 => ((impl_PaddedCount.f bt200.1 bt200.2).bind fun bt202 => ((spec_PaddedCount.f bt200.1 bt200.2).bind fun bt204 => ((spec_RomanText.f k t193).bind fun t206 => (if t194.toList = t206.toList then (if t196 = t198 then (if (t197 != t199) = true then (laws_FnRomans.j0 k t193 t194 bt200.1 bt200.2 bt202.1 bt202.2 true) else (if bt202.2 = bt204.2 then (laws_FnRomans.j0 k t193 t194 bt200.1 bt200.2 bt202.1 bt202.2 (bt202.1 != bt204.1)) else (laws_FnRomans.j0 k t193 t194 bt200.1 bt200.2 bt202.1 bt202.2 true))) else (laws_FnRomans.j0 k t193 t194 bt200.1 bt200.2 bt202.1 bt202.2 true)) else (laws_FnRomans.j0 k t193 t194 bt200.1 bt200.2 bt202.1 bt202.2 true)))))) = some r := H
    have A8 := Aside0.mk A80
    clear A80
    replace H := Option.bind_eq_some_iff.mp H
    obtain ⟨⟨t200, t201⟩, A90, H⟩ := H
    replace H : ((impl_PaddedCount.f t200 t201).bind fun bt202 => ((spec_PaddedCount.f t200 t201).bind fun bt204 => ((spec_RomanText.f k t193).bind fun t206 => (if t194.toList = t206.toList then (if t196 = t198 then (if (t197 != t199) = true then (laws_FnRomans.j0 k t193 t194 t200 t201 bt202.1 bt202.2 true) else (if bt202.2 = bt204.2 then (laws_FnRomans.j0 k t193 t194 t200 t201 bt202.1 bt202.2 (bt202.1 != bt204.1)) else (laws_FnRomans.j0 k t193 t194 t200 t201 bt202.1 bt202.2 true))) else (laws_FnRomans.j0 k t193 t194 t200 t201 bt202.1 bt202.2 true)) else (laws_FnRomans.j0 k t193 t194 t200 t201 bt202.1 bt202.2 true))))) = some r := H
    have A9 := Aside0.mk A90
    clear A90
    replace H := Option.bind_eq_some_iff.mp H
    obtain ⟨⟨t202, t203⟩, A100, H⟩ := H
    replace H : ((spec_PaddedCount.f t200 t201).bind fun bt204 => ((spec_RomanText.f k t193).bind fun t206 => (if t194.toList = t206.toList then (if t196 = t198 then (if (t197 != t199) = true then (laws_FnRomans.j0 k t193 t194 t200 t201 t202 t203 true) else (if t203 = bt204.2 then (laws_FnRomans.j0 k t193 t194 t200 t201 t202 t203 (t202 != bt204.1)) else (laws_FnRomans.j0 k t193 t194 t200 t201 t202 t203 true))) else (laws_FnRomans.j0 k t193 t194 t200 t201 t202 t203 true)) else (laws_FnRomans.j0 k t193 t194 t200 t201 t202 t203 true)))) = some r := H
    have A10 := Aside0.mk A100
    clear A100
    replace H := Option.bind_eq_some_iff.mp H
    obtain ⟨⟨t204, t205⟩, A110, H⟩ := H
    replace H : ((spec_RomanText.f k t193).bind fun t206 => (if t194.toList = t206.toList then (if t196 = t198 then (if (t197 != t199) = true then (laws_FnRomans.j0 k t193 t194 t200 t201 t202 t203 true) else (if t203 = t205 then (laws_FnRomans.j0 k t193 t194 t200 t201 t202 t203 (t202 != t204)) else (laws_FnRomans.j0 k t193 t194 t200 t201 t202 t203 true))) else (laws_FnRomans.j0 k t193 t194 t200 t201 t202 t203 true)) else (laws_FnRomans.j0 k t193 t194 t200 t201 t202 t203 true))) = some r := H
    have A11 := Aside0.mk A110
    clear A110
    have HC12 := Aside0.mk H
    clear H
    go_enter Try.func5, Try.ntmps5
    go_upto_region 11 with (first | ((with_reducible refine gate_callee (f := 16) rfl ?_); refine goesL_ (some 19) rfl rfl Try.func16 (by kernel_rfl) rfl #[.slice A0 l0.length c0] rfl (by (try simp only [List.map_toArray, List.map_cons, List.map_nil]); first | done | rfl | (simp only [List.length_drop, List.length_take]; rfl)) ?_; (with_reducible refine (laws_big.calls _ _ l0 false _ ?side1 ?side2 A2.out).mono ?_); (case side1 => repeat (first | exact HR0.out | (with_reducible refine Kd.C_alloc ?_ _) | (with_reducible refine Kd.C_drewN ?_ _) | (with_reducible refine Kd.C_drew ?_))); (case side2 => exact HC0.out); rintro e w' ⟨rfl, ⟨nd, rfl⟩⟩; refine ⟨_, rfl, ?_⟩) | ((with_reducible refine gate_callee (f := 17) rfl ?_); refine goesL_ (some 21) rfl rfl Try.func17 (by kernel_rfl) rfl #[.slice A0 l0.length c0] rfl (by (try simp only [List.map_toArray, List.map_cons, List.map_nil]); first | done | rfl | (simp only [List.length_drop, List.length_take]; rfl)) ?_; (with_reducible refine (spec_DrawRomanText.calls k _ _ l0 t193 _ ?side1 ?side2 A4.out).mono ?_); (case side1 => repeat (first | exact HR0.out | (with_reducible refine Kd.C_alloc ?_ _) | (with_reducible refine Kd.C_drewN ?_ _) | (with_reducible refine Kd.C_drew ?_))); (case side2 => exact HC0.out); rintro e w13 ⟨rfl, hb⟩; refine ⟨_, rfl, ?_⟩; have n0_ := Aside0.mk (below_step (by repeat (first | (with_reducible first | exact HB.out | apply below_alloc | apply pw_below_drewN | apply below_drew1) | exact HB.out)) hb); clear HB; have HB := n0_; clear n0_; (try clear hb); (try clear hb2); (try clear hk); (try clear hi)) | ((with_reducible refine gate_callee (f := 13) rfl ?_); refine goesL_ (some 23) rfl rfl Try.func13 (by kernel_rfl) rfl #[.int .i64 t193] rfl (by (try simp only [List.map_toArray, List.map_cons, List.map_nil]); first | done | rfl | (simp only [List.length_drop, List.length_take]; rfl)) ?_; (with_reducible refine (impl_RomanText.calls t193 t194 _ A5.out).mono ?_); rintro e w14 ⟨rfl, hb⟩; refine ⟨_, rfl, ?_⟩; have n0_ := Aside0.mk (below_step (by repeat (first | (with_reducible first | exact HB.out | apply below_alloc | apply pw_below_drewN | apply below_drew1) | exact HB.out)) hb); clear HB; have HB := n0_; clear n0_; (try clear hb); (try clear hb2); (try clear hk); (try clear hi)) | ((with_reducible refine gate_callee (f := 18) rfl ?_); refine goesL_ (some 25) rfl rfl Try.func18 (by kernel_rfl) rfl #[.slice A0 l0.length c0] rfl (by (try simp only [List.map_toArray, List.map_cons, List.map_nil]); first | done | rfl | (simp only [List.length_drop, List.length_take]; rfl)) ?_; (with_reducible refine (spec_DrawReadRoman.calls k _ _ l0 t195 _ ?side1 ?side2 A6.out).mono ?_); (case side1 => repeat (first | exact (Kd.C_below HR0.out HB.out) | (with_reducible refine Kd.C_alloc ?_ _) | (with_reducible refine Kd.C_drewN ?_ _) | (with_reducible refine Kd.C_drew ?_))); (case side2 => exact HC0.out); rintro e w15 ⟨rfl, hb⟩; refine ⟨_, rfl, ?_⟩; have n0_ := Aside0.mk (below_step (by repeat (first | (with_reducible first | exact HB.out | apply below_alloc | apply pw_below_drewN | apply below_drew1) | exact HB.out)) hb); clear HB; have HB := n0_; clear n0_; (try clear hb); (try clear hb2); (try clear hk); (try clear hi)) | ((with_reducible refine gate_callee (f := 15) rfl ?_); refine goesL_ (some 28) rfl rfl Try.func15 (by kernel_rfl) rfl #[.string t195] rfl (by (try simp only [List.map_toArray, List.map_cons, List.map_nil]); first | done | rfl | (simp only [List.length_drop, List.length_take]; rfl)) ?_; (with_reducible refine (impl_ReadRoman.calls k t195 t196 t197 _ A7.out).mono ?_); rintro e w16 ⟨rfl, hb⟩; refine ⟨_, rfl, ?_⟩; have n0_ := Aside0.mk (below_step (by repeat (first | (with_reducible first | exact HB.out | apply below_alloc | apply pw_below_drewN | apply below_drew1) | exact HB.out)) hb); clear HB; have HB := n0_; clear n0_; (try clear hb); (try clear hb2); (try clear hk); (try clear hi)) | ((with_reducible refine gate_callee (f := 14) rfl ?_); refine goesL_ (some 33) rfl rfl Try.func14 (by kernel_rfl) rfl #[.string t195] rfl (by (try simp only [List.map_toArray, List.map_cons, List.map_nil]); first | done | rfl | (simp only [List.length_drop, List.length_take]; rfl)) ?_; (with_reducible refine (spec_ReadRoman.calls k t195 t198 t199 _ A8.out).mono ?_); rintro e w' ⟨rfl, ⟨nd, rfl⟩⟩; refine ⟨_, rfl, ?_⟩) | ((with_reducible refine gate_callee (f := 19) rfl ?_); refine goesL_ (some 38) rfl rfl Try.func19 (by kernel_rfl) rfl #[.slice A0 l0.length c0] rfl (by (try simp only [List.map_toArray, List.map_cons, List.map_nil]); first | done | rfl | (simp only [List.length_drop, List.length_take]; rfl)) ?_; (with_reducible refine (spec_DrawPaddedCount.calls k _ _ l0 t200 t201 _ ?side1 ?side2 A9.out).mono ?_); (case side1 => repeat (first | exact (Kd.C_below HR0.out (by repeat (first | (with_reducible first | exact HB.out | apply below_alloc | apply pw_below_drewN | apply below_drew1) | exact HB.out))) | (with_reducible refine Kd.C_alloc ?_ _) | (with_reducible refine Kd.C_drewN ?_ _) | (with_reducible refine Kd.C_drew ?_))); (case side2 => exact HC0.out); rintro e w17 ⟨rfl, hb⟩; refine ⟨_, rfl, ?_⟩; have n0_ := Aside0.mk (below_step (by repeat (first | (with_reducible first | exact HB.out | apply below_alloc | apply pw_below_drewN | apply below_drew1) | exact HB.out)) hb); clear HB; have HB := n0_; clear n0_; (try clear hb); (try clear hb2); (try clear hk); (try clear hi)) | ((with_reducible refine gate_callee (f := 20) rfl ?_); refine goesL_ (some 44) rfl rfl Try.func20 (by kernel_rfl) rfl #[.int .i64 t200, .int .i64 t201] rfl (by (try simp only [List.map_toArray, List.map_cons, List.map_nil]); first | done | rfl | (simp only [List.length_drop, List.length_take]; rfl)) ?_; (with_reducible refine (impl_PaddedCount.calls t200 t201 t202 t203 _ A10.out).mono ?_); rintro e w' ⟨rfl, ⟨nd, rfl⟩⟩; refine ⟨_, rfl, ?_⟩) | ((with_reducible refine gate_callee (f := 21) rfl ?_); refine goesL_ (some 50) rfl rfl Try.func21 (by kernel_rfl) rfl #[.int .i64 t200, .int .i64 t201] rfl (by (try simp only [List.map_toArray, List.map_cons, List.map_nil]); first | done | rfl | (simp only [List.length_drop, List.length_take]; rfl)) ?_; (with_reducible refine (spec_PaddedCount.calls t200 t201 t204 t205 _ A11.out).mono ?_); rintro e w' ⟨rfl, ⟨nd, rfl⟩⟩; refine ⟨_, rfl, ?_⟩))
    (try simp only [Act.put, List.setIfInBounds_toArray, List.set_cons_zero, List.set_cons_succ])
    go_cut [76] (fun v76 wc => ∃ (kq : Nat) (x76_11 : Bool), v76 = .bool x76_11 ∧ Aside0 (laws_FnRomans.j0 kq t193 t194 t200 t201 t202 t203 x76_11 = some r) ∧ Aside0 (kq ≤ k) ∧ Aside0 (Below w.heap.size w wc))
    case first =>
      have H := HC12.out
      clear HC12
      replace H := Option.bind_eq_some_iff.mp H
      obtain ⟨t206, A180, H⟩ := H
      replace H : (if t194.toList = t206.toList then (if t196 = t198 then (if (t197 != t199) = true then (laws_FnRomans.j0 k t193 t194 t200 t201 t202 t203 true) else (if t203 = t205 then (laws_FnRomans.j0 k t193 t194 t200 t201 t202 t203 (t202 != t204)) else (laws_FnRomans.j0 k t193 t194 t200 t201 t202 t203 true))) else (laws_FnRomans.j0 k t193 t194 t200 t201 t202 t203 true)) else (laws_FnRomans.j0 k t193 t194 t200 t201 t202 t203 true)) = some r := H
      have A18 := Aside0.mk A180
      clear A180
      by_cases c19 : t194.toList = t206.toList
      · rw [if_pos c19] at H
        have c19b0 : (t194.toList == t206.toList) = true := beq_iff_eq.mpr c19
        have c19b1 : (t194.toList != t206.toList) = false := bne_eq_false_iff_eq.mpr c19
        clear c19
        (first | rw [c19b0] | (simp only [i64_w, i32_w]; rw [c19b0]) | skip)
        by_cases c20 : t196 = t198
        · rw [if_pos c20] at H
          have c20b0 : (t196 == t198) = true := beq_iff_eq.mpr c20
          have c20b1 : (t196 != t198) = false := bne_eq_false_iff_eq.mpr c20
          clear c20
          by_cases c21 : (t197 != t199) = true
          · rw [if_pos c21] at H
            have c21b0 : (t197 != t199) = true := c21
            (try (have c21b1 : decide (t197 = t199) = false := by simpa using c21))
            (try (have c21b2 : (t197 == t199) = false := by simpa using c21))
            (try (have c21b3 : ¬ (t197 = t199) := by simpa using c21))
            clear c21
            have H' := Aside0.mk H
            clear H
            go_wp2_with (first | ((with_reducible refine gate_callee (f := 12) rfl ?_); refine goesL_ (some 55) rfl rfl Try.func12 (by kernel_rfl) rfl #[.int .i64 t193] rfl (by (try simp only [List.map_toArray, List.map_cons, List.map_nil]); first | done | rfl | (simp only [List.length_drop, List.length_take]; rfl)) ?_; (with_reducible refine (spec_RomanText.calls k t193 t206 _ A18.out).mono ?_); rintro e w' ⟨rfl, ⟨nd, rfl⟩⟩; refine ⟨_, rfl, ?_⟩))
            go_meet
            case rel => exact ⟨_, (true), (by first | rfl | (simp; done) | (simp [*]; done)), H', ⟨by first | omega | exact Nat.le_refl _⟩, ⟨by repeat (first | (with_reducible first | exact HB.out | apply below_alloc | apply pw_below_drewN | apply below_drew1) | exact HB.out)⟩⟩
          · rw [if_neg c21] at H
            have c21b0 : (t197 != t199) = false := by simpa using c21
            (try (have c21b1 : decide (t197 = t199) = true := by simpa using c21))
            (try (have c21b2 : (t197 == t199) = true := by simpa using c21))
            clear c21
            by_cases c22 : t203 = t205
            · rw [if_pos c22] at H
              have c22b0 : (t203 == t205) = true := beq_iff_eq.mpr c22
              have c22b1 : (t203 != t205) = false := bne_eq_false_iff_eq.mpr c22
              clear c22
              have H' := Aside0.mk H
              clear H
              go_wp2_with (first | ((with_reducible refine gate_callee (f := 12) rfl ?_); refine goesL_ (some 55) rfl rfl Try.func12 (by kernel_rfl) rfl #[.int .i64 t193] rfl (by (try simp only [List.map_toArray, List.map_cons, List.map_nil]); first | done | rfl | (simp only [List.length_drop, List.length_take]; rfl)) ?_; (with_reducible refine (spec_RomanText.calls k t193 t206 _ A18.out).mono ?_); rintro e w' ⟨rfl, ⟨nd, rfl⟩⟩; refine ⟨_, rfl, ?_⟩))
              go_meet
              case rel => exact ⟨_, ((t202 != t204)), (by first | rfl | (simp; done) | (simp [*]; done)), H', ⟨by first | omega | exact Nat.le_refl _⟩, ⟨by repeat (first | (with_reducible first | exact HB.out | apply below_alloc | apply pw_below_drewN | apply below_drew1) | exact HB.out)⟩⟩
            · rw [if_neg c22] at H
              have c22b0 : (t203 == t205) = false := beq_eq_false_iff_ne.mpr c22
              have c22b1 : (t203 != t205) = true := bne_iff_ne.mpr c22
              have H' := Aside0.mk H
              clear H
              go_wp2_with (first | ((with_reducible refine gate_callee (f := 12) rfl ?_); refine goesL_ (some 55) rfl rfl Try.func12 (by kernel_rfl) rfl #[.int .i64 t193] rfl (by (try simp only [List.map_toArray, List.map_cons, List.map_nil]); first | done | rfl | (simp only [List.length_drop, List.length_take]; rfl)) ?_; (with_reducible refine (spec_RomanText.calls k t193 t206 _ A18.out).mono ?_); rintro e w' ⟨rfl, ⟨nd, rfl⟩⟩; refine ⟨_, rfl, ?_⟩))
              go_meet
              case rel => exact ⟨_, (true), (by first | rfl | (simp; done) | (simp [*]; done)), H', ⟨by first | omega | exact Nat.le_refl _⟩, ⟨by repeat (first | (with_reducible first | exact HB.out | apply below_alloc | apply pw_below_drewN | apply below_drew1) | exact HB.out)⟩⟩
        · rw [if_neg c20] at H
          have c20b0 : (t196 == t198) = false := beq_eq_false_iff_ne.mpr c20
          have c20b1 : (t196 != t198) = true := bne_iff_ne.mpr c20
          have H' := Aside0.mk H
          clear H
          go_wp2_with (first | ((with_reducible refine gate_callee (f := 12) rfl ?_); refine goesL_ (some 55) rfl rfl Try.func12 (by kernel_rfl) rfl #[.int .i64 t193] rfl (by (try simp only [List.map_toArray, List.map_cons, List.map_nil]); first | done | rfl | (simp only [List.length_drop, List.length_take]; rfl)) ?_; (with_reducible refine (spec_RomanText.calls k t193 t206 _ A18.out).mono ?_); rintro e w' ⟨rfl, ⟨nd, rfl⟩⟩; refine ⟨_, rfl, ?_⟩))
          go_meet
          case rel => exact ⟨_, (true), (by first | rfl | (simp; done) | (simp [*]; done)), H', ⟨by first | omega | exact Nat.le_refl _⟩, ⟨by repeat (first | (with_reducible first | exact HB.out | apply below_alloc | apply pw_below_drewN | apply below_drew1) | exact HB.out)⟩⟩
      · rw [if_neg c19] at H
        have c19b0 : (t194.toList == t206.toList) = false := beq_eq_false_iff_ne.mpr c19
        have c19b1 : (t194.toList != t206.toList) = true := bne_iff_ne.mpr c19
        (first | rw [c19b0] | (simp only [i64_w, i32_w]; rw [c19b0]) | skip)
        have H' := Aside0.mk H
        clear H
        go_wp2_with (first | ((with_reducible refine gate_callee (f := 12) rfl ?_); refine goesL_ (some 55) rfl rfl Try.func12 (by kernel_rfl) rfl #[.int .i64 t193] rfl (by (try simp only [List.map_toArray, List.map_cons, List.map_nil]); first | done | rfl | (simp only [List.length_drop, List.length_take]; rfl)) ?_; (with_reducible refine (spec_RomanText.calls k t193 t206 _ A18.out).mono ?_); rintro e w' ⟨rfl, ⟨nd, rfl⟩⟩; refine ⟨_, rfl, ?_⟩))
        go_meet
        case rel => exact ⟨_, (true), (by first | rfl | (simp; done) | (simp [*]; done)), H', ⟨by first | omega | exact Nat.le_refl _⟩, ⟨by repeat (first | (with_reducible first | exact HB.out | apply below_alloc | apply pw_below_drewN | apply below_drew1) | exact HB.out)⟩⟩
    case rest =>
      clear HC12
      try clear c1
      try clear c2
      try clear p2
      try clear c3
      try clear c5
      try clear c12
      try clear c13
      try clear c14
      try clear c15
      try clear c16
      try clear c17
      try clear c18
      try clear c19
      try clear c19b0
      try clear c19b1
      try clear c20
      try clear c20b0
      try clear c20b1
      try clear c21
      try clear c21b0
      try clear c21b1
      try clear c21b2
      try clear c22
      try clear c22b0
      try clear c22b1
      obtain ⟨kq, x76_11, rfl, HA, HJ11, HB⟩ := hcut
      cases kq with
      | zero => exact absurd HA.out (by simp [laws_FnRomans.j0])
      | succ kj11 =>
        have H := HA.out
        clear HA
        simp only [laws_FnRomans.j0] at H
        by_cases c23 : x76_11 = true
        · subst c23
          have H1 : (some false) = some r := by rw [if_pos rfl] at H; exact H
          clear H
          have H := H1
          clear H1
          obtain rfl := Option.some.inj H
          go_wp2
          go_ret
          exact ⟨by first | rfl | (simp only [Go.IntWalk.i64_left]; first | done | rfl) | (simp [errW_none, errW_some] <;> rfl) | (simp [*, errW_none, errW_some] <;> rfl), by repeat (first | (with_reducible first | exact HB.out | apply below_alloc | apply pw_below_drewN | apply below_drew1) | exact HB.out)⟩
        · replace c23 := Bool.eq_false_iff.mpr c23
          subst c23
          have H1 : (if t194.toList = ([] : List UInt8) then (if t203 = 0 then (if t201 = 0 then (none) else (if (Int.tmod t202 t201) = 0 then (if t202 ≥ t200 then (some (decide (t202 < (wrap64 (t200 + t201))))) else (some false)) else (some false))) else (some true)) else ((impl_ReadRoman.f kj11 t194).bind fun bt207 => (if bt207.2 = true then (if bt207.1 = t193 then (if t203 = 0 then (if t201 = 0 then (none) else (if (Int.tmod t202 t201) = 0 then (if t202 ≥ t200 then (some (decide (t202 < (wrap64 (t200 + t201))))) else (some false)) else (some false))) else (some true)) else (some false)) else (some false)))) = some r := by rw [if_neg (show ¬ (false = true) by decide)] at H; exact H
          clear H
          have H := H1
          clear H1
          by_cases c24 : t194.toList = ([] : List UInt8)
          · rw [if_pos c24] at H
            have c24b0 : (t194.toList == ([] : List UInt8)) = true := beq_iff_eq.mpr c24
            have c24b1 : (t194.toList != ([] : List UInt8)) = false := bne_eq_false_iff_eq.mpr c24
            clear c24
            by_cases c25 : t203 = 0
            · rw [if_pos c25] at H
              have c25b0 : (t203 == 0) = true := beq_iff_eq.mpr c25
              have c25b1 : (t203 != 0) = false := bne_eq_false_iff_eq.mpr c25
              clear c25
              by_cases c26 : t201 = 0
              · rw [if_pos c26] at H
                exact absurd H (by simp)
              · rw [if_neg c26] at H
                have c26b0 : (t201 == 0) = false := beq_eq_false_iff_ne.mpr c26
                have c26b1 : (t201 != 0) = true := bne_iff_ne.mpr c26
                by_cases c27 : (Int.tmod t202 t201) = 0
                · rw [if_pos c27] at H
                  have c27b0 : ((Int.tmod t202 t201) == 0) = true := beq_iff_eq.mpr c27
                  have c27b1 : ((Int.tmod t202 t201) != 0) = false := bne_eq_false_iff_eq.mpr c27
                  clear c27
                  by_cases c28 : t202 ≥ t200
                  · rw [if_pos c28] at H
                    have c28b0 : decide (t200 ≤ t202) = true := decide_eq_true c28
                    clear c28
                    obtain rfl := Option.some.inj H
                    go_wp2
                    go_ret
                    exact ⟨by first | rfl | (simp only [Go.IntWalk.i64_left]; first | done | rfl) | (simp [errW_none, errW_some] <;> rfl) | (simp [*, errW_none, errW_some] <;> rfl), by repeat (first | (with_reducible first | exact HB.out | apply below_alloc | apply pw_below_drewN | apply below_drew1) | exact HB.out)⟩
                  · rw [if_neg c28] at H
                    have c28b0 : decide (t200 ≤ t202) = false := decide_eq_false c28
                    clear c28
                    obtain rfl := Option.some.inj H
                    go_wp2
                    go_ret
                    exact ⟨by first | rfl | (simp only [Go.IntWalk.i64_left]; first | done | rfl) | (simp [errW_none, errW_some] <;> rfl) | (simp [*, errW_none, errW_some] <;> rfl), by repeat (first | (with_reducible first | exact HB.out | apply below_alloc | apply pw_below_drewN | apply below_drew1) | exact HB.out)⟩
                · rw [if_neg c27] at H
                  have c27b0 : ((Int.tmod t202 t201) == 0) = false := beq_eq_false_iff_ne.mpr c27
                  have c27b1 : ((Int.tmod t202 t201) != 0) = true := bne_iff_ne.mpr c27
                  obtain rfl := Option.some.inj H
                  go_wp2
                  go_ret
                  exact ⟨by first | rfl | (simp only [Go.IntWalk.i64_left]; first | done | rfl) | (simp [errW_none, errW_some] <;> rfl) | (simp [*, errW_none, errW_some] <;> rfl), by repeat (first | (with_reducible first | exact HB.out | apply below_alloc | apply pw_below_drewN | apply below_drew1) | exact HB.out)⟩
            · rw [if_neg c25] at H
              have c25b0 : (t203 == 0) = false := beq_eq_false_iff_ne.mpr c25
              have c25b1 : (t203 != 0) = true := bne_iff_ne.mpr c25
              obtain rfl := Option.some.inj H
              go_wp2
              go_ret
              exact ⟨by first | rfl | (simp only [Go.IntWalk.i64_left]; first | done | rfl) | (simp [errW_none, errW_some] <;> rfl) | (simp [*, errW_none, errW_some] <;> rfl), by repeat (first | (with_reducible first | exact HB.out | apply below_alloc | apply pw_below_drewN | apply below_drew1) | exact HB.out)⟩
          · rw [if_neg c24] at H
            have c24b0 : (t194.toList == ([] : List UInt8)) = false := beq_eq_false_iff_ne.mpr c24
            have c24b1 : (t194.toList != ([] : List UInt8)) = true := bne_iff_ne.mpr c24
            replace H := Option.bind_eq_some_iff.mp H
            obtain ⟨⟨t207, t208⟩, A290, H⟩ := H
            replace H : (if t208 = true then (if t207 = t193 then (if t203 = 0 then (if t201 = 0 then (none) else (if (Int.tmod t202 t201) = 0 then (if t202 ≥ t200 then (some (decide (t202 < (wrap64 (t200 + t201))))) else (some false)) else (some false))) else (some true)) else (some false)) else (some false)) = some r := H
            have A29 := Aside0.mk A290
            clear A290
            by_cases c30 : t208 = true
            · subst c30
              have H1 : (if t207 = t193 then (if t203 = 0 then (if t201 = 0 then (none) else (if (Int.tmod t202 t201) = 0 then (if t202 ≥ t200 then (some (decide (t202 < (wrap64 (t200 + t201))))) else (some false)) else (some false))) else (some true)) else (some false)) = some r := by rw [if_pos rfl] at H; exact H
              clear H
              have H := H1
              clear H1
              by_cases c31 : t207 = t193
              · rw [if_pos c31] at H
                have c31b0 : (t207 == t193) = true := beq_iff_eq.mpr c31
                have c31b1 : (t207 != t193) = false := bne_eq_false_iff_eq.mpr c31
                clear c31
                by_cases c32 : t203 = 0
                · rw [if_pos c32] at H
                  have c32b0 : (t203 == 0) = true := beq_iff_eq.mpr c32
                  have c32b1 : (t203 != 0) = false := bne_eq_false_iff_eq.mpr c32
                  clear c32
                  by_cases c33 : t201 = 0
                  · rw [if_pos c33] at H
                    exact absurd H (by simp)
                  · rw [if_neg c33] at H
                    have c33b0 : (t201 == 0) = false := beq_eq_false_iff_ne.mpr c33
                    have c33b1 : (t201 != 0) = true := bne_iff_ne.mpr c33
                    by_cases c34 : (Int.tmod t202 t201) = 0
                    · rw [if_pos c34] at H
                      have c34b0 : ((Int.tmod t202 t201) == 0) = true := beq_iff_eq.mpr c34
                      have c34b1 : ((Int.tmod t202 t201) != 0) = false := bne_eq_false_iff_eq.mpr c34
                      clear c34
                      by_cases c35 : t202 ≥ t200
                      · rw [if_pos c35] at H
                        have c35b0 : decide (t200 ≤ t202) = true := decide_eq_true c35
                        clear c35
                        obtain rfl := Option.some.inj H
                        go_wp2_with (first | ((with_reducible refine gate_callee (f := 15) rfl ?_); refine goesL_ (some 81) rfl rfl Try.func15 (by kernel_rfl) rfl #[.string t194] rfl (by (try simp only [List.map_toArray, List.map_cons, List.map_nil]); first | done | rfl | (simp only [List.length_drop, List.length_take]; rfl)) ?_; (with_reducible refine (impl_ReadRoman.calls kj11 t194 t207 true _ A29.out).mono ?_); rintro e w36 ⟨rfl, hb⟩; refine ⟨_, rfl, ?_⟩; have n0_ := Aside0.mk (below_step (by repeat (first | (with_reducible first | exact HB.out | apply below_alloc | apply pw_below_drewN | apply below_drew1) | exact HB.out)) hb); clear HB; have HB := n0_; clear n0_; (try clear hb); (try clear hb2); (try clear hk); (try clear hi)))
                        go_ret
                        exact ⟨by first | rfl | (simp only [Go.IntWalk.i64_left]; first | done | rfl) | (simp [errW_none, errW_some] <;> rfl) | (simp [*, errW_none, errW_some] <;> rfl), by repeat (first | (with_reducible first | exact HB.out | apply below_alloc | apply pw_below_drewN | apply below_drew1) | exact HB.out)⟩
                      · rw [if_neg c35] at H
                        have c35b0 : decide (t200 ≤ t202) = false := decide_eq_false c35
                        clear c35
                        obtain rfl := Option.some.inj H
                        go_wp2_with (first | ((with_reducible refine gate_callee (f := 15) rfl ?_); refine goesL_ (some 81) rfl rfl Try.func15 (by kernel_rfl) rfl #[.string t194] rfl (by (try simp only [List.map_toArray, List.map_cons, List.map_nil]); first | done | rfl | (simp only [List.length_drop, List.length_take]; rfl)) ?_; (with_reducible refine (impl_ReadRoman.calls kj11 t194 t207 true _ A29.out).mono ?_); rintro e w37 ⟨rfl, hb⟩; refine ⟨_, rfl, ?_⟩; have n0_ := Aside0.mk (below_step (by repeat (first | (with_reducible first | exact HB.out | apply below_alloc | apply pw_below_drewN | apply below_drew1) | exact HB.out)) hb); clear HB; have HB := n0_; clear n0_; (try clear hb); (try clear hb2); (try clear hk); (try clear hi)))
                        go_ret
                        exact ⟨by first | rfl | (simp only [Go.IntWalk.i64_left]; first | done | rfl) | (simp [errW_none, errW_some] <;> rfl) | (simp [*, errW_none, errW_some] <;> rfl), by repeat (first | (with_reducible first | exact HB.out | apply below_alloc | apply pw_below_drewN | apply below_drew1) | exact HB.out)⟩
                    · rw [if_neg c34] at H
                      have c34b0 : ((Int.tmod t202 t201) == 0) = false := beq_eq_false_iff_ne.mpr c34
                      have c34b1 : ((Int.tmod t202 t201) != 0) = true := bne_iff_ne.mpr c34
                      obtain rfl := Option.some.inj H
                      go_wp2_with (first | ((with_reducible refine gate_callee (f := 15) rfl ?_); refine goesL_ (some 81) rfl rfl Try.func15 (by kernel_rfl) rfl #[.string t194] rfl (by (try simp only [List.map_toArray, List.map_cons, List.map_nil]); first | done | rfl | (simp only [List.length_drop, List.length_take]; rfl)) ?_; (with_reducible refine (impl_ReadRoman.calls kj11 t194 t207 true _ A29.out).mono ?_); rintro e w38 ⟨rfl, hb⟩; refine ⟨_, rfl, ?_⟩; have n0_ := Aside0.mk (below_step (by repeat (first | (with_reducible first | exact HB.out | apply below_alloc | apply pw_below_drewN | apply below_drew1) | exact HB.out)) hb); clear HB; have HB := n0_; clear n0_; (try clear hb); (try clear hb2); (try clear hk); (try clear hi)))
                      go_ret
                      exact ⟨by first | rfl | (simp only [Go.IntWalk.i64_left]; first | done | rfl) | (simp [errW_none, errW_some] <;> rfl) | (simp [*, errW_none, errW_some] <;> rfl), by repeat (first | (with_reducible first | exact HB.out | apply below_alloc | apply pw_below_drewN | apply below_drew1) | exact HB.out)⟩
                · rw [if_neg c32] at H
                  have c32b0 : (t203 == 0) = false := beq_eq_false_iff_ne.mpr c32
                  have c32b1 : (t203 != 0) = true := bne_iff_ne.mpr c32
                  obtain rfl := Option.some.inj H
                  go_wp2_with (first | ((with_reducible refine gate_callee (f := 15) rfl ?_); refine goesL_ (some 81) rfl rfl Try.func15 (by kernel_rfl) rfl #[.string t194] rfl (by (try simp only [List.map_toArray, List.map_cons, List.map_nil]); first | done | rfl | (simp only [List.length_drop, List.length_take]; rfl)) ?_; (with_reducible refine (impl_ReadRoman.calls kj11 t194 t207 true _ A29.out).mono ?_); rintro e w39 ⟨rfl, hb⟩; refine ⟨_, rfl, ?_⟩; have n0_ := Aside0.mk (below_step (by repeat (first | (with_reducible first | exact HB.out | apply below_alloc | apply pw_below_drewN | apply below_drew1) | exact HB.out)) hb); clear HB; have HB := n0_; clear n0_; (try clear hb); (try clear hb2); (try clear hk); (try clear hi)))
                  go_ret
                  exact ⟨by first | rfl | (simp only [Go.IntWalk.i64_left]; first | done | rfl) | (simp [errW_none, errW_some] <;> rfl) | (simp [*, errW_none, errW_some] <;> rfl), by repeat (first | (with_reducible first | exact HB.out | apply below_alloc | apply pw_below_drewN | apply below_drew1) | exact HB.out)⟩
              · rw [if_neg c31] at H
                have c31b0 : (t207 == t193) = false := beq_eq_false_iff_ne.mpr c31
                have c31b1 : (t207 != t193) = true := bne_iff_ne.mpr c31
                obtain rfl := Option.some.inj H
                go_wp2_with (first | ((with_reducible refine gate_callee (f := 15) rfl ?_); refine goesL_ (some 81) rfl rfl Try.func15 (by kernel_rfl) rfl #[.string t194] rfl (by (try simp only [List.map_toArray, List.map_cons, List.map_nil]); first | done | rfl | (simp only [List.length_drop, List.length_take]; rfl)) ?_; (with_reducible refine (impl_ReadRoman.calls kj11 t194 t207 true _ A29.out).mono ?_); rintro e w40 ⟨rfl, hb⟩; refine ⟨_, rfl, ?_⟩; have n0_ := Aside0.mk (below_step (by repeat (first | (with_reducible first | exact HB.out | apply below_alloc | apply pw_below_drewN | apply below_drew1) | exact HB.out)) hb); clear HB; have HB := n0_; clear n0_; (try clear hb); (try clear hb2); (try clear hk); (try clear hi)))
                go_ret
                exact ⟨by first | rfl | (simp only [Go.IntWalk.i64_left]; first | done | rfl) | (simp [errW_none, errW_some] <;> rfl) | (simp [*, errW_none, errW_some] <;> rfl), by repeat (first | (with_reducible first | exact HB.out | apply below_alloc | apply pw_below_drewN | apply below_drew1) | exact HB.out)⟩
            · replace c30 := Bool.eq_false_iff.mpr c30
              subst c30
              have H1 : (some false) = some r := by rw [if_neg (show ¬ (false = true) by decide)] at H; exact H
              clear H
              have H := H1
              clear H1
              obtain rfl := Option.some.inj H
              go_wp2_with (first | ((with_reducible refine gate_callee (f := 15) rfl ?_); refine goesL_ (some 81) rfl rfl Try.func15 (by kernel_rfl) rfl #[.string t194] rfl (by (try simp only [List.map_toArray, List.map_cons, List.map_nil]); first | done | rfl | (simp only [List.length_drop, List.length_take]; rfl)) ?_; (with_reducible refine (impl_ReadRoman.calls kj11 t194 t207 false _ A29.out).mono ?_); rintro e w41 ⟨rfl, hb⟩; refine ⟨_, rfl, ?_⟩; have n0_ := Aside0.mk (below_step (by repeat (first | (with_reducible first | exact HB.out | apply below_alloc | apply pw_below_drewN | apply below_drew1) | exact HB.out)) hb); clear HB; have HB := n0_; clear n0_; (try clear hb); (try clear hb2); (try clear hk); (try clear hi)))
              go_ret
              exact ⟨by first | rfl | (simp only [Go.IntWalk.i64_left]; first | done | rfl) | (simp [errW_none, errW_some] <;> rfl) | (simp [*, errW_none, errW_some] <;> rfl), by repeat (first | (with_reducible first | exact HB.out | apply below_alloc | apply pw_below_drewN | apply below_drew1) | exact HB.out)⟩

/-- THE ONE PURE STATEMENT of laws_FnRomans: yours. -/
def laws_FnRomans.Pure : Prop := ∀ (l0 : List Int), l0.length ≤ maxLen → l0.length * 1 ≤ 140737488351232 → (∀ x ∈ l0, (Lit.int .u8 x).wf = true) → ∃ k, laws_FnRomans.f k l0 = some true
theorem laws_FnRomans.walk (P : laws_FnRomans.Pure) (a0 : Option Addr) (len0 cap0 : Nat) (z0 : List Int) (w : World) (w0 : (a0 = none ∧ len0 = 0 ∧ cap0 = 0 ∧ z0 = []) ∨ ∃ x, a0 = some x ∧ len0 ≤ cap0 ∧ cap0 ≤ maxLen ∧ z0.length = cap0 ∧ (∀ i, i < z0.length → w.cell? (x.add i) = some (.int .u8 (z0.getD i 0))) ∧ ∀ n ∈ z0, (Lit.int .u8 n).wf = true) (y0 : len0 * 1 ≤ 140737488351232) :
    Calls Try.prog 5 #[.slice a0 len0 cap0] w fun e w' => e = .returned (.bool true) ∧ Below w.heap.size w w' := by
  obtain ⟨l0, rfl, hr0, hm0, hw0, hc0⟩ := ReadsInt.ofRowC w0
  obtain ⟨k, h⟩ := P l0 hm0 y0 hw0
  refine (laws_FnRomans.calls k _ _ l0 true w (Kd.C_of_reads (d := (0 : Int)) (h1 := fun _ => rfl) hr0) hc0 h).mono ?_
  rintro e w' ⟨rfl, hd⟩
  exact ⟨rfl, hd⟩

end Go.Proofs.Ytcgjeglkgdakcaa.QFnRomans
