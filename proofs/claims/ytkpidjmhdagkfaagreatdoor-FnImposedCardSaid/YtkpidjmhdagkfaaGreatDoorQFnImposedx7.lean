-- Written by own_print.py of this session's repo over the kit's print (its output, turned at some places).
import Derived.Test.YtkpidjmhdagkfaaGreatDoorQFnImposedx0
import Derived.Test.YtkpidjmhdagkfaaGreatDoorQFnImposedx4
namespace Go.Proofs.YtkpidjmhdagkfaaGreatDoor.QFnImposed
open Go.RowKit Go.Proofs.YtkpidjmhdagkfaaGreatDoorW.PrintWords Go.Proofs.YtkpidjmhdagkfaaGreatDoorW.PrintLast Go.Proofs.YtkpidjmhdagkfaaGreatDoorW.PrintMore
attribute [local go_sem] fU fT gP gQ fw fA fQ fV
set_option maxHeartbeats 8000000
set_option maxRecDepth 100000
set_option linter.unusedVariables false
set_option linter.unusedSimpArgs false
def dJ.f (a0 : Int) (a1 : Int) : Option (Bool) := (bL.f a0).bind fun bt295 => ((bL.f a1).bind fun bt297 => (if bt295.2 = true then (some bt297.2) else (some false)))
theorem dJ.calls (a0 : Int) (a1 : Int) (r : Bool) (w : World) (h : dJ.f a0 a1 = some r) :
  Calls Tryz.prog 66 #[.int .i64 a0, .int .i64 a1] w fun e w' => e = .returned (.bool r) ∧ fJ w w' := by
 have H : ((bL.f a0).bind fun A2 => ((bL.f a1).bind fun A5 => (if A2.2 = true then (some A5.2) else (some false)))) = some r := h
 clear h
 replace H := bo_ H; obtain ⟨⟨A6, A8⟩, A3, H⟩ := H; (try dsimp only at H)
 replace H := bo_ H; obtain ⟨⟨A7, A1⟩, A4, H⟩ := H; (try dsimp only at H)
 by_cases c5 : A8 = true
 ·subst c5
  have H1 : (some A1) = some r := by rw [if_pos rfl] at H; exact H
  clear H
  have H := H1
  clear H1
  obtain rfl := Option.some.inj H
  go_enter Tryz.func66, Tryz.ntmps66
  go_wp2_with (first | ((with_reducible refine av (f := 80) rfl ?_); refine bJ (some 11) rfl rfl Tryz.func80 (by kernel_rfl) rfl #[.int .i64 a0] rfl dN ?_; (with_reducible refine (bL.calls a0 A6 true _ A3.out).mono ?_); rintro e w' ⟨rfl, ⟨nd, rfl⟩⟩; refine ⟨_, rfl, ?_⟩) | ((with_reducible refine av (f := 80) rfl ?_); refine bJ (some 16) rfl rfl Tryz.func80 (by kernel_rfl) rfl #[.int .i64 a1] rfl dN ?_; (with_reducible refine (bL.calls a1 A7 A1 _ A4.out).mono ?_); rintro e w' ⟨rfl, ⟨nd, rfl⟩⟩; refine ⟨_, rfl, ?_⟩))
  go_ret
  exact ⟨gT, fI⟩
 ·replace c5 := Bool.eq_false_iff.mpr c5
  subst c5
  have H1 : (some false) = some r := by rw [if_neg (show ¬ (false = true) by decide)] at H; exact H
  clear H
  have H := H1
  clear H1
  obtain rfl := Option.some.inj H
  go_enter Tryz.func66, Tryz.ntmps66
  go_wp2_with (first | ((with_reducible refine av (f := 80) rfl ?_); refine bJ (some 11) rfl rfl Tryz.func80 (by kernel_rfl) rfl #[.int .i64 a0] rfl dN ?_; (with_reducible refine (bL.calls a0 A6 false _ A3.out).mono ?_); rintro e w' ⟨rfl, ⟨nd, rfl⟩⟩; refine ⟨_, rfl, ?_⟩) | ((with_reducible refine av (f := 80) rfl ?_); refine bJ (some 16) rfl rfl Tryz.func80 (by kernel_rfl) rfl #[.int .i64 a1] rfl dN ?_; (with_reducible refine (bL.calls a1 A7 A1 _ A4.out).mono ?_); rintro e w' ⟨rfl, ⟨nd, rfl⟩⟩; refine ⟨_, rfl, ?_⟩))
  go_ret
  exact ⟨gT, fI⟩
mutual
def bu.l0 : Nat → ByteArray → Int → Bool → Int → Bool → Int → Option (Bool)
 | 0, _, _, _, _, _, _ => none
 | k + 1, x2, x7, x8, x9, x10, x11 => if x11 < (x2.size : Int) then (if 0 ≤ x11 then (if (bt x2 x11) = 76 then (bu.j1 k x2 x7 x8 x9 x10 x11 (bt x2 x11) ((bt x2 x11) == 76)) else (bu.j1 k x2 x7 x8 x9 x10 x11 (bt x2 x11) ((bt x2 x11) == 82))) else (none)) else (if x8 = true then (if x10 = true then (if x7 = 0 then (some (x9 == 0)) else (some false)) else (some false)) else (some false))
def bu.j1 : Nat → ByteArray → Int → Bool → Int → Bool → Int → Int → Bool → Option (Bool)
 | 0, _, _, _, _, _, _, _, _ => none
 | k + 1, x2, x7, x8, x9, x10, x11, x30, x31 => if x31 = true then (bu.l0 k x2 (wrap64 (x7 - 1)) x8 x9 x10 (wrap64 (x11 + 1))) else (if x30 = 84 then (bu.l0 k x2 x7 x8 (wrap64 (x9 - 1)) x10 (wrap64 (x11 + 1))) else (if x30 = 66 then (bu.l0 k x2 x7 x8 (wrap64 (x9 - 1)) x10 (wrap64 (x11 + 1))) else (some false)))
end
def bu.f (k : Nat) (a0 : Int) (a1 : Int) (a2 : ByteArray) : Option (Bool) := (bL.f a0).bind fun bt299 => ((bL.f a1).bind fun bt301 => (bu.l0 k a2 bt299.1 bt299.2 bt301.1 bt301.2 0))
theorem bu.dC : ∀ k, (∀ y0 y1 y2 y3 y4 y5, LeO (bu.l0 k y0 y1 y2 y3 y4 y5) (bu.l0 (k + 1) y0 y1 y2 y3 y4 y5)) ∧ (∀ y0 y1 y2 y3 y4 y5 y6 y7, LeO (bu.j1 k y0 y1 y2 y3 y4 y5 y6 y7) (bu.j1 (k + 1) y0 y1 y2 y3 y4 y5 y6 y7))
 | 0 => ⟨fun _ _ _ _ _ _ r h => by simp [bu.l0] at h, fun _ _ _ _ _ _ _ _ r h => by simp [bu.j1] at h⟩
 | k + 1 => by
  obtain ⟨ih0, ih1⟩ := bu.dC k
  refine ⟨?_, ?_⟩ <;> intros <;> (first | unfold bu.l0 | unfold bu.j1) <;> (repeat' first | (with_reducible first | exact ih0 .. | exact ih1 .. | exact LeO.refl .. | exact LeO.none .. | refine LeO.ite ?_ ?_ | refine LeO.bind ?_ (fun _ => ?_)))
theorem bu.mono : ∀ a0 a1 a2 k, LeO (bu.f k a0 a1 a2) (bu.f (k + 1) a0 a1 a2) := by
 intro a0 a1 a2 k
 obtain ⟨ih0, ih1⟩ := bu.dC k
 unfold bu.f
 repeat' first | (with_reducible first | exact ih0 .. | exact ih1 .. | exact LeO.refl .. | exact LeO.none .. | refine LeO.ite ?_ ?_ | refine LeO.bind ?_ (fun _ => ?_))
theorem bu.calls (k : Nat) (a0 : Int) (a1 : Int) (a2 : ByteArray) (r : Bool) (w : World) (h : bu.f k a0 a1 a2 = some r) :
  Calls Tryz.prog 76 #[.int .i64 a0, .int .i64 a1, .string a2] w fun e w' => e = .returned (.bool r) ∧ fJ w w' := by
 have H : ((bL.f a0).bind fun B0 => ((bL.f a1).bind fun B3 => (bu.l0 k a2 B0.1 B0.2 B3.1 B3.2 0))) = some r := h
 clear h
 replace H := bo_ H; obtain ⟨⟨C0, A8⟩, A4, H⟩ := H; (try dsimp only at H)
 replace H := bo_ H; obtain ⟨⟨C1, A6⟩, A5, H⟩ := H; (try dsimp only at H)
 have H' := a_ H
 clear H
 go_enter Tryz.func76, Tryz.ntmps76
 go_wp2_with (first | ((with_reducible refine av (f := 80) rfl ?_); refine bJ (some 14) rfl rfl Tryz.func80 (by kernel_rfl) rfl #[.int .i64 a0] rfl dN ?_; (with_reducible refine (bL.calls a0 C0 A8 _ A4.out).mono ?_); rintro e w' ⟨rfl, ⟨nd, rfl⟩⟩; refine ⟨_, rfl, ?_⟩) | ((with_reducible refine av (f := 80) rfl ?_); refine bJ (some 19) rfl rfl Tryz.func80 (by kernel_rfl) rfl #[.int .i64 a1] rfl dN ?_; (with_reducible refine (bL.calls a1 C1 A6 _ A5.out).mono ?_); rintro e w' ⟨rfl, ⟨nd, rfl⟩⟩; refine ⟨_, rfl, ?_⟩))
 go_loopg [7, 9, 11] k (fun kq v7 v9 v11 w' => ∃ (A2 : Int) (A3 : Int) (A1 : Int), v7 = .int .i64 A2 ∧ v9 = .int .i64 A3 ∧ v11 = .int .i64 A1 ∧ af (bu.l0 kq a2 A2 A8 A3 A6 A1 = some r) ∧ af (kq ≤ k) ∧ fJ w w')
 case atStart => exact ⟨(C0), (C1), (0), cz, cz, cz, H', ⟨Nat.le_refl _⟩, fI⟩
 case round =>
  clear H'
  obtain ⟨A2, A3, A1, rfl, rfl, rfl, HA, HK1, ⟨m1, rfl⟩⟩ := hrel
  cases gk with
  | zero => exact absurd HA.out (by simp [bu.l0])
  | succ k1 =>
   have H := HA.out
   clear HA
   simp only [bu.l0] at H
   by_cases c6 : A1 < (a2.size : Int)
   ·rw [if_pos c6] at H
    have C2 := decide_eq_true c6
    clear c6
    replace H := ig_ H; obtain ⟨c7, H⟩ := H
    have D0 := decide_eq_true c7
    clear c7
    have D1 := a_ H
    clear H
    have p8 : 0 ≤ (A1 : Int) := of_decide_eq_true aX
    have q8 : A1 < (a2.size : Int) := of_decide_eq_true aX
    have hx8 := jG a2 A1
    replace p8 := eq_true p8
    replace q8 := eq_true q8
    go_upto_if 31 with (fail)
    go_cut [31] (fun v31 wc => ∃ (kq : Nat) (A9 : Bool), v31 = .bool A9 ∧ af (bu.j1 kq a2 A2 A8 A3 A6 A1 (bt a2 A1) A9 = some r) ∧ af (kq ≤ k1) ∧ fJ w wc)
    case first =>
     have H := D1.out
     clear D1
     by_cases c10 : (bt a2 A1) = 76
     ·rw [if_pos c10] at H
      have A7 : ((bt a2 A1) == 76) = true := beq_iff_eq.mpr c10
      have C3 : ((bt a2 A1) != 76) = false := bne_eq_false_iff_eq.mpr c10
      clear c10
      (first | rw [A7] | (simp only [eX, iI]; rw [A7]) | skip)
      have H' := a_ H
      clear H
      go_wp2
      go_meet
      case rel => exact ⟨_, (((bt a2 A1) == 76)), cz, H', ⟨nC⟩, fI⟩
     rw [if_neg c10] at H
     have A7 : ((bt a2 A1) == 76) = false := beq_eq_false_iff_ne.mpr c10
     have C3 : ((bt a2 A1) != 76) = true := bne_iff_ne.mpr c10
     (first | rw [A7] | (simp only [eX, iI]; rw [A7]) | skip)
     have H' := a_ H
     clear H
     go_wp2
     go_meet
     case rel => exact ⟨_, (((bt a2 A1) == 82)), cz, H', ⟨nC⟩, fI⟩
    case rest =>
     clear D1; try clear C2; try clear D0; try clear p8; try clear q8; try clear hx8
     obtain ⟨kq, A9, rfl, HA, B4, ⟨mc8, rfl⟩⟩ := hcut
     cases kq with
     | zero => exact absurd HA.out (by simp [bu.j1])
     | succ B7 =>
      have H := HA.out
      clear HA
      simp only [bu.j1] at H
      by_cases c11 : A9 = true
      ·subst c11
       have H1 : (bu.l0 B7 a2 (wrap64 (A2 - 1)) A8 A3 A6 (wrap64 (A1 + 1))) = some r := by rw [if_pos rfl] at H; exact H
       clear H
       have H := H1
       clear H1
       have H' := a_ H
       clear H
       go_wp2
       go_roundg B7
       case measure => have := HK1.out; have := B4.out; omega
       case rel => exact ⟨(wrap64 (A2 - 1)), (A3), (wrap64 (A1 + 1)), cz, cz, cz, H', ⟨by have := HK1.out; have := B4.out; omega⟩, fI⟩
      ·replace c11 := Bool.eq_false_iff.mpr c11
       subst c11
       have H1 : (if (bt a2 A1) = 84 then (bu.l0 B7 a2 A2 A8 (wrap64 (A3 - 1)) A6 (wrap64 (A1 + 1))) else (if (bt a2 A1) = 66 then (bu.l0 B7 a2 A2 A8 (wrap64 (A3 - 1)) A6 (wrap64 (A1 + 1))) else (some false))) = some r := by rw [if_neg (show ¬ (false = true) by decide)] at H; exact H
       clear H
       have H := H1
       clear H1
       by_cases c12 : (bt a2 A1) = 84
       ·rw [if_pos c12] at H
        have C4 : ((bt a2 A1) == 84) = true := beq_iff_eq.mpr c12
        have C5 : ((bt a2 A1) != 84) = false := bne_eq_false_iff_eq.mpr c12
        clear c12
        have H' := a_ H
        clear H
        go_wp2
        go_roundg B7
        case measure => have := HK1.out; have := B4.out; omega
        case rel => exact ⟨(A2), (wrap64 (A3 - 1)), (wrap64 (A1 + 1)), cz, cz, cz, H', ⟨by have := HK1.out; have := B4.out; omega⟩, fI⟩
       rw [if_neg c12] at H
       have C4 : ((bt a2 A1) == 84) = false := beq_eq_false_iff_ne.mpr c12
       have C5 : ((bt a2 A1) != 84) = true := bne_iff_ne.mpr c12
       by_cases c13 : (bt a2 A1) = 66
       ·rw [if_pos c13] at H
        have C6 : ((bt a2 A1) == 66) = true := beq_iff_eq.mpr c13
        have C7 : ((bt a2 A1) != 66) = false := bne_eq_false_iff_eq.mpr c13
        clear c13
        have H' := a_ H
        clear H
        go_wp2
        go_roundg B7
        case measure => have := HK1.out; have := B4.out; omega
        case rel => exact ⟨(A2), (wrap64 (A3 - 1)), (wrap64 (A1 + 1)), cz, cz, cz, H', ⟨by have := HK1.out; have := B4.out; omega⟩, fI⟩
       rw [if_neg c13] at H
       have C6 : ((bt a2 A1) == 66) = false := beq_eq_false_iff_ne.mpr c13
       have C7 : ((bt a2 A1) != 66) = true := bne_iff_ne.mpr c13
       obtain rfl := Option.some.inj H
       go_wp2
       go_ret
       exact ⟨gT, fI⟩
   rw [if_neg c6] at H
   have C2 := decide_eq_false c6
   clear c6
   by_cases c14 : A8 = true
   ·subst c14
    have H1 : (if A6 = true then (if A2 = 0 then (some (A3 == 0)) else (some false)) else (some false)) = some r := by rw [if_pos rfl] at H; exact H
    clear H
    have H := H1
    clear H1
    by_cases c15 : A6 = true
    ·subst c15
     have H1 : (if A2 = 0 then (some (A3 == 0)) else (some false)) = some r := by rw [if_pos rfl] at H; exact H
     clear H
     have H := H1
     clear H1
     by_cases c16 : A2 = 0
     ·rw [if_pos c16] at H
      have C8 : (A2 == 0) = true := beq_iff_eq.mpr c16
      have C9 : (A2 != 0) = false := bne_eq_false_iff_eq.mpr c16
      clear c16
      obtain rfl := Option.some.inj H
      go_wp2
      go_ret
      exact ⟨gT, fI⟩
     rw [if_neg c16] at H
     have C8 : (A2 == 0) = false := beq_eq_false_iff_ne.mpr c16
     have C9 : (A2 != 0) = true := bne_iff_ne.mpr c16
     obtain rfl := Option.some.inj H
     go_wp2
     go_ret
     exact ⟨gT, fI⟩
    ·replace c15 := Bool.eq_false_iff.mpr c15
     subst c15
     have H1 : (some false) = some r := by rw [if_neg (show ¬ (false = true) by decide)] at H; exact H
     clear H
     have H := H1
     clear H1
     obtain rfl := Option.some.inj H
     go_wp2
     go_ret
     exact ⟨gT, fI⟩
   ·replace c14 := Bool.eq_false_iff.mpr c14
    subst c14
    have H1 : (some false) = some r := by rw [if_neg (show ¬ (false = true) by decide)] at H; exact H
    clear H
    have H := H1
    clear H1
    obtain rfl := Option.some.inj H
    go_wp2
    go_ret
    exact ⟨gT, fI⟩
def eZ.f (k : Nat) (a0 : Int) (a1 : Int) (a2 : ByteArray) : Option (Int) := (dJ.f a0 a1).bind fun t303 => (if t303 = true then ((bu.f k a0 a1 a2).bind fun t304 => (if t304 = true then (some 0) else (some 2))) else (some 1))
theorem eZ.mono : ∀ a0 a1 a2 k, LeO (eZ.f k a0 a1 a2) (eZ.f (k + 1) a0 a1 a2) := by
 intro a0 a1 a2 k
 unfold eZ.f
 repeat' first | (with_reducible first | exact bu.mono .. | exact LeO.refl .. | exact LeO.none .. | refine LeO.ite ?_ ?_ | refine LeO.bind ?_ (fun _ => ?_))
theorem eZ.calls (k : Nat) (a0 : Int) (a1 : Int) (a2 : ByteArray) (r : Int) (w : World) (h : eZ.f k a0 a1 a2 = some r) :
  Calls Tryz.prog 49 #[.int .i64 a0, .int .i64 a1, .string a2] w fun e w' => e = .returned (.int .i64 r) ∧ fJ w w' := by
 have H : ((dJ.f a0 a1).bind fun A2 => (if A2 = true then ((bu.f k a0 a1 a2).bind fun A1 => (if A1 = true then (some 0) else (some 2))) else (some 1))) = some r := h
 clear h
 replace H := bo_ H; obtain ⟨A2, A4, H⟩ := H; (try dsimp only at H)
 by_cases c5 : A2 = true
 ·subst c5
  have H1 : ((bu.f k a0 a1 a2).bind fun A1 => (if A1 = true then (some 0) else (some 2))) = some r := by rw [if_pos rfl] at H; exact H
  clear H
  have H := H1
  clear H1
  replace H := bo_ H; obtain ⟨A1, A6, H⟩ := H; (try dsimp only at H)
  by_cases c7 : A1 = true
  ·subst c7
   have H1 : (some 0) = some r := by rw [if_pos rfl] at H; exact H
   clear H
   have H := H1
   clear H1
   obtain rfl := Option.some.inj H
   go_enter Tryz.func49, Tryz.ntmps49
   go_wp2_with (first | ((with_reducible refine av (f := 66) rfl ?_); refine bJ (some 10) rfl rfl Tryz.func66 (by kernel_rfl) rfl #[.int .i64 a0, .int .i64 a1] rfl dN ?_; (with_reducible refine (dJ.calls a0 a1 true _ A4.out).mono ?_); rintro e w' ⟨rfl, ⟨nd, rfl⟩⟩; refine ⟨_, rfl, ?_⟩) | ((with_reducible refine av (f := 76) rfl ?_); refine bJ (some 16) rfl rfl Tryz.func76 (by kernel_rfl) rfl #[.int .i64 a0, .int .i64 a1, .string a2] rfl dN ?_; (with_reducible refine (bu.calls k a0 a1 a2 true _ A6.out).mono ?_); rintro e w' ⟨rfl, ⟨nd, rfl⟩⟩; refine ⟨_, rfl, ?_⟩))
   go_ret
   exact ⟨gT, fI⟩
  ·replace c7 := Bool.eq_false_iff.mpr c7
   subst c7
   have H1 : (some 2) = some r := by rw [if_neg (show ¬ (false = true) by decide)] at H; exact H
   clear H
   have H := H1
   clear H1
   obtain rfl := Option.some.inj H
   go_enter Tryz.func49, Tryz.ntmps49
   go_wp2_with (first | ((with_reducible refine av (f := 66) rfl ?_); refine bJ (some 10) rfl rfl Tryz.func66 (by kernel_rfl) rfl #[.int .i64 a0, .int .i64 a1] rfl dN ?_; (with_reducible refine (dJ.calls a0 a1 true _ A4.out).mono ?_); rintro e w' ⟨rfl, ⟨nd, rfl⟩⟩; refine ⟨_, rfl, ?_⟩) | ((with_reducible refine av (f := 76) rfl ?_); refine bJ (some 16) rfl rfl Tryz.func76 (by kernel_rfl) rfl #[.int .i64 a0, .int .i64 a1, .string a2] rfl dN ?_; (with_reducible refine (bu.calls k a0 a1 a2 false _ A6.out).mono ?_); rintro e w' ⟨rfl, ⟨nd, rfl⟩⟩; refine ⟨_, rfl, ?_⟩))
   go_ret
   exact ⟨gT, fI⟩
 ·replace c5 := Bool.eq_false_iff.mpr c5
  subst c5
  have H1 : (some 1) = some r := by rw [if_neg (show ¬ (false = true) by decide)] at H; exact H
  clear H
  have H := H1
  clear H1
  obtain rfl := Option.some.inj H
  go_enter Tryz.func49, Tryz.ntmps49
  go_wp2_with (first | ((with_reducible refine av (f := 66) rfl ?_); refine bJ (some 10) rfl rfl Tryz.func66 (by kernel_rfl) rfl #[.int .i64 a0, .int .i64 a1] rfl dN ?_; (with_reducible refine (dJ.calls a0 a1 false _ A4.out).mono ?_); rintro e w' ⟨rfl, ⟨nd, rfl⟩⟩; refine ⟨_, rfl, ?_⟩))
  go_ret
  exact ⟨gT, fI⟩
mutual
def bD.l0 : Nat → Int → Int → List (List (List (S64))) → Int → Option ((List (List (List (S64)))))
 | 0, _, _, _, _ => none
 | k + 1, x0, x1, x5, x6 => if x6 < x1 then (bD.l1 k x0 x1 x5 x6 (([] : List (List (S64)))) 0) else (some x5)
def bD.l1 : Nat → Int → Int → List (List (List (S64))) → Int → List (List (S64)) → Int → Option ((List (List (List (S64)))))
 | 0, _, _, _, _, _, _ => none
 | k + 1, x0, x1, x5, x6, x7, x8 => if x8 < x0 then (if x7.length < 5864062014805 then (bD.l1 k x0 x1 x5 x6 (x7 ++ [(([(⟨x8, x6, false, false⟩ : S64)] : List (S64)))]) (wrap64 (x8 + 1))) else (none)) else (if x5.length < 5864062014805 then (bD.l0 k x0 x1 (x5 ++ [x7]) (wrap64 (x6 + 1))) else (none))
end
def bD.f (k : Nat) (a0 : Int) (a1 : Int) : Option ((List (List (List (S64))))) := bD.l0 k a0 a1 (([] : List (List (List (S64))))) 0
theorem bD.dC : ∀ k, (∀ y0 y1 y2 y3, LeO (bD.l0 k y0 y1 y2 y3) (bD.l0 (k + 1) y0 y1 y2 y3)) ∧ (∀ y0 y1 y2 y3 y4 y5, LeO (bD.l1 k y0 y1 y2 y3 y4 y5) (bD.l1 (k + 1) y0 y1 y2 y3 y4 y5))
 | 0 => ⟨fun _ _ _ _ r h => by simp [bD.l0] at h, fun _ _ _ _ _ _ r h => by simp [bD.l1] at h⟩
 | k + 1 => by
  obtain ⟨ih0, ih1⟩ := bD.dC k
  refine ⟨?_, ?_⟩ <;> intros <;> (first | unfold bD.l0 | unfold bD.l1) <;> (repeat' first | (with_reducible first | exact ih0 .. | exact ih1 .. | exact LeO.refl .. | exact LeO.none .. | refine LeO.ite ?_ ?_ | refine LeO.bind ?_ (fun _ => ?_)))
theorem bD.mono : ∀ a0 a1 k, LeO (bD.f k a0 a1) (bD.f (k + 1) a0 a1) := by
 intro a0 a1 k
 obtain ⟨ih0, ih1⟩ := bD.dC k
 unfold bD.f
 repeat' first | (with_reducible first | exact ih0 .. | exact ih1 .. | exact LeO.refl .. | exact LeO.none .. | refine LeO.ite ?_ ?_ | refine LeO.bind ?_ (fun _ => ?_))
theorem bD.calls (k : Nat) (a0 : Int) (a1 : Int) (r : List (List (List (S64)))) (w : World) (h : bD.f k a0 a1 = some r) :
  Calls Tryz.prog 97 #[.int .i64 a0, .int .i64 a1] w fun e w' => ∃ v0_ : Value, e = .returned (v0_) ∧ Kd.R (Kd.slice 61 (Kd.slice 64 k64)) 96 w' w.heap.size (fun _ => True) v0_ r ∧ Below w.heap.size w w' := by
 have hu64 := Tryz.underlying64
 have HB := a_ (Below.refl w.heap.size w)
 have H : (bD.l0 k a0 a1 (([] : List (List (List (S64))))) 0) = some r := h
 clear h
 obtain ⟨C3, A7⟩ : ∃ y_ : List (List (List (S64))), y_ = (([] : List (List (List (S64))))) := ⟨_, rfl⟩
 replace H : (bD.l0 k a0 a1 C3 0) = some r := rh_ A7 H
 have B4 := a_ A7
 clear A7
 have H' := a_ H
 clear H
 go_enter Tryz.func97, Tryz.ntmps97
 go_wp2_with (first | ((with_reducible refine bn (N := 9) rfl ?_); refine Kd.iM (Kd.slice 61 (Kd.slice 64 k64)) _ 96 ?hg (N := 9) ?hd (xs := ([] : List (List (List (S64))))) (inner := []) (ok := fun _ => True) (okp := fun _ => True) ?hr ?hp (fun _ hk => hk) trivial (Below.refl _ _) (Nat.le_refl _) (by simp) ?_; (case hd => rfl); (case hg => rfl); (case hr => first | (go_simp; done) | (go_simp; rfl)); (case hp => exact (dG.none _ _)); intro D9 w3 ho4 hb hg_ hnew_; clear hg_ hnew_; (first | rw [← B4.out] at ho4 | (simp only [Int.reduceToNat] at ho4; rw [← B4.out] at ho4)); have C4 := a_ (Kd.bE ho4 (ai bX)); replace HB := cK bX hb; clear hb ho4))
 go_loopg [5, 6] k (fun kq v5 v6 w' => ∃ (A3 : List (List (List (S64)))) (A1 : Int), v6 = .int .i64 A1 ∧ af (bD.l0 kq a0 a1 A3 A1 = some r) ∧ af (kq ≤ k) ∧ af (Kd.R (Kd.slice 61 (Kd.slice 64 k64)) 96 w' w.heap.size (fun _ => True) v5 A3) ∧ af (Below w.heap.size w w'))
 case atStart => exact ⟨(C3), (0), cz, H', ⟨Nat.le_refl _⟩, ⟨by (with_reducible repeat (first | apply Kd.aC | apply Kd.aA | apply Kd.ay)); exact C4.out⟩, ⟨bX⟩⟩
 case round =>
  clear H'
  obtain ⟨A3, A1, rfl, HA, HK1, HO_5, HB⟩ := hrel
  cases gk with
  | zero => exact absurd HA.out (by simp [bD.l0])
  | succ k1 =>
   have H := HA.out
   clear HA
   simp only [bD.l0] at H
   by_cases c5 : A1 < a1
   ·rw [if_pos c5] at H
    have C5 := decide_eq_true c5
    clear c5
    obtain ⟨C6, A8⟩ : ∃ y_ : List (List (S64)), y_ = (([] : List (List (S64)))) := ⟨_, rfl⟩
    replace H : (bD.l1 k1 a0 a1 A3 A1 C6 0) = some r := rh_ A8 H
    have B7 := a_ A8
    clear A8
    have H' := a_ H
    clear H
    go_wp2_with (first | ((with_reducible refine bn (N := 15) rfl ?_); refine Kd.rT (Kd.slice 64 k64) _ 61 ?hg (N := 15) ?hd (xs := ([] : List (List (S64)))) (inner := []) (ok := fun _ => True) (okp := fun _ => True) ?hr ?hp (fun _ hk => hk) trivial (Below.refl _ _) (Nat.le_refl _) (by simp) ?_; (case hd => rfl); (case hg => rfl); (case hr => first | (go_simp; done) | (go_simp; rfl)); (case hp => exact (dG.none _ _)); intro E0 w6 ho7 hb hg_ hnew_; clear hg_ hnew_; (first | rw [← B7.out] at ho7 | (simp only [Int.reduceToNat] at ho7; rw [← B7.out] at ho7)); replace HO_5 := a_ (Kd.bC (ra_ HO_5.out) (Kd.pm ho7) hb); have C7 := a_ (Kd.mP ho7 (ai bX)); replace HB := cK bX hb; clear hb ho7))
    go_loopg [7, 8] k1 (fun kq v7 v8 w' => ∃ (A4 : List (List (S64))) (A2 : Int), v8 = .int .i64 A2 ∧ af (bD.l1 kq a0 a1 A3 A1 A4 A2 = some r) ∧ af (kq ≤ k1) ∧ af (Kd.R (Kd.slice 61 (Kd.slice 64 k64)) 96 w' w.heap.size (fun k_ => some k_ ≠ (v7 : Value).ownBlock) u5 A3) ∧ af (Kd.S (Kd.slice 64 k64) 61 w' w.heap.size (fun _ => True) v7 A4) ∧ af (Below w.heap.size w w'))
    case atStart => exact ⟨(C6), (0), cz, H', ⟨Nat.le_refl _⟩, ⟨yC⟩, ⟨by (with_reducible repeat (first | apply Kd.gX | apply Kd.ik | apply Kd.gZ)); exact C7.out⟩, ⟨bX⟩⟩
    case round =>
     clear H'
     try clear C5
     obtain ⟨A4, A2, rfl, HA, HK2, HO_5, HO_7, HB⟩ := hrel
     cases gk with
     | zero => exact absurd HA.out (by simp [bD.l1])
     | succ k2 =>
      have H := HA.out
      clear HA
      simp only [bD.l1] at H
      by_cases c8 : A2 < a0
      ·rw [if_pos c8] at H
       have D4 := decide_eq_true c8
       clear c8
       obtain ⟨A6, A9⟩ : ∃ y_ : List (S64), y_ = (([(⟨A2, A1, false, false⟩ : S64)] : List (S64))) := ⟨_, rfl⟩
       replace H : (if A4.length < 5864062014805 then (bD.l1 k2 a0 a1 A3 A1 (A4 ++ [A6]) (wrap64 (A2 + 1))) else (none)) = some r := rh_ A9 H
       have C0 := a_ A9
       clear A9
       replace H := ig_ H; obtain ⟨c9, H⟩ := H
       have LMc9 := a_ c9
       clear c9
       obtain ⟨C8, B0⟩ : ∃ y_ : List (List (S64)), y_ = (A4 ++ [A6]) := ⟨_, rfl⟩
       replace H : (bD.l1 k2 a0 a1 A3 A1 C8 (wrap64 (A2 + 1))) = some r := rh_ B0 H
       have C9 := a_ B0
       clear B0
       have H' := a_ H
       clear H
       go_wp2_with (first | ((with_reducible refine bn (N := 25) rfl ?_); refine Kd.iM k64 _ 64 ?hg (N := 25) ?hd (xs := ([(⟨A2, A1, false, false⟩ : S64)] : List (S64))) (inner := [.int .i64 A2, .int .i64 A1, .bool false, .bool false]) (ok := fun _ => True) (okp := fun _ => True) ?hr ?hp (fun _ hk => hk) trivial (Below.refl _ _) (Nat.le_refl _) (by simp) ?_; (case hd => rfl); (case hg => rfl); (case hr => first | (go_simp; done) | (go_simp; rfl)); (case hp => exact (dG.c4 (show Kd.M k64 _ _ _ (⟨A2, A1, false, false⟩ : S64) [.int .i64 A2, .int .i64 A1, .bool false, .bool false] from (mZ _ _ _ (⟨A2, A1, false, false⟩ : S64) )) (dG.none _ _))); intro E1 E4 ho11 hb hg_ hnew_; clear hg_ hnew_; (first | rw [← C0.out] at ho11 | (simp only [Int.reduceToNat] at ho11; rw [← C0.out] at ho11)); replace HO_5 := a_ (Kd.bC (ra_ HO_5.out) (Kd.aH ho11) hb); replace HO_7 := a_ (Kd.kE (by (with_reducible repeat (first | apply Kd.gX | apply Kd.ik | apply Kd.gZ)); exact HO_7.out) (Kd.aH ho11) hb); have A5 := a_ (Kd.bE ho11 (ai bX)); replace HB := cK bX hb; clear hb ho11; obtain ⟨C1, C2, D5⟩ := Kd.bg A5.out; subst D5) | ((with_reducible refine di (b := .append) (xs := #[.tmp 21, .tmp 26]) rfl ?_); at_builtin; refine Kd.nY (Kd.slice 64 k64) (w0 := w) w.heap.size rfl (.tmp 21) (.tmp 26) 96 61 (.slice none 0 0) 24 rfl Tryz.underlying96 nL rfl (by decide) (by omega) u7 A4 A6 [.slice C1 A6.length C2] (fun _ => True) (fun k_ => some k_ = (.slice C1 A6.length C2 : Value).ownBlock) rfl rfl ?aP (fun k_ hk_ => ((Kd.ae (ok' := fun k_ => ((fun _ => True)) k_ ∧ some k_ ≠ (u7 : Value).ownBlock) (Kd.gL (A5.out) (Kd.jk HO_7.out) (by decide)) (fun k_ hk => ⟨trivial, hk.2⟩))).1 k_ hk_.symm) ?aF ?aO ?aB ?aS ?aL ?_; (case aP => exact Kd.lM (Kd.ae (Kd.iX rfl (Kd.ae (ok' := fun k_ => ((fun _ => True)) k_ ∧ some k_ ≠ (u7 : Value).ownBlock) (Kd.gL (A5.out) (Kd.jk HO_7.out) (by decide)) (fun k_ hk => ⟨trivial, hk.2⟩))) (fun _ h_ => h_))); (case aB => exact bX); (case aF => exact (fun _ _ => trivial)); (case aO => exact (by (with_reducible repeat (first | apply Kd.gX | apply Kd.ik | apply Kd.gZ)); exact Kd.mD HO_7.out (fun k_ hk => ⟨trivial, fun e_ => hk.2 e_⟩))); (case aS => exact (ai bX)); (case aL => have := LMc9.out; omega); intro E2 E5 ho hb hg hat; rw [← C9.out] at ho; replace HO_5 := a_ (Kd.fe (ok := (fun k_ => nb_ k_ C1 A6.length C2)) (rc_ (h := by exact Kd.ae HO_5.out (fun _ hk => ⟨hk.2, hk.1⟩))) hg hat); replace HB := a_ (hb); have D0 := a_ (ho); clear A5; clear HO_7; clear ho hb hg hat))
       go_roundg k2
       case measure => have := HK1.out; have := HK2.out; omega
       case rel => exact ⟨(C8), (wrap64 (A2 + 1)), cz, H', ⟨jW⟩, ⟨yC⟩, ⟨by (with_reducible repeat (first | apply Kd.gX | apply Kd.ik | apply Kd.gZ)); exact D0.out⟩, ⟨bX⟩⟩
      rw [if_neg c8] at H
      have D4 := decide_eq_false c8
      clear c8
      replace H := ig_ H; obtain ⟨c14, H⟩ := H
      have LMc14 := a_ c14
      clear c14
      obtain ⟨D1, B3⟩ : ∃ y_ : List (List (List (S64))), y_ = (A3 ++ [A4]) := ⟨_, rfl⟩
      replace H : (bD.l0 k2 a0 a1 D1 (wrap64 (A1 + 1))) = some r := rh_ B3 H
      have D2 := a_ B3
      clear B3
      have H' := a_ H
      clear H
      obtain ⟨D6, D7, D8⟩ := Kd.lT HO_7.out
      subst D8
      go_wp2_with (first | ((with_reducible refine di (b := .append) (xs := #[.tmp 28, .tmp 30]) rfl ?_); at_builtin; refine Kd.fZ (Kd.slice 61 (Kd.slice 64 k64)) (w0 := w) w.heap.size rfl (.tmp 28) (.tmp 30) 95 96 (.slice none 0 0) 24 rfl Tryz.underlying95 pg rfl (by decide) (by omega) u5 A3 A4 [.slice D6 A4.length D7] (fun _ => True) (fun k_ => ((fun _ => True)) k_ ∧ some k_ ≠ (u5 : Value).ownBlock) rfl rfl ?aP (fun _ hk => hk) ?aF ?aO ?aB ?aS ?aL ?_; (case aP => exact Kd.lM (Kd.ae (Kd.gL ((Kd.S_R HO_7.out)) (Kd.jf HO_5.out) (by decide)) (fun k_ hk => ⟨trivial, hk.2⟩))); (case aB => exact bX); (case aF => exact (fun _ _ => trivial)); (case aO => exact (rc_ (h := by exact Kd.ae HO_5.out (fun _ hk => trivial)))); (case aS => exact (ai bX)); (case aL => have := LMc14.out; omega); intro E3 E6 ho hb hg hat; rw [← D2.out] at ho; replace HB := a_ (hb); have D3 := a_ (ho); clear HO_5; clear HO_7; clear ho hb hg hat))
      go_roundg k2
      case measure => have := HK1.out; have := HK2.out; omega
      case rel => exact ⟨(D1), (wrap64 (A1 + 1)), cz, H', ⟨jW⟩, ⟨by (with_reducible repeat (first | apply Kd.aC | apply Kd.aA | apply Kd.ay)); exact D3.out⟩, ⟨bX⟩⟩
   rw [if_neg c5] at H
   have C5 := decide_eq_false c5
   clear c5
   obtain rfl := Option.some.inj H
   go_wp2
   go_ret
   exact ⟨_, gy, oo, bX⟩
def bQ.jy (a : Bool) (x : S64) : S64 := if a = true then ⟨x.f0, x.f1, !x.f2, x.f3⟩ else ⟨x.f0, x.f1, x.f2, !x.f3⟩
def bQ.f (l0 : List S64) (a1 : Bool) : Option (List S64) := if l0.length ≤ 1000000 then some (l0.reverse.map (bQ.jy a1)) else none
theorem bQ.oN (l : List S64) (a : Bool) (j m : Nat) (h : m + 1 + j = l.length) : (l.reverse.take (j + 1)).map (bQ.jy a) = (l.reverse.take j).map (bQ.jy a) ++ [bQ.jy a (l.getD m z64)] := by
 have hj : j < l.reverse.length := by rw [List.length_reverse]; omega
 rw [List.take_succ_eq_append_getElem hj, List.map_append, List.map_cons, List.map_nil, List.getElem_reverse]
 congr 2
 rw [List.getD_eq_getElem?_getD, List.getElem?_eq_getElem (by omega), Option.getD_some]
 congr 2
 omega
theorem bQ.nO (a : Bool) (w : World) (base : Nat) (ok : Nat → Prop) (x : S64) : k64.M w base ok (bQ.jy a x) [.int .i64 x.f0, .int .i64 x.f1, .bool (if a = true then !x.f2 else x.f2), .bool (if a = true then x.f3 else !x.f3)] := by
 cases a
 ·exact mZ w base ok ⟨x.f0, x.f1, x.f2, !x.f3⟩
 ·exact mZ w base ok ⟨x.f0, x.f1, !x.f2, x.f3⟩
theorem bQ.calls (A0 : Option Addr) (c0 : Nat) (l0 : List (S64)) (a1 : Bool) (r : List (S64)) (w : World) (hr0 : Kd.C k64 w A0 l0.length l0) (hc0 : l0.length ≤ c0) (h : bQ.f l0 a1 = some r) :
  Calls Tryz.prog 115 #[.slice A0 l0.length c0, .bool a1] w fun e w' => ∃ v0_ : Value, e = .returned (v0_) ∧ Kd.R k64 64 w' w.heap.size (fun _ => True) v0_ r ∧ Below w.heap.size w w' := by
 unfold bQ.f at h
 by_cases hl : l0.length ≤ 1000000
 ·rw [if_pos hl] at h
  injection h with h
  obtain ⟨n, hn⟩ : ∃ n : Nat, l0.length = n := ⟨_, rfl⟩
  rw [hn] at hl
  have HR := a_ hr0
  have HE := a_ h
  have HN := a_ hn
  have HL := a_ hl
  have e1 : wrap64 ((n : Int) - 1) = (n : Int) - 1 := by unfold wrap64; omega
  have f1 : IntKind.i64.wrap ((n : Int) - 1) = (n : Int) - 1 := (eX _).trans e1
  obtain ⟨i0, hi0⟩ : ∃ i0 : Int, (n : Int) - 1 = i0 := ⟨_, rfl⟩
  have HI0 := a_ hi0
  rw [hn]
  have HE1 := a_ (e1.trans hi0)
  clear e1 f1
  clear hr0 h hn hl hc0 hi0
  have HB := a_ (Below.refl w.heap.size w)
  go_enter Tryz.func115, Tryz.ntmps115
  go_wp2_with (first | ((with_reducible refine bn (N := 8) rfl ?_); refine Kd.iM k64 _ 64 ?hg (N := 8) ?hd (xs := ([] : List (S64))) (inner := []) (ok := fun _ => True) (okp := fun _ => True) ?hr ?hp (fun _ hk => hk) trivial (Below.refl _ _) (Nat.le_refl _) (by simp) ?_; (case hd => rfl); (case hg => rfl); (case hr => first | (go_simp; done) | (go_simp; rfl)); (case hp => exact (dG.none _ _)); intro A7 w3 ho4 hb hg_ hnew_; clear hg_ hnew_; have HO := a_ ho4; have HB1 := a_ hb; clear ho4 hb))
  go_loopg [5, 6] (n + 1) (fun kq v5 v6 w' => ∃ (i : Int) (j : Nat), v6 = .int .i64 i ∧ af (i = (n : Int) - 1 - (j : Int) ∧ j ≤ n ∧ j + kq = n + 1) ∧ af (Kd.R k64 64 w' w.heap.size (fun _ => True) v5 ((l0.reverse.take j).map (bQ.jy a1))) ∧ af (Below w.heap.size w w'))
  case atStart => exact ⟨wrap64 ((n : Int) - 1), 0, rfl, ⟨by have := HE1.out; have := HI0.out; omega, by omega, by omega⟩, ⟨by simpa using HO.out⟩, HB1⟩
  case round =>
   clear HO HB1 HI0 HE1
   obtain ⟨i, j, rfl, HJ, HO, HB⟩ := hrel
   cases gk with
   | zero => exact absurd HJ.out (fun h => by omega)
   | succ k1 =>
    by_cases hj : j = n
    ·have hi : i < 0 := by have := HJ.out; omega
     have d1 : decide (i ≥ 0) = false := decide_eq_false (by omega)
     have d2 : decide (0 ≤ i) = false := decide_eq_false (by omega)
     clear hi
     have HJN := a_ hj
     clear hj
     go_wp2
     go_ret
     refine ⟨_, rfl, ?_, HB.out⟩
     have h := HO.out
     rw [← HE.out]
     have e : l0.reverse.take j = l0.reverse := List.take_of_length_le (by rw [List.length_reverse, HN.out, HJN.out]; exact Nat.le_refl _)
     rw [e] at h
     exact h
    ·obtain ⟨m, rfl⟩ : ∃ m : Nat, i = (m : Int) := ⟨i.toNat, by have := HJ.out; omega⟩
     have HM := a_ (show m + 1 + j = n by have := HJ.out; omega)
     have hml : m < l0.length := by have := HM.out; have := HN.out; omega
     obtain ⟨ad, eA, hx0, hx1, hx2, hx3⟩ := qP HR.out (m : Int) (by omega) (by omega)
     cases eA
     have hx : ag l0 (m : Int) = l0.getD m z64 := rfl
     rw [hx] at hx0 hx1 hx2 hx3
     clear hx
     have HT := a_ (bQ.oN l0 a1 j m (by have := HM.out; have := HN.out; omega))
     have HC := a_ (bQ.nO a1)
     generalize l0.getD m z64 = x at hx0 hx1 hx2 hx3 HT
     replace hx0 := (HB.out.cell (World.block_lt_of_cell? _ _ hx0)).trans hx0
     replace hx1 := (HB.out.cell (World.block_lt_of_cell? _ _ hx1)).trans hx1
     replace hx2 := (HB.out.cell (World.block_lt_of_cell? _ _ hx2)).trans hx2
     replace hx3 := (HB.out.cell (World.block_lt_of_cell? _ _ hx3)).trans hx3
     rw [show ((m : Int)).toNat = m from Int.toNat_natCast m] at hx0 hx1 hx2 hx3
     have hmn : m < n := by have := HM.out; omega
     have d1 : decide ((m : Int) ≥ 0) = true := decide_eq_true (by omega)
     have d2 : decide (0 ≤ (m : Int)) = true := decide_eq_true (by omega)
     have g1 := eq_true hmn
     have g2 := eq_true (show (m : Int) < (n : Int) by omega)
     have e1 : wrap64 ((m : Int) - 1) = (m : Int) - 1 := by have := HL.out; unfold wrap64; omega
     obtain ⟨i1, hi1⟩ : ∃ i1 : Int, (m : Int) - 1 = i1 := ⟨_, rfl⟩
     have HI1 := a_ hi1
     have HL2 := a_ (show ((l0.reverse.take j).map (bQ.jy a1)).length = j by rw [List.length_map, List.length_take, List.length_reverse]; have := HM.out; have := HN.out; omega)
     replace e1 := e1.trans hi1
     have f1 : IntKind.i64.wrap ((m : Int) - 1) = i1 := (eX _).trans e1
     have A5 := a_ (show j + (k1 + 1) = n + 1 from HJ.out.2.2)
     clear hi1 hmn hj hml HJ
     obtain ⟨gb, hgb⟩ : ∃ gb : Nat, wr.heap.size = gb := ⟨_, rfl⟩
     cases a1
     all_goals
      go_upto_if 20 with ((with_reducible refine bn (N := 7) rfl ?_); refine bG ?hg (N := 7) ?hd (cs := #[.int .i64 0, .int .i64 0, .bool false, .bool false]) (t := 64) ?hr ?_; (case hd => rfl); (case hg => rfl); (case hr => first | (go_simp; done) | (go_simp; rfl)); intro A1 hg A4 hbox hb; have BK := a_ hbox; have HBX := a_ hb; have HG := a_ hg; have hcz0 : A4.cell? ⟨A1, 0, none⟩ = some (.int .i64 0) := (aa hbox 0).trans rfl; have hcz1 : A4.cell? ⟨A1, 1, none⟩ = some (.int .i64 0) := (aa hbox 1).trans rfl; have hcz2 : A4.cell? ⟨A1, 2, none⟩ = some (.bool false) := (aa hbox 2).trans rfl; have hcz3 : A4.cell? ⟨A1, 3, none⟩ = some (.bool false) := (aa hbox 3).trans rfl; have hfz0 := bi hbox 0; have hfz1 := bi hbox 1; have hfz2 := bi hbox 2; have hfz3 := bi hbox 3; clear hb hbox hg)
     all_goals
      have hw0 := ai HB.out
      have hgE := HG.out
      have HGE := a_ (show w.heap.size ≤ A1 by omega)
      clear hw0 hgE
      have hB1 := a_ (aG (j := 3) (v := .bool x.f3) (aG (j := 2) (v := .bool x.f2) (aG (j := 1) (v := .int .i64 x.f1) (aG (j := 0) (v := .int .i64 x.f0) (jg HB.out HBX.out) HGE.out) HGE.out) HGE.out) HGE.out)
      have hO1 := a_ (Kd.dW (p := ⟨A1, 3, none⟩) (Kd.dW (p := ⟨A1, 2, none⟩) (Kd.dW (p := ⟨A1, 1, none⟩) (Kd.dW (p := ⟨A1, 0, none⟩) (Kd.dF (Kd.kC HO.out A1 (Nat.le_of_eq HG.out.symm)) HBX.out) (fun _ hk => hk.2) (.int .i64 x.f0)) (fun _ hk => hk.2) (.int .i64 x.f1)) (fun _ hk => hk.2) (.bool x.f2)) (fun _ hk => hk.2) (.bool x.f3))
      have hK1 := a_ (gz (gz (gz (gz BK.out 0 (.int .i64 x.f0) rfl) 1 (.int .i64 x.f1) rfl) 2 (.bool x.f2) rfl) 3 (.bool x.f3) rfl)
      clear HO HB HBX HG BK hcz0 hcz1 hcz2 hcz3 hfz0 hfz1 hfz2 hfz3 hx0 hx1 hx2 hx3
      generalize (((A4.setCell ⟨A1, 0, none⟩ (.int .i64 x.f0)).setCell ⟨A1, 1, none⟩ (.int .i64 x.f1)).setCell ⟨A1, 2, none⟩ (.bool x.f2)).setCell ⟨A1, 3, none⟩ (.bool x.f3) = A3 at hB1 hO1 hK1 ⊢
      have hcz0 : A3.cell? ⟨A1, 0, none⟩ = some (.int .i64 x.f0) := (aa hK1.out 0).trans rfl
      have hcz1 : A3.cell? ⟨A1, 1, none⟩ = some (.int .i64 x.f1) := (aa hK1.out 1).trans rfl
      have hcz2 : A3.cell? ⟨A1, 2, none⟩ = some (.bool x.f2) := (aa hK1.out 2).trans rfl
      have hcz3 : A3.cell? ⟨A1, 3, none⟩ = some (.bool x.f3) := (aa hK1.out 3).trans rfl
      have hfz0 := bi hK1.out 0
      have hfz1 := bi hK1.out 1
      have hfz2 := bi hK1.out 2
      have hfz3 := bi hK1.out 3
     ·go_upto_region 9 with (fail)
      have hB2 := a_ (aG (j := 3) (v := .bool !x.f3) hB1.out HGE.out)
      have hO2 := a_ (Kd.dW (p := ⟨A1, 3, none⟩) (Kd.ae (ok' := fun k_ => k_ ≠ A1) hO1.out (fun _ hk => hk.2)) (fun _ hk => hk) (.bool !x.f3))
      have hK2 := a_ (gz hK1.out 3 (.bool !x.f3) rfl)
      clear hB1 hO1 hK1 hcz0 hcz1 hcz2 hcz3 hfz0 hfz1 hfz2 hfz3
      generalize A3.setCell ⟨A1, 3, none⟩ (.bool !x.f3) = A2 at hB2 hO2 hK2 ⊢
      have hM := a_ (fun w base ok => HC.out w base ok x)
      clear HC
      simp only [if_true, if_false, Bool.false_eq_true] at hM
      obtain ⟨y, hy⟩ : ∃ y : S64, bQ.jy false x = y := ⟨_, rfl⟩
      obtain ⟨b, hb⟩ : ∃ b : Bool, (!x.f3) = b := ⟨_, rfl⟩
      rw [hy] at hM HT
      rw [hb] at hM hK2
      clear hy hb
      have hcz0 : A2.cell? ⟨A1, 0, none⟩ = some (.int .i64 x.f0) := (aa hK2.out 0).trans rfl
      have hcz1 : A2.cell? ⟨A1, 1, none⟩ = some (.int .i64 x.f1) := (aa hK2.out 1).trans rfl
      have hcz2 : A2.cell? ⟨A1, 2, none⟩ = some (.bool x.f2) := (aa hK2.out 2).trans rfl
      have hcz3 : A2.cell? ⟨A1, 3, none⟩ = some (.bool b) := (aa hK2.out 3).trans rfl
      go_wp2_with ((with_reducible refine di (b := .append) (xs := #[.tmp 29, .tmp 31]) rfl ?_); at_builtin; refine Kd.fZ k64 (w0 := w) w.heap.size rfl (.tmp 29) (.tmp 31) 61 64 (.agg #[(.int .i64 0), (.int .i64 0), (.bool false), (.bool false)]) 24 rfl Tryz.underlying61 lQ rfl (by decide) (by omega) u5 ((l0.reverse.take j).map (bQ.jy false)) y [.int .i64 x.f0, .int .i64 x.f1, .bool x.f2, .bool b] (fun k_ => k_ ≠ A1) (fun _ => False) rfl (by first | (go_simp; done) | (go_simp; rfl)) ?aP (fun _ hk => hk.elim) ?aF ?aO ?aB ?aS ?aL ?_; (case aP => exact hM.out _ _ _); (case aB => first | exact hB2.out | exact aN hB2.out _); (case aF => first | exact (fun k_ hk => Kd.ll hK2.out k_ hk) | exact (fun k_ hk => Kd.ll hK2.out k_ (Nat.le_trans (by simp) hk))); (case aO => first | exact hO2.out | exact Kd.aC hO2.out _); (case aS => first | exact ai hB2.out | exact ai (aN hB2.out _)); (case aL => have := HL2.out; have := HL.out; have := HM.out; omega); intro v13 A8 ho hb hg hat; have A6 := a_ ho; have HB3 := a_ hb; clear ho hb hg hat)
      go_roundg k1
      case measure => omega
      case rel => exact ⟨_, j + 1, rfl, ⟨by have := HI1.out; have := HM.out; have := A5.out; omega, by have := HM.out; omega, by have := A5.out; omega⟩, ⟨by rw [HT.out]; exact Kd.ae A6.out (fun _ _ => trivial)⟩, HB3⟩
     ·go_upto_region 9 with (fail)
      have hB2 := a_ (aG (j := 2) (v := .bool !x.f2) hB1.out HGE.out)
      have hO2 := a_ (Kd.dW (p := ⟨A1, 2, none⟩) (Kd.ae (ok' := fun k_ => k_ ≠ A1) hO1.out (fun _ hk => hk.2)) (fun _ hk => hk) (.bool !x.f2))
      have hK2 := a_ (gz hK1.out 2 (.bool !x.f2) rfl)
      clear hB1 hO1 hK1 hcz0 hcz1 hcz2 hcz3 hfz0 hfz1 hfz2 hfz3
      generalize A3.setCell ⟨A1, 2, none⟩ (.bool !x.f2) = A2 at hB2 hO2 hK2 ⊢
      have hM := a_ (fun w base ok => HC.out w base ok x)
      clear HC
      simp only [if_true, if_false, Bool.false_eq_true] at hM
      obtain ⟨y, hy⟩ : ∃ y : S64, bQ.jy true x = y := ⟨_, rfl⟩
      obtain ⟨b, hb⟩ : ∃ b : Bool, (!x.f2) = b := ⟨_, rfl⟩
      rw [hy] at hM HT
      rw [hb] at hM hK2
      clear hy hb
      have hcz0 : A2.cell? ⟨A1, 0, none⟩ = some (.int .i64 x.f0) := (aa hK2.out 0).trans rfl
      have hcz1 : A2.cell? ⟨A1, 1, none⟩ = some (.int .i64 x.f1) := (aa hK2.out 1).trans rfl
      have hcz2 : A2.cell? ⟨A1, 2, none⟩ = some (.bool b) := (aa hK2.out 2).trans rfl
      have hcz3 : A2.cell? ⟨A1, 3, none⟩ = some (.bool x.f3) := (aa hK2.out 3).trans rfl
      go_wp2_with ((with_reducible refine di (b := .append) (xs := #[.tmp 29, .tmp 31]) rfl ?_); at_builtin; refine Kd.fZ k64 (w0 := w) w.heap.size rfl (.tmp 29) (.tmp 31) 61 64 (.agg #[(.int .i64 0), (.int .i64 0), (.bool false), (.bool false)]) 24 rfl Tryz.underlying61 lQ rfl (by decide) (by omega) u5 ((l0.reverse.take j).map (bQ.jy true)) y [.int .i64 x.f0, .int .i64 x.f1, .bool b, .bool x.f3] (fun k_ => k_ ≠ A1) (fun _ => False) rfl (by first | (go_simp; done) | (go_simp; rfl)) ?aP (fun _ hk => hk.elim) ?aF ?aO ?aB ?aS ?aL ?_; (case aP => exact hM.out _ _ _); (case aB => first | exact hB2.out | exact aN hB2.out _); (case aF => first | exact (fun k_ hk => Kd.ll hK2.out k_ hk) | exact (fun k_ hk => Kd.ll hK2.out k_ (Nat.le_trans (by simp) hk))); (case aO => first | exact hO2.out | exact Kd.aC hO2.out _); (case aS => first | exact ai hB2.out | exact ai (aN hB2.out _)); (case aL => have := HL2.out; have := HL.out; have := HM.out; omega); intro v13 A8 ho hb hg hat; have A6 := a_ ho; have HB3 := a_ hb; clear ho hb hg hat)
      go_roundg k1
      case measure => omega
      case rel => exact ⟨_, j + 1, rfl, ⟨by have := HI1.out; have := HM.out; have := A5.out; omega, by have := HM.out; omega, by have := A5.out; omega⟩, ⟨by rw [HT.out]; exact Kd.ae A6.out (fun _ _ => trivial)⟩, HB3⟩
 ·rw [if_neg hl] at h; cases h
mutual
def aJ.l0 : Nat → List (List (List (S64))) → Int → List (List (List (S64))) → Int → Option ((List (List (List (S64)))))
 | 0, _, _, _, _ => none
 | k + 1, x0, x1, x5, x6 => if x6 < (x0.length : Int) then (if 0 ≤ x6 then (aJ.l1 k x0 x1 x5 x6 ((bI x0 x6).length : Int) (([] : List (List (S64)))) 0) else (none)) else (some x5)
def aJ.l1 : Nat → List (List (List (S64))) → Int → List (List (List (S64))) → Int → Int → List (List (S64)) → Int → Option ((List (List (List (S64)))))
 | 0, _, _, _, _, _, _, _ => none
 | k + 1, x0, x1, x5, x6, x7, x8, x9 => if x9 < (wrap64 (Int.tdiv x7 2)) then (if 0 ≤ x6 then (if x6 < (x0.length : Int) then (if 0 ≤ (wrap64 ((wrap64 (x7 - 1)) - x9)) then (if (wrap64 ((wrap64 (x7 - 1)) - x9)) < ((bI x0 x6).length : Int) then (if 0 ≤ x9 then (if x9 < ((bI x0 x6).length : Int) then (if x1 = 76 then (if 0 ≤ (wrap64 ((wrap64 ((wrap64 (Int.tdiv x7 2)) - 1)) - x9)) then (if (wrap64 ((wrap64 ((wrap64 (Int.tdiv x7 2)) - 1)) - x9)) < ((bI x0 x6).length : Int) then (if 0 ≤ (wrap64 ((wrap64 (Int.tdiv x7 2)) + x9)) then (if (wrap64 ((wrap64 (Int.tdiv x7 2)) + x9)) < ((bI x0 x6).length : Int) then ((bQ.f (ek (bI x0 x6) (wrap64 ((wrap64 ((wrap64 (Int.tdiv x7 2)) - 1)) - x9))) true).bind fun t335 => (if t335.length + (ek (bI x0 x6) (wrap64 ((wrap64 (Int.tdiv x7 2)) + x9))).length < 5864062014805 then (if x8.length < 5864062014805 then (aJ.l1 k x0 x1 x5 x6 x7 (x8 ++ [(t335 ++ (ek (bI x0 x6) (wrap64 ((wrap64 (Int.tdiv x7 2)) + x9))))]) (wrap64 (x9 + 1))) else (none)) else (none))) else (none)) else (none)) else (none)) else (none)) else ((bQ.f (ek (bI x0 x6) (wrap64 ((wrap64 (x7 - 1)) - x9))) true).bind fun t344 => (if t344.length + (ek (bI x0 x6) x9).length < 5864062014805 then (if x8.length < 5864062014805 then (aJ.l1 k x0 x1 x5 x6 x7 (x8 ++ [(t344 ++ (ek (bI x0 x6) x9))]) (wrap64 (x9 + 1))) else (none)) else (none)))) else (none)) else (none)) else (none)) else (none)) else (none)) else (none)) else (if x5.length < 5864062014805 then (aJ.l0 k x0 x1 (x5 ++ [x8]) (wrap64 (x6 + 1))) else (none))
end
def aJ.f (k : Nat) (l0 : List (List (List (S64)))) (a1 : Int) : Option ((List (List (List (S64))))) := aJ.l0 k l0 a1 (([] : List (List (List (S64))))) 0
theorem aJ.dC : ∀ k, (∀ y0 y1 y2 y3, LeO (aJ.l0 k y0 y1 y2 y3) (aJ.l0 (k + 1) y0 y1 y2 y3)) ∧ (∀ y0 y1 y2 y3 y4 y5 y6, LeO (aJ.l1 k y0 y1 y2 y3 y4 y5 y6) (aJ.l1 (k + 1) y0 y1 y2 y3 y4 y5 y6))
 | 0 => ⟨fun _ _ _ _ r h => by simp [aJ.l0] at h, fun _ _ _ _ _ _ _ r h => by simp [aJ.l1] at h⟩
 | k + 1 => by
  obtain ⟨ih0, ih1⟩ := aJ.dC k
  refine ⟨?_, ?_⟩ <;> intros <;> (first | unfold aJ.l0 | unfold aJ.l1) <;> (repeat' first | (with_reducible first | exact ih0 .. | exact ih1 .. | exact LeO.refl .. | exact LeO.none .. | refine LeO.ite ?_ ?_ | refine LeO.bind ?_ (fun _ => ?_)))
theorem aJ.mono : ∀ a0 a1 k, LeO (aJ.f k a0 a1) (aJ.f (k + 1) a0 a1) := by
 intro a0 a1 k
 obtain ⟨ih0, ih1⟩ := aJ.dC k
 unfold aJ.f
 repeat' first | (with_reducible first | exact ih0 .. | exact ih1 .. | exact LeO.refl .. | exact LeO.none .. | refine LeO.ite ?_ ?_ | refine LeO.bind ?_ (fun _ => ?_))
def aJ.T10 : Bool × List (List Nat × List Nat) := (true, [([], []), ([], []), ([0, 1], [0, 1]), ([2], [2]), ([], []), ([4], [4]), ([], []), ([5, 6], [5, 6]), ([3, 7], [3, 7]), ([8], [8]), ([], []), ([], []), ([10, 11], [10, 11]), ([12], [12]), ([], []), ([13, 14], [13, 14]), ([15], [15]), ([9, 0, 1, 2, 3, 4, 5, 6, 7, 8, 9], [9]), ([16, 17, 0, 1, 2, 3, 4, 5, 6, 7, 8, 9, 10, 11, 12, 13, 14, 15, 16, 17], [16])])
def aJ.B10 : List Nat := [0, 0, 3, 7, 0, 16, 0, 112, 255, 511, 0, 0, 3072, 7168, 0, 31744, 64512, 1023, 262143]
theorem aJ.Ae : ig .any (opsOf Tryz.f98 10) = aJ.T10 := by kernel_rfl
theorem aJ.ze : gm aJ.T10.2 aJ.B10 = true := by kernel_rfl
def aJ.T12 : Bool × List (List Nat × List Nat) := (true, [([], []), ([], []), ([0, 1], [0, 1]), ([2], [2]), ([], []), ([4], [4]), ([5], [5]), ([], []), ([6, 7], [6, 7]), ([3, 8], [3, 8]), ([9], [9]), ([], []), ([], []), ([11, 12], [11, 12]), ([13], [13]), ([], []), ([15], [15]), ([], []), ([16, 17], [16, 17]), ([14, 18], [14, 18]), ([19], [19]), ([10, 0, 1, 2, 3, 4, 5, 6, 7, 8, 9, 10], [10]), ([20, 21, 0, 1, 2, 3, 4, 5, 6, 7, 8, 9, 10, 11, 12, 13, 14, 15, 16, 17, 18, 19, 20, 21], [20])])
def aJ.B12 : List Nat := [0, 0, 3, 7, 0, 16, 48, 0, 240, 511, 1023, 0, 0, 6144, 14336, 0, 32768, 0, 229376, 522240, 1046528, 2047, 4194303]
theorem aJ.zh : ig .any (opsOf Tryz.f98 12) = aJ.T12 := by kernel_rfl
theorem aJ.vS : gm aJ.T12.2 aJ.B12 = true := by kernel_rfl
theorem aJ.calls (k : Nat) (A0 : Option Addr) (c0 : Nat) (l0 : List (List (List (S64)))) (a1 : Int) (r : List (List (List (S64)))) (w : World) (hr0 : Kd.C (Kd.slice 61 (Kd.slice 64 k64)) w A0 l0.length l0) (hc0 : l0.length ≤ c0) (h : aJ.f k l0 a1 = some r) :
  Calls Tryz.prog 98 #[.slice A0 l0.length c0, .int .u8 a1] w fun e w' => ∃ v0_ : Value, e = .returned (v0_) ∧ Kd.R (Kd.slice 61 (Kd.slice 64 k64)) 96 w' w.heap.size (fun _ => True) v0_ r ∧ Below w.heap.size w w' := by
 have HR0 := a_ hr0
 have T4 := a_ hc0
 clear hr0 hc0
 have HB := a_ (Below.refl w.heap.size w)
 have H : (aJ.l0 k l0 a1 (([] : List (List (List (S64))))) 0) = some r := h
 clear h
 obtain ⟨M6, I2⟩ : ∃ y_ : List (List (List (S64))), y_ = (([] : List (List (List (S64))))) := ⟨_, rfl⟩
 replace H : (aJ.l0 k l0 a1 M6 0) = some r := rh_ I2 H
 have K1 := a_ I2
 clear I2
 have H' := a_ H
 clear H
 go_enter Tryz.func98, Tryz.ntmps98
 go_wp2_with (first | ((with_reducible refine bn (N := 12) rfl ?_); refine Kd.iM (Kd.slice 61 (Kd.slice 64 k64)) _ 96 ?hg (N := 12) ?hd (xs := ([] : List (List (List (S64))))) (inner := []) (ok := fun _ => True) (okp := fun _ => True) ?hr ?hp (fun _ hk => hk) trivial (Below.refl _ _) (Nat.le_refl _) (by simp) ?_; (case hd => rfl); (case hg => rfl); (case hr => first | (go_simp; done) | (go_simp; rfl)); (case hp => exact (dG.none _ _)); intro S2 w3 ho4 hb hg_ hnew_; clear hg_ hnew_; (first | rw [← K1.out] at ho4 | (simp only [Int.reduceToNat] at ho4; rw [← K1.out] at ho4)); have M7 := a_ (Kd.bE ho4 (ai bX)); replace HB := cK bX hb; clear hb ho4))
 go_loopg [5, 6] k (fun kq v5 v6 w' => ∃ (B3 : List (List (List (S64)))) (A1 : Int), v6 = .int .i64 A1 ∧ af (aJ.l0 kq l0 a1 B3 A1 = some r) ∧ af (kq ≤ k) ∧ af (Kd.R (Kd.slice 61 (Kd.slice 64 k64)) 96 w' w.heap.size (fun _ => True) v5 B3) ∧ af (Below w.heap.size w w'))
 case atStart => exact ⟨(M6), (0), cz, H', ⟨Nat.le_refl _⟩, ⟨by (with_reducible repeat (first | apply Kd.aC | apply Kd.aA | apply Kd.ay)); exact M7.out⟩, ⟨bX⟩⟩
 case round =>
  clear H'
  obtain ⟨B3, A1, rfl, HA, HK1, HO_5, HB⟩ := hrel
  cases gk with
  | zero => exact absurd HA.out (by simp [aJ.l0])
  | succ k1 =>
   have H := HA.out
   clear HA
   simp only [aJ.l0] at H
   by_cases c5 : A1 < (l0.length : Int)
   ·rw [if_pos c5] at H
    have M8 := decide_eq_true c5
    clear c5
    replace H := ig_ H; obtain ⟨c6, H⟩ := H
    have P2 := decide_eq_true c6
    clear c6
    obtain ⟨M9, I3⟩ : ∃ y_ : List (List (S64)), y_ = (([] : List (List (S64)))) := ⟨_, rfl⟩
    replace H : (aJ.l1 k1 l0 a1 B3 A1 ((bI l0 A1).length : Int) M9 0) = some r := rh_ I3 H
    have K2 := a_ I3
    clear I3
    have H' := a_ H
    clear H
    have J5 : 0 ≤ (A1 : Int) := of_decide_eq_true aX
    have J6 : A1 < (l0.length : Int) := of_decide_eq_true aX
    obtain ⟨A8, P3, P4, P5, D9, F5, F6⟩ := kF HR0.out A1 J5 J6
    cases P5
    replace D9 := (HB.out.cell (World.block_lt_of_cell? _ _ D9)).trans D9
    have O7 := a_ F6
    have O8 := a_ F5
    clear F6 F5
    replace J5 := eq_true J5
    replace J6 := eq_true J6
    go_wp2_with (first | ((with_reducible refine bn (N := 24) rfl ?_); refine Kd.rT (Kd.slice 64 k64) _ 61 ?hg (N := 24) ?hd (xs := ([] : List (List (S64)))) (inner := []) (ok := fun _ => True) (okp := fun _ => True) ?hr ?hp (fun _ hk => hk) trivial (Below.refl _ _) (Nat.le_refl _) (by simp) ?_; (case hd => rfl); (case hg => rfl); (case hr => first | (go_simp; done) | (go_simp; rfl)); (case hp => exact (dG.none _ _)); intro S3 w7 ho8 hb hg_ hnew_; clear hg_ hnew_; (first | rw [← K2.out] at ho8 | (simp only [Int.reduceToNat] at ho8; rw [← K2.out] at ho8)); replace HO_5 := a_ (Kd.bC (ra_ HO_5.out) (Kd.pm ho8) hb); have N0 := a_ (Kd.mP ho8 (ai bX)); replace HB := cK bX hb; clear hb ho8))
    go_loopg [8, 9] k1 (fun kq v8 v9 w' => ∃ (A7 : List (List (S64))) (A2 : Int), v9 = .int .i64 A2 ∧ af (aJ.l1 kq l0 a1 B3 A1 ((bI l0 A1).length : Int) A7 A2 = some r) ∧ af (kq ≤ k1) ∧ af (Kd.R (Kd.slice 61 (Kd.slice 64 k64)) 96 w' w.heap.size (fun k_ => some k_ ≠ (v8 : Value).ownBlock) u5 B3) ∧ af (Kd.S (Kd.slice 64 k64) 61 w' w.heap.size (fun _ => True) v8 A7) ∧ af (Below w.heap.size w w'))
    case atStart => exact ⟨(M9), (0), cz, H', ⟨Nat.le_refl _⟩, ⟨yC⟩, ⟨by (with_reducible repeat (first | apply Kd.gX | apply Kd.ik | apply Kd.gZ)); exact N0.out⟩, ⟨bX⟩⟩
    case round =>
     clear H'
     try clear M8; try clear P2; try clear D9; try clear J5; try clear J6
     obtain ⟨A7, A2, rfl, HA, HK2, HO_5, HO_8, HB⟩ := hrel
     cases gk with
     | zero => exact absurd HA.out (by simp [aJ.l1])
     | succ k2 =>
      have H := HA.out
      clear HA
      simp only [aJ.l1] at H
      (try simp only [show ∀ (n_ : Nat) (k_ : Int), Int.tdiv (n_ : Int) k_ = (n_ : Int) / k_ from fun n_ k_ => Int.tdiv_eq_ediv_of_nonneg (Int.natCast_nonneg n_), show ∀ (n_ : Nat) (k_ : Int), Int.tmod (n_ : Int) k_ = (n_ : Int) % k_ from fun n_ k_ => Int.tmod_eq_emod_of_nonneg (Int.natCast_nonneg n_)] at H)
      by_cases c9 : A2 < (wrap64 ((((bI l0 A1).length : Int) / 2)))
      ·rw [if_pos c9] at H
       have P6 := decide_eq_true c9
       clear c9
       replace H := ig_ H; obtain ⟨c10, H⟩ := H
       have R1 := decide_eq_true c10
       clear c10
       replace H := ig_ H; obtain ⟨c11, H⟩ := H
       have R2 := decide_eq_true c11
       clear c11
       obtain ⟨B4, F7⟩ : ∃ j_ : Int, (wrap64 ((wrap64 (((bI l0 A1).length : Int) - 1)) - A2)) = j_ := ⟨_, rfl⟩
       replace H : (if 0 ≤ (B4) then (if (B4) < ((bI l0 A1).length : Int) then (if 0 ≤ A2 then (if A2 < ((bI l0 A1).length : Int) then (if a1 = 76 then (if 0 ≤ (wrap64 ((wrap64 ((wrap64 ((((bI l0 A1).length : Int) / 2))) - 1)) - A2)) then (if (wrap64 ((wrap64 ((wrap64 ((((bI l0 A1).length : Int) / 2))) - 1)) - A2)) < ((bI l0 A1).length : Int) then (if 0 ≤ (wrap64 ((wrap64 ((((bI l0 A1).length : Int) / 2))) + A2)) then (if (wrap64 ((wrap64 ((((bI l0 A1).length : Int) / 2))) + A2)) < ((bI l0 A1).length : Int) then ((bQ.f (ek (bI l0 A1) (wrap64 ((wrap64 ((wrap64 ((((bI l0 A1).length : Int) / 2))) - 1)) - A2))) true).bind fun D6 => (if D6.length + (ek (bI l0 A1) (wrap64 ((wrap64 ((((bI l0 A1).length : Int) / 2))) + A2))).length < 5864062014805 then (if A7.length < 5864062014805 then (aJ.l1 k2 l0 a1 B3 A1 ((bI l0 A1).length : Int) (A7 ++ [(D6 ++ (ek (bI l0 A1) (wrap64 ((wrap64 ((((bI l0 A1).length : Int) / 2))) + A2))))]) (wrap64 (A2 + 1))) else (none)) else (none))) else (none)) else (none)) else (none)) else (none)) else ((bQ.f (ek (bI l0 A1) (B4)) true).bind fun H9 => (if H9.length + (ek (bI l0 A1) A2).length < 5864062014805 then (if A7.length < 5864062014805 then (aJ.l1 k2 l0 a1 B3 A1 ((bI l0 A1).length : Int) (A7 ++ [(H9 ++ (ek (bI l0 A1) A2))]) (wrap64 (A2 + 1))) else (none)) else (none)))) else (none)) else (none)) else (none)) else (none)) = some r := by first | (rw [F7] at H; exact H) | (simp only [F7] at H ⊢; exact H)
       have hji12w : (IntKind.i64.wrap ((wrap64 (((bI l0 A1).length : Int) - 1)) - A2)) = B4 := (eX _).trans F7
       replace H := ig_ H; obtain ⟨c13, H⟩ := H
       have R3 := decide_eq_true c13
       clear c13
       replace H := ig_ H; obtain ⟨c14, H⟩ := H
       have R4 := decide_eq_true c14
       clear c14
       replace H := ig_ H; obtain ⟨c15, H⟩ := H
       have R5 := decide_eq_true c15
       clear c15
       replace H := ig_ H; obtain ⟨c16, H⟩ := H
       have R6 := decide_eq_true c16
       clear c16
       by_cases c17 : a1 = 76
       ·rw [if_pos c17] at H
        have N1 : (a1 == 76) = true := beq_iff_eq.mpr c17
        have N2 : (a1 != 76) = false := bne_eq_false_iff_eq.mpr c17
        clear c17
        obtain ⟨D7, F8⟩ : ∃ j_ : Int, (wrap64 ((wrap64 ((wrap64 ((((bI l0 A1).length : Int) / 2))) - 1)) - A2)) = j_ := ⟨_, rfl⟩
        replace H : (if 0 ≤ (D7) then (if (D7) < ((bI l0 A1).length : Int) then (if 0 ≤ (wrap64 ((wrap64 ((((bI l0 A1).length : Int) / 2))) + A2)) then (if (wrap64 ((wrap64 ((((bI l0 A1).length : Int) / 2))) + A2)) < ((bI l0 A1).length : Int) then ((bQ.f (ek (bI l0 A1) (D7)) true).bind fun D6 => (if D6.length + (ek (bI l0 A1) (wrap64 ((wrap64 ((((bI l0 A1).length : Int) / 2))) + A2))).length < 5864062014805 then (if A7.length < 5864062014805 then (aJ.l1 k2 l0 a1 B3 A1 ((bI l0 A1).length : Int) (A7 ++ [(D6 ++ (ek (bI l0 A1) (wrap64 ((wrap64 ((((bI l0 A1).length : Int) / 2))) + A2))))]) (wrap64 (A2 + 1))) else (none)) else (none))) else (none)) else (none)) else (none)) else (none)) = some r := by first | (rw [F8] at H; exact H) | (simp only [F8] at H ⊢; exact H)
        have hji18w : (IntKind.i64.wrap ((wrap64 ((wrap64 ((((bI l0 A1).length : Int) / 2))) - 1)) - A2)) = D7 := (eX _).trans F8
        replace H := ig_ H; obtain ⟨c19, H⟩ := H
        have R7 := decide_eq_true c19
        clear c19
        replace H := ig_ H; obtain ⟨c20, H⟩ := H
        have R8 := decide_eq_true c20
        clear c20
        obtain ⟨D8, I4⟩ : ∃ j_ : Int, (wrap64 ((wrap64 ((((bI l0 A1).length : Int) / 2))) + A2)) = j_ := ⟨_, rfl⟩
        replace H : (if 0 ≤ (D8) then (if (D8) < ((bI l0 A1).length : Int) then ((bQ.f (ek (bI l0 A1) (D7)) true).bind fun D6 => (if D6.length + (ek (bI l0 A1) (D8)).length < 5864062014805 then (if A7.length < 5864062014805 then (aJ.l1 k2 l0 a1 B3 A1 ((bI l0 A1).length : Int) (A7 ++ [(D6 ++ (ek (bI l0 A1) (D8)))]) (wrap64 (A2 + 1))) else (none)) else (none))) else (none)) else (none)) = some r := by first | (rw [I4] at H; exact H) | (simp only [I4] at H ⊢; exact H)
        have hji21w : (IntKind.i64.wrap ((wrap64 ((((bI l0 A1).length : Int) / 2))) + A2)) = D8 := (eX _).trans I4
        replace H := ig_ H; obtain ⟨c22, H⟩ := H
        have R9 := decide_eq_true c22
        clear c22
        replace H := ig_ H; obtain ⟨c23, H⟩ := H
        have S0 := decide_eq_true c23
        clear c23
        replace H := bo_ H; obtain ⟨D6, S4, H⟩ := H; (try dsimp only at H)
        replace H := ig_ H; obtain ⟨c25, H⟩ := H
        have LMc25 := a_ c25
        clear c25
        obtain ⟨I0, I5⟩ : ∃ y_ : List (S64), y_ = (D6 ++ (ek (bI l0 A1) (D8))) := ⟨_, rfl⟩
        replace H : (if A7.length < 5864062014805 then (aJ.l1 k2 l0 a1 B3 A1 ((bI l0 A1).length : Int) (A7 ++ [I0]) (wrap64 (A2 + 1))) else (none)) = some r := rh_ I5 H
        have N3 := a_ I5
        clear I5
        replace H := ig_ H; obtain ⟨c26, H⟩ := H
        have LMc26 := a_ c26
        clear c26
        obtain ⟨N4, I6⟩ : ∃ y_ : List (List (S64)), y_ = (A7 ++ [I0]) := ⟨_, rfl⟩
        replace H : (aJ.l1 k2 l0 a1 B3 A1 ((bI l0 A1).length : Int) N4 (wrap64 (A2 + 1))) = some r := rh_ I6 H
        have N5 := a_ I6
        clear I6
        have H' := a_ H
        clear H
        try go_wp2
        replace HO_5 := a_ (Kd.ay HO_5.out)
        replace HO_8 := a_ (Kd.gZ HO_8.out)
        replace HB := a_ (aM HB.out)
        have E5 : 0 ≤ (A1 : Int) := of_decide_eq_true aX
        have E6 : A1 < (l0.length : Int) := of_decide_eq_true aX
        obtain ⟨I7, K5, E2, K6, A3, B7, C0⟩ := kF HR0.out A1 E5 E6
        have C1 := A3
        obtain rfl : A8 = I7 := (by injection K6)
        replace A3 := (HB.out.cell (World.block_lt_of_cell? _ _ A3)).trans A3
        have C2 := a_ C0
        have J7 := a_ B7
        clear C0 B7
        replace E5 := eq_true E5
        replace E6 := eq_true E6
        have E7 : 0 ≤ ((B4) : Int) := of_decide_eq_true aX
        have E8 : (B4) < ((bI l0 A1).length : Int) := of_decide_eq_true aX
        obtain ⟨C3, E3, E4, K7, A5, C4, C5⟩ := kV C2.out (B4) E7 E8
        have C6 := A5
        cases K7
        replace A5 := (HB.out.cell (World.block_lt_of_cell? _ _ A5)).trans A5
        have E0 := a_ C5
        have F9 := a_ C4
        clear C5 C4
        replace E7 := eq_true E7
        replace E8 := eq_true E8
        have E9 : 0 ≤ (A1 : Int) := of_decide_eq_true aX
        have F0 : A1 < (l0.length : Int) := of_decide_eq_true aX
        obtain ⟨I8, K8, K9, L0, A4, C7, C8⟩ := kF HR0.out A1 E9 F0
        have C9 := A4
        obtain rfl : A8 = I8 := (by injection L0)
        replace A4 := (HB.out.cell (World.block_lt_of_cell? _ _ A4)).trans A4
        have D0 := a_ C8
        have J8 := a_ C7
        clear C8 C7
        replace E9 := eq_true E9
        replace F0 := eq_true F0
        have ea_ := Option.some.inj (A3.symm.trans A4)
        injection ea_ with ea_ en_ ec_
        subst ea_
        subst ec_
        clear en_
        have F1 : 0 ≤ (A2 : Int) := of_decide_eq_true aX
        have F2 : A2 < ((bI l0 A1).length : Int) := of_decide_eq_true aX
        obtain ⟨N6, F3, F4, L1, A6, D1, D2⟩ := kV D0.out A2 F1 F2
        have D3 := A6
        cases L1
        replace A6 := (HB.out.cell (World.block_lt_of_cell? _ _ A6)).trans A6
        have E1 := a_ D2
        have J9 := a_ D1
        clear D2 D1
        replace F1 := eq_true F1
        replace F2 := eq_true F2
        refine gW (n := 19) (S := fun w' => w'.cell? (A8.add (A1).toNat) = some (.slice (some C3) (bI l0 A1).length E2) ∧ w'.cell? (C3.add ((B4)).toNat) = some (.slice E3 (ek (bI l0 A1) (B4)).length E4) ∧ w'.cell? (A8.add (A1).toNat) = some (.slice (some C3) (bI l0 A1).length E2) ∧ w'.cell? (C3.add (A2).toNat) = some (.slice F3 (ek (bI l0 A1) A2).length F4)) (ds := []) #[false, false, false, false, false, false, false, false, false, false, false, false, false, false, false, false, false, false, false] (by kernel_rfl) rfl rfl ⟨((HB.out.cell (World.block_lt_of_cell? _ _ C1)).trans C1), ((HB.out.cell (World.block_lt_of_cell? _ _ C6)).trans C6), ((HB.out.cell (World.block_lt_of_cell? _ _ C9)).trans C9), ((HB.out.cell (World.block_lt_of_cell? _ _ D3)).trans D3)⟩ (fun hHeld => ?_); refine fq aJ.Ae aJ.ze (fun HT_ HW_ => ?_)
        generalize wr.drew = S5 at HO_5 HO_8 HB C2 E0 D0 E1 A3 A5 A4 A6 hHeld ⊢
        refine pv_ 0 (some 31) ?_
        refine pv_ 1 (some 32) ?_
        refine pv_ 2 (some 33) ?_
        refine pv_ 4 (some 35) ?_
        refine pv_ 5 (some 36) ?_
        refine pv_ 6 (some 37) ?_
        refine pv_ 7 (some 38) ?_
        refine pv_ 10 (some 41) ?_
        refine pv_ 11 (some 42) ?_
        refine pv_ 12 (some 43) ?_
        refine pv_ 14 (some 45) ?_
        refine oq 3 (some 34) hHeld ?_
        refine pv_ 8 (some 39) ?_
        refine oq 9 (some 40) hHeld ?_
        refine pv_ 17 (some 10) ?_
        refine oq 13 (some 44) hHeld ?_
        refine pv_ 15 (some 46) ?_
        refine oq 16 (some 47) hHeld ?_
        refine pv_ 18 (some 11) ?_
        refine jl (iw HT_.out (by kernel_rfl)) ?_
        try go_wp2
        replace HO_5 := a_ (Kd.ay HO_5.out)
        replace HO_8 := a_ (Kd.gZ HO_8.out)
        replace HB := a_ (aM HB.out)
        have L2 : 0 ≤ (A1 : Int) := of_decide_eq_true aX
        have L3 : A1 < (l0.length : Int) := of_decide_eq_true aX
        obtain ⟨N7, P7, I9, P8, A9, G0, G1⟩ := kF HR0.out A1 L2 L3
        have G2 := A9
        obtain rfl : A8 = N7 := (by injection P8)
        replace A9 := (HB.out.cell (World.block_lt_of_cell? _ _ A9)).trans A9
        have G3 := a_ G1
        have O9 := a_ G0
        clear G1 G0
        replace L2 := eq_true L2
        replace L3 := eq_true L3
        have L4 : 0 ≤ ((D7) : Int) := of_decide_eq_true aX
        have L5 : (D7) < ((bI l0 A1).length : Int) := of_decide_eq_true aX
        obtain ⟨G4, J0, J1, P9, D4, G5, G6⟩ := kV G3.out (D7) L4 L5
        have G7 := D4
        cases P9
        replace D4 := (HB.out.cell (World.block_lt_of_cell? _ _ D4)).trans D4
        have G8 := a_ G6
        have K0 := a_ G5
        clear G6 G5
        replace L4 := eq_true L4
        replace L5 := eq_true L5
        have L6 : 0 ≤ (A1 : Int) := of_decide_eq_true aX
        have L7 : A1 < (l0.length : Int) := of_decide_eq_true aX
        obtain ⟨N8, Q0, Q1, Q2, B0, G9, H0⟩ := kF HR0.out A1 L6 L7
        have H1 := B0
        obtain rfl : A8 = N8 := (by injection Q2)
        replace B0 := (HB.out.cell (World.block_lt_of_cell? _ _ B0)).trans B0
        have H2 := a_ H0
        have P0 := a_ G9
        clear H0 G9
        replace L6 := eq_true L6
        replace L7 := eq_true L7
        have ea_ := Option.some.inj (A9.symm.trans B0)
        injection ea_ with ea_ en_ ec_
        subst ea_
        subst ec_
        clear en_
        have L8 : 0 ≤ ((D8) : Int) := of_decide_eq_true aX
        have L9 : (D8) < ((bI l0 A1).length : Int) := of_decide_eq_true aX
        obtain ⟨S1, M0, M1, Q3, D5, H3, H4⟩ := kV H2.out (D8) L8 L9
        have H5 := D5
        cases Q3
        replace D5 := (HB.out.cell (World.block_lt_of_cell? _ _ D5)).trans D5
        have H6 := a_ H4
        have P1 := a_ H3
        clear H4 H3
        replace L8 := eq_true L8
        replace L9 := eq_true L9
        refine gW (n := 23) (S := fun w' => w'.cell? (A8.add (A1).toNat) = some (.slice (some G4) (bI l0 A1).length I9) ∧ w'.cell? (G4.add ((D7)).toNat) = some (.slice J0 (ek (bI l0 A1) (D7)).length J1) ∧ w'.cell? (A8.add (A1).toNat) = some (.slice (some G4) (bI l0 A1).length I9) ∧ w'.cell? (G4.add ((D8)).toNat) = some (.slice M0 (ek (bI l0 A1) (D8)).length M1)) (ds := []) #[false, false, false, false, false, false, false, false, false, false, false, false, false, false, false, false, false, false, false, false, false, false, false] (by kernel_rfl) rfl rfl ⟨((HB.out.cell (World.block_lt_of_cell? _ _ G2)).trans G2), ((HB.out.cell (World.block_lt_of_cell? _ _ G7)).trans G7), ((HB.out.cell (World.block_lt_of_cell? _ _ H1)).trans H1), ((HB.out.cell (World.block_lt_of_cell? _ _ H5)).trans H5)⟩ (fun hHeld => ?_); refine fq aJ.zh aJ.vS (fun HT_ HW_ => ?_)
        generalize S5.drew = T7 at HO_5 HO_8 HB G3 G8 H2 H6 A9 D4 B0 D5 hHeld ⊢
        refine pv_ 0 (some 50) ?_
        refine pv_ 1 (some 51) ?_
        refine pv_ 2 (some 52) ?_
        refine pv_ 4 (some 54) ?_
        refine pv_ 5 (some 55) ?_
        refine pv_ 6 (some 56) ?_
        refine pv_ 7 (some 57) ?_
        refine pv_ 8 (some 58) ?_
        refine pv_ 11 (some 61) ?_
        refine pv_ 12 (some 62) ?_
        refine pv_ 13 (some 63) ?_
        refine pv_ 15 (some 65) ?_
        refine pv_ 16 (some 66) ?_
        refine pv_ 17 (some 67) ?_
        refine pv_ 18 (some 68) ?_
        refine oq 3 (some 53) hHeld ?_
        refine pv_ 9 (some 59) ?_
        refine oq 10 (some 60) hHeld ?_
        refine pv_ 21 (some 10) ?_
        refine oq 14 (some 64) hHeld ?_
        refine pv_ 19 (some 69) ?_
        refine oq 20 (some 70) hHeld ?_
        refine pv_ 22 (some 11) ?_
        refine jl (iw HT_.out (by kernel_rfl)) ?_
        try go_wp2_with (first | ((with_reducible refine av (f := 115) rfl ?_); refine bJ (some 73) rfl rfl Tryz.func115 (by kernel_rfl) rfl #[.slice J0 (ek (bI l0 A1) (D7)).length J1, .bool true] rfl (by (try simp only [List.map_toArray, List.map_cons, List.map_nil]); first | done | (simp only [F8]; rfl) | rfl | (simp only [List.length_drop, List.length_take]; rfl)) ?_; (with_reducible refine (bQ.calls _ _ (ek (bI l0 A1) (D7)) true D6 _ ?side1 ?side2 S4.out).mono ?_); (case side1 => exact kc_ (Kd.bT G8.out HB.out)); (case side2 => exact K0.out); rintro e U0 ⟨Q4, rfl, ho0, hb⟩; refine ⟨_, rfl, ?_⟩; replace HO_5 := a_ (Kd.bC (ra_ HO_5.out) (Kd.aH ho0) hb); replace HO_8 := a_ (Kd.kE wS (Kd.aH ho0) hb); have K3 := a_ (Kd.bE ho0 (ai bX)); replace HB := cK bX hb; (try clear hb); (try clear ho0)) | ((with_reducible refine di (b := .append) (xs := #[.tmp 73, .tmp 74]) rfl ?_); at_builtin; refine Kd.il k64 (w0 := w) w.heap.size rfl (.tmp 73) (.tmp 74) 61 64 (.agg #[(.int .i64 0), (.int .i64 0), (.bool false), (.bool false)]) 24 rfl Tryz.underlying61 lQ rfl (by decide) (by omega) Q4 D6 (ek (bI l0 A1) (D8)) _ _ _ (fun _ => True) (fun _ => False) rfl rfl ?aO ?aR (fun _ _ h => h) (fun _ h => h.elim) ?aF ?aB ?aS ?aL ?_; (case aR => exact kc_ (Kd.bT H6.out HB.out)); (case aB => exact bX); (case aF => exact (fun _ _ => trivial)); (case aO => exact (ra_ K3.out)); (case aS => exact (ai bX)); (case aL => have := LMc25.out; omega); intro S6 U1 ho hb hg hat; rw [← N3.out] at ho; replace HO_5 := a_ (Kd.fe (ok := (fun k_ => some k_ ≠ (u8 : Value).ownBlock)) (ra_ HO_5.out) hg hat); replace HO_8 := a_ (Kd.qf (ok := (fun _ => True)) wS hg hat); replace HB := a_ (hb); have H7 := a_ (ho); clear K3; clear ho hb hg hat; obtain ⟨M2, M3, Q5⟩ := Kd.bg H7.out; subst Q5) | ((with_reducible refine di (b := .append) (xs := #[.tmp 71, .tmp 76]) rfl ?_); at_builtin; refine Kd.nY (Kd.slice 64 k64) (w0 := w) w.heap.size rfl (.tmp 71) (.tmp 76) 96 61 (.slice none 0 0) 24 rfl Tryz.underlying96 nL rfl (by decide) (by omega) u8 A7 I0 [.slice M2 I0.length M3] (fun _ => True) (fun k_ => some k_ = (.slice M2 I0.length M3 : Value).ownBlock) rfl rfl ?aP (fun k_ hk_ => ((Kd.ae (ok' := fun k_ => ((fun _ => True)) k_ ∧ some k_ ≠ (u8 : Value).ownBlock) (Kd.gL (H7.out) (Kd.jk HO_8.out) (by decide)) (fun k_ hk => ⟨trivial, hk.2⟩))).1 k_ hk_.symm) ?aF ?aO ?aB ?aS ?aL ?_; (case aP => exact Kd.lM (Kd.ae (Kd.iX rfl (Kd.ae (ok' := fun k_ => ((fun _ => True)) k_ ∧ some k_ ≠ (u8 : Value).ownBlock) (Kd.gL (H7.out) (Kd.jk HO_8.out) (by decide)) (fun k_ hk => ⟨trivial, hk.2⟩))) (fun _ h_ => h_))); (case aB => exact bX); (case aF => exact (fun _ _ => trivial)); (case aO => exact (by (with_reducible repeat (first | apply Kd.gX | apply Kd.ik | apply Kd.gZ)); exact Kd.mD HO_8.out (fun k_ hk => ⟨trivial, fun e_ => hk.2 e_⟩))); (case aS => exact (ai bX)); (case aL => have := LMc26.out; omega); intro S7 U2 ho hb hg hat; rw [← N5.out] at ho; replace HO_5 := a_ (Kd.fe (ok := (fun k_ => nb_ k_ M2 I0.length M3)) (rc_ (h := by exact Kd.ae HO_5.out (fun _ hk => ⟨hk.2, hk.1⟩))) hg hat); replace HB := a_ (hb); have N9 := a_ (ho); clear H7; clear HO_8; clear ho hb hg hat))
        go_roundg k2
        case measure => have := HK1.out; have := HK2.out; omega
        case rel => exact ⟨(N4), (wrap64 (A2 + 1)), cz, H', ⟨jW⟩, ⟨yC⟩, ⟨by (with_reducible repeat (first | apply Kd.gX | apply Kd.ik | apply Kd.gZ)); exact N9.out⟩, ⟨bX⟩⟩
       rw [if_neg c17] at H
       have N1 : (a1 == 76) = false := beq_eq_false_iff_ne.mpr c17
       have N2 : (a1 != 76) = true := bne_iff_ne.mpr c17
       replace H := bo_ H; obtain ⟨H9, S8, H⟩ := H; (try dsimp only at H)
       replace H := ig_ H; obtain ⟨c34, H⟩ := H
       have LMc34 := a_ c34
       clear c34
       obtain ⟨I1, J2⟩ : ∃ y_ : List (S64), y_ = (H9 ++ (ek (bI l0 A1) A2)) := ⟨_, rfl⟩
       replace H : (if A7.length < 5864062014805 then (aJ.l1 k2 l0 a1 B3 A1 ((bI l0 A1).length : Int) (A7 ++ [I1]) (wrap64 (A2 + 1))) else (none)) = some r := rh_ J2 H
       have O0 := a_ J2
       clear J2
       replace H := ig_ H; obtain ⟨c35, H⟩ := H
       have LMc35 := a_ c35
       clear c35
       obtain ⟨O1, J3⟩ : ∃ y_ : List (List (S64)), y_ = (A7 ++ [I1]) := ⟨_, rfl⟩
       replace H : (aJ.l1 k2 l0 a1 B3 A1 ((bI l0 A1).length : Int) O1 (wrap64 (A2 + 1))) = some r := rh_ J3 H
       have O2 := a_ J3
       clear J3
       have H' := a_ H
       clear H
       try go_wp2
       replace HO_5 := a_ (Kd.ay HO_5.out)
       replace HO_8 := a_ (Kd.gZ HO_8.out)
       replace HB := a_ (aM HB.out)
       have E5 : 0 ≤ (A1 : Int) := of_decide_eq_true aX
       have E6 : A1 < (l0.length : Int) := of_decide_eq_true aX
       obtain ⟨I7, K5, E2, K6, A3, B7, C0⟩ := kF HR0.out A1 E5 E6
       have C1 := A3
       obtain rfl : A8 = I7 := (by injection K6)
       replace A3 := (HB.out.cell (World.block_lt_of_cell? _ _ A3)).trans A3
       have C2 := a_ C0
       have J7 := a_ B7
       clear C0 B7
       replace E5 := eq_true E5
       replace E6 := eq_true E6
       have E7 : 0 ≤ ((B4) : Int) := of_decide_eq_true aX
       have E8 : (B4) < ((bI l0 A1).length : Int) := of_decide_eq_true aX
       obtain ⟨C3, E3, E4, K7, A5, C4, C5⟩ := kV C2.out (B4) E7 E8
       have C6 := A5
       cases K7
       replace A5 := (HB.out.cell (World.block_lt_of_cell? _ _ A5)).trans A5
       have E0 := a_ C5
       have F9 := a_ C4
       clear C5 C4
       replace E7 := eq_true E7
       replace E8 := eq_true E8
       have E9 : 0 ≤ (A1 : Int) := of_decide_eq_true aX
       have F0 : A1 < (l0.length : Int) := of_decide_eq_true aX
       obtain ⟨I8, K8, K9, L0, A4, C7, C8⟩ := kF HR0.out A1 E9 F0
       have C9 := A4
       obtain rfl : A8 = I8 := (by injection L0)
       replace A4 := (HB.out.cell (World.block_lt_of_cell? _ _ A4)).trans A4
       have D0 := a_ C8
       have J8 := a_ C7
       clear C8 C7
       replace E9 := eq_true E9
       replace F0 := eq_true F0
       have ea_ := Option.some.inj (A3.symm.trans A4)
       injection ea_ with ea_ en_ ec_
       subst ea_
       subst ec_
       clear en_
       have F1 : 0 ≤ (A2 : Int) := of_decide_eq_true aX
       have F2 : A2 < ((bI l0 A1).length : Int) := of_decide_eq_true aX
       obtain ⟨N6, F3, F4, L1, A6, D1, D2⟩ := kV D0.out A2 F1 F2
       have D3 := A6
       cases L1
       replace A6 := (HB.out.cell (World.block_lt_of_cell? _ _ A6)).trans A6
       have E1 := a_ D2
       have J9 := a_ D1
       clear D2 D1
       replace F1 := eq_true F1
       replace F2 := eq_true F2
       refine gW (n := 19) (S := fun w' => w'.cell? (A8.add (A1).toNat) = some (.slice (some C3) (bI l0 A1).length E2) ∧ w'.cell? (C3.add ((B4)).toNat) = some (.slice E3 (ek (bI l0 A1) (B4)).length E4) ∧ w'.cell? (A8.add (A1).toNat) = some (.slice (some C3) (bI l0 A1).length E2) ∧ w'.cell? (C3.add (A2).toNat) = some (.slice F3 (ek (bI l0 A1) A2).length F4)) (ds := []) #[false, false, false, false, false, false, false, false, false, false, false, false, false, false, false, false, false, false, false] (by kernel_rfl) rfl rfl ⟨((HB.out.cell (World.block_lt_of_cell? _ _ C1)).trans C1), ((HB.out.cell (World.block_lt_of_cell? _ _ C6)).trans C6), ((HB.out.cell (World.block_lt_of_cell? _ _ C9)).trans C9), ((HB.out.cell (World.block_lt_of_cell? _ _ D3)).trans D3)⟩ (fun hHeld => ?_); refine fq aJ.Ae aJ.ze (fun HT_ HW_ => ?_)
       generalize wr.drew = U3 at HO_5 HO_8 HB C2 E0 D0 E1 A3 A5 A4 A6 hHeld ⊢
       refine pv_ 0 (some 31) ?_
       refine pv_ 1 (some 32) ?_
       refine pv_ 2 (some 33) ?_
       refine pv_ 4 (some 35) ?_
       refine pv_ 5 (some 36) ?_
       refine pv_ 6 (some 37) ?_
       refine pv_ 7 (some 38) ?_
       refine pv_ 10 (some 41) ?_
       refine pv_ 11 (some 42) ?_
       refine pv_ 12 (some 43) ?_
       refine pv_ 14 (some 45) ?_
       refine oq 3 (some 34) hHeld ?_
       refine pv_ 8 (some 39) ?_
       refine oq 9 (some 40) hHeld ?_
       refine pv_ 17 (some 10) ?_
       refine oq 13 (some 44) hHeld ?_
       refine pv_ 15 (some 46) ?_
       refine oq 16 (some 47) hHeld ?_
       refine pv_ 18 (some 11) ?_
       refine jl (iw HT_.out (by kernel_rfl)) ?_
       try go_wp2_with (first | ((with_reducible refine av (f := 115) rfl ?_); refine bJ (some 73) rfl rfl Tryz.func115 (by kernel_rfl) rfl #[.slice E3 (ek (bI l0 A1) (B4)).length E4, .bool true] rfl (by (try simp only [List.map_toArray, List.map_cons, List.map_nil]); first | done | (simp only [F7]; rfl) | rfl | (simp only [List.length_drop, List.length_take]; rfl)) ?_; (with_reducible refine (bQ.calls _ _ (ek (bI l0 A1) (B4)) true H9 _ ?side1 ?side2 S8.out).mono ?_); (case side1 => exact kc_ (Kd.bT E0.out HB.out)); (case side2 => exact F9.out); rintro e U4 ⟨Q6, rfl, ho0, hb⟩; refine ⟨_, rfl, ?_⟩; replace HO_5 := a_ (Kd.bC (ra_ HO_5.out) (Kd.aH ho0) hb); replace HO_8 := a_ (Kd.kE wS (Kd.aH ho0) hb); have K4 := a_ (Kd.bE ho0 (ai bX)); replace HB := cK bX hb; (try clear hb); (try clear ho0)) | ((with_reducible refine di (b := .append) (xs := #[.tmp 73, .tmp 74]) rfl ?_); at_builtin; refine Kd.il k64 (w0 := w) w.heap.size rfl (.tmp 73) (.tmp 74) 61 64 (.agg #[(.int .i64 0), (.int .i64 0), (.bool false), (.bool false)]) 24 rfl Tryz.underlying61 lQ rfl (by decide) (by omega) Q6 H9 (ek (bI l0 A1) A2) _ _ _ (fun _ => True) (fun _ => False) rfl rfl ?aO ?aR (fun _ _ h => h) (fun _ h => h.elim) ?aF ?aB ?aS ?aL ?_; (case aR => exact kc_ (Kd.bT E1.out HB.out)); (case aB => exact bX); (case aF => exact (fun _ _ => trivial)); (case aO => exact (ra_ K4.out)); (case aS => exact (ai bX)); (case aL => have := LMc34.out; omega); intro S9 U5 ho hb hg hat; rw [← O0.out] at ho; replace HO_5 := a_ (Kd.fe (ok := (fun k_ => some k_ ≠ (u8 : Value).ownBlock)) (ra_ HO_5.out) hg hat); replace HO_8 := a_ (Kd.qf (ok := (fun _ => True)) wS hg hat); replace HB := a_ (hb); have H8 := a_ (ho); clear K4; clear ho hb hg hat; obtain ⟨M4, M5, Q7⟩ := Kd.bg H8.out; subst Q7) | ((with_reducible refine di (b := .append) (xs := #[.tmp 71, .tmp 76]) rfl ?_); at_builtin; refine Kd.nY (Kd.slice 64 k64) (w0 := w) w.heap.size rfl (.tmp 71) (.tmp 76) 96 61 (.slice none 0 0) 24 rfl Tryz.underlying96 nL rfl (by decide) (by omega) u8 A7 I1 [.slice M4 I1.length M5] (fun _ => True) (fun k_ => some k_ = (.slice M4 I1.length M5 : Value).ownBlock) rfl rfl ?aP (fun k_ hk_ => ((Kd.ae (ok' := fun k_ => ((fun _ => True)) k_ ∧ some k_ ≠ (u8 : Value).ownBlock) (Kd.gL (H8.out) (Kd.jk HO_8.out) (by decide)) (fun k_ hk => ⟨trivial, hk.2⟩))).1 k_ hk_.symm) ?aF ?aO ?aB ?aS ?aL ?_; (case aP => exact Kd.lM (Kd.ae (Kd.iX rfl (Kd.ae (ok' := fun k_ => ((fun _ => True)) k_ ∧ some k_ ≠ (u8 : Value).ownBlock) (Kd.gL (H8.out) (Kd.jk HO_8.out) (by decide)) (fun k_ hk => ⟨trivial, hk.2⟩))) (fun _ h_ => h_))); (case aB => exact bX); (case aF => exact (fun _ _ => trivial)); (case aO => exact (by (with_reducible repeat (first | apply Kd.gX | apply Kd.ik | apply Kd.gZ)); exact Kd.mD HO_8.out (fun k_ hk => ⟨trivial, fun e_ => hk.2 e_⟩))); (case aS => exact (ai bX)); (case aL => have := LMc35.out; omega); intro T0 U6 ho hb hg hat; rw [← O2.out] at ho; replace HO_5 := a_ (Kd.fe (ok := (fun k_ => nb_ k_ M4 I1.length M5)) (rc_ (h := by exact Kd.ae HO_5.out (fun _ hk => ⟨hk.2, hk.1⟩))) hg hat); replace HB := a_ (hb); have O3 := a_ (ho); clear H8; clear HO_8; clear ho hb hg hat))
       go_roundg k2
       case measure => have := HK1.out; have := HK2.out; omega
       case rel => exact ⟨(O1), (wrap64 (A2 + 1)), cz, H', ⟨jW⟩, ⟨yC⟩, ⟨by (with_reducible repeat (first | apply Kd.gX | apply Kd.ik | apply Kd.gZ)); exact O3.out⟩, ⟨bX⟩⟩
      rw [if_neg c9] at H
      have P6 := decide_eq_false c9
      clear c9
      replace H := ig_ H; obtain ⟨c41, H⟩ := H
      have LMc41 := a_ c41
      clear c41
      obtain ⟨O4, J4⟩ : ∃ y_ : List (List (List (S64))), y_ = (B3 ++ [A7]) := ⟨_, rfl⟩
      replace H : (aJ.l0 k2 l0 a1 O4 (wrap64 (A1 + 1))) = some r := rh_ J4 H
      have O5 := a_ J4
      clear J4
      have H' := a_ H
      clear H
      obtain ⟨Q8, Q9, R0⟩ := Kd.lT HO_8.out
      subst R0
      go_wp2_with (first | ((with_reducible refine di (b := .append) (xs := #[.tmp 78, .tmp 80]) rfl ?_); at_builtin; refine Kd.fZ (Kd.slice 61 (Kd.slice 64 k64)) (w0 := w) w.heap.size rfl (.tmp 78) (.tmp 80) 95 96 (.slice none 0 0) 24 rfl Tryz.underlying95 pg rfl (by decide) (by omega) u5 B3 A7 [.slice Q8 A7.length Q9] (fun _ => True) (fun k_ => ((fun _ => True)) k_ ∧ some k_ ≠ (u5 : Value).ownBlock) rfl rfl ?aP (fun _ hk => hk) ?aF ?aO ?aB ?aS ?aL ?_; (case aP => exact Kd.lM (Kd.ae (Kd.gL ((Kd.S_R HO_8.out)) (Kd.jf HO_5.out) (by decide)) (fun k_ hk => ⟨trivial, hk.2⟩))); (case aB => exact bX); (case aF => exact (fun _ _ => trivial)); (case aO => exact (rc_ (h := by exact Kd.ae HO_5.out (fun _ hk => trivial)))); (case aS => exact (ai bX)); (case aL => have := LMc41.out; omega); intro T3 U7 ho hb hg hat; rw [← O5.out] at ho; replace HB := a_ (hb); have O6 := a_ (ho); clear HO_5; clear HO_8; clear ho hb hg hat))
      go_roundg k2
      case measure => have := HK1.out; have := HK2.out; omega
      case rel => exact ⟨(O4), (wrap64 (A1 + 1)), cz, H', ⟨jW⟩, ⟨by (with_reducible repeat (first | apply Kd.aC | apply Kd.aA | apply Kd.ay)); exact O6.out⟩, ⟨bX⟩⟩
   rw [if_neg c5] at H
   have M8 := decide_eq_false c5
   clear c5
   obtain rfl := Option.some.inj H
   go_wp2
   go_ret
   exact ⟨_, gy, oo, bX⟩
end Go.Proofs.YtkpidjmhdagkfaaGreatDoor.QFnImposed
