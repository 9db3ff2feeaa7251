-- Written by own_print.py of this session's repo over the kit's print (its output, turned at some places).
import Derived.Test.YtkpidjmhdagkfaaGreatDoorQFnReadFormsx0
import Derived.Test.YtkpidjmhdagkfaaGreatDoorQFnReadFormsx1
import Derived.Test.YtkpidjmhdagkfaaGreatDoorQFnReadFormsx3
import Derived.Test.YtkpidjmhdagkfaaGreatDoorQFnReadFormsx7
import Derived.Test.YtkpidjmhdagkfaaGreatDoorQFnReadFormsx9
import Derived.Test.YtkpidjmhdagkfaaGreatDoorQFnReadFormsx10
import Derived.Test.YtkpidjmhdagkfaaGreatDoorQFnReadFormsx8
namespace Go.Proofs.YtkpidjmhdagkfaaGreatDoor.QFnReadForms
open Go.RowKit Go.Proofs.YtkpidjmhdagkfaaGreatDoorW.PrintWords Go.Proofs.YtkpidjmhdagkfaaGreatDoorW.PrintLast Go.Proofs.YtkpidjmhdagkfaaGreatDoorW.PrintMore
attribute [local go_sem] ik iq iR iT gD gF il iw
set_option maxHeartbeats 8000000
set_option maxRecDepth 100000
set_option linter.unusedVariables false
set_option linter.unusedSimpArgs false
mutual
def ay.j0 : Nat → ByteArray → Int → Int → Bool → Option (List ByteArray)
 | 0, _, _, _, _ => none
 | k + 1, x0, x1, x2, x13 => if x13 = true then (some (([x0] : List ByteArray))) else ((some (([] : List ByteArray) : List ByteArray)).bind fun y558 => (if x2 > 0 then (if x0.size + 1 ≤ 9223372036854775807 then ((ay.f k (x0 ++ (⟨#[66]⟩ : ByteArray)) x1 (wrap64 (x2 - 1))).bind fun t561 => (if y558.length + t561.length < 8796093022208 then (ay.j1 k x0 x1 x2 (y558 ++ t561)) else (none))) else (none)) else (ay.j1 k x0 x1 x2 y558)))
def ay.j1 : Nat → ByteArray → Int → Int → List ByteArray → Option (List ByteArray)
 | 0, _, _, _, _ => none
 | k + 1, x0, x1, x2, x7 => if x1 > 0 then (if x0.size + 1 ≤ 9223372036854775807 then ((ay.f k (x0 ++ (⟨#[76]⟩ : ByteArray)) (wrap64 (x1 - 1)) x2).bind fun t567 => (if x7.length + t567.length < 8796093022208 then ((some (x7 ++ t567 : List ByteArray)).bind fun y570 => ((ay.f k (x0 ++ (⟨#[82]⟩ : ByteArray)) (wrap64 (x1 - 1)) x2).bind fun t573 => (if y570.length + t573.length < 8796093022208 then ((some (y570 ++ t573 : List ByteArray)).bind fun y576 => (if x2 > 0 then ((ay.f k (x0 ++ (⟨#[84]⟩ : ByteArray)) x1 (wrap64 (x2 - 1))).bind fun t579 => (if y576.length + t579.length < 8796093022208 then (some (y576 ++ t579)) else (none))) else (some y576))) else (none)))) else (none))) else (none)) else (if x2 > 0 then (if x0.size + 1 ≤ 9223372036854775807 then ((ay.f k (x0 ++ (⟨#[84]⟩ : ByteArray)) x1 (wrap64 (x2 - 1))).bind fun t585 => (if x7.length + t585.length < 8796093022208 then (some (x7 ++ t585)) else (none))) else (none)) else (some x7))
def ay.f : Nat → ByteArray → Int → Int → Option (List ByteArray)
 | 0, _, _, _ => none
 | k + 1, a0, a1, a2 => if a1 = 0 then (ay.j0 k a0 a1 a2 (a2 == 0)) else (ay.j0 k a0 a1 a2 false)
end
theorem ay.di : ∀ k, (∀ y0 y1 y2, LeO (ay.f k y0 y1 y2) (ay.f (k + 1) y0 y1 y2)) ∧ (∀ y0 y1 y2 y3, LeO (ay.j0 k y0 y1 y2 y3) (ay.j0 (k + 1) y0 y1 y2 y3)) ∧ (∀ y0 y1 y2 y3, LeO (ay.j1 k y0 y1 y2 y3) (ay.j1 (k + 1) y0 y1 y2 y3))
 | 0 => ⟨fun _ _ _ r h => by simp [ay.f] at h, fun _ _ _ _ r h => by simp [ay.j0] at h, fun _ _ _ _ r h => by simp [ay.j1] at h⟩
 | k + 1 => by
  obtain ⟨ih0, ih1, ih2⟩ := ay.di k
  refine ⟨?_, ?_, ?_⟩ <;> intros <;> (first | unfold ay.f | unfold ay.j0 | unfold ay.j1) <;> (repeat' first | (with_reducible first | exact ih0 .. | exact ih1 .. | exact ih2 .. | exact LeO.refl .. | exact LeO.none .. | refine LeO.ite ?_ ?_ | refine LeO.bind ?_ (fun _ => ?_)))
theorem ay.mono : ∀ a0 a1 a2 k, LeO (ay.f k a0 a1 a2) (ay.f (k + 1) a0 a1 a2) := by
 intro a0 a1 a2 k
 obtain ⟨ih0, ih1, ih2⟩ := ay.di k
 exact ih0 a0 a1 a2
theorem ay.calls (k : Nat) : ∀ (a0 : ByteArray) (a1 : Int) (a2 : Int) (r : List ByteArray) (w : World) (h : ay.f k a0 a1 a2 = some r),
  Calls Tryz.prog 91 #[.string a0, .int .i64 a1, .int .i64 a2] w fun e w' => ∃ v0_ : Value, e = .returned (v0_) ∧ Kd.R Kd.string 9 w' w.heap.size (fun _ => True) v0_ r ∧ Below w.heap.size w w' := by
 induction k using Nat.strongRecOn with
 | _ k ih =>
 intro a0 a1 a2 r w h
 cases k with
 | zero => exact absurd h (by simp [ay.f])
 | succ k =>
 simp only [ay.f] at h
 have HB := a_ (Below.refl w.heap.size w)
 have H : (if a1 = 0 then (ay.j0 k a0 a1 a2 (a2 == 0)) else (ay.j0 k a0 a1 a2 false)) = some r := h
 clear h
 have G5 := a_ H
 clear H
 go_enter Tryz.func91, Tryz.ntmps91
 go_upto_region 1 with (fail)
 go_cut [13] (fun v13 wc => ∃ (kq : Nat) (C3 : Bool), v13 = .bool C3 ∧ ah (ay.j0 kq a0 a1 a2 C3 = some r) ∧ ah (kq ≤ k) ∧ ah (Below w.heap.size w wc))
 case first =>
  have H := G5.out
  clear G5
  by_cases c5 : a1 = 0
  ·rw [if_pos c5] at H
   have C6 : (a1 == 0) = true := beq_iff_eq.mpr c5
   have G6 : (a1 != 0) = false := bne_eq_false_iff_eq.mpr c5
   clear c5
   (first | rw [C6] | (simp only [eU, gX]; rw [C6]) | skip)
   have H' := a_ H
   clear H
   go_wp2
   go_meet
   case rel => exact ⟨_, ((a2 == 0)), bZ, H', ⟨jD⟩, ⟨bO⟩⟩
  rw [if_neg c5] at H
  have C6 : (a1 == 0) = false := beq_eq_false_iff_ne.mpr c5
  have G6 : (a1 != 0) = true := bne_iff_ne.mpr c5
  (first | rw [C6] | (simp only [eU, gX]; rw [C6]) | skip)
  have H' := a_ H
  clear H
  go_wp2
  go_meet
  case rel => exact ⟨_, (false), bZ, H', ⟨jD⟩, ⟨bO⟩⟩
 case rest =>
  clear G5
  obtain ⟨kq, C3, rfl, HA, D7, HB⟩ := hcut
  cases kq with
  | zero => exact absurd HA.out (by simp [ay.j0])
  | succ D8 =>
   have H := HA.out
   clear HA
   simp only [ay.j0] at H
   by_cases c6 : C3 = true
   ·subst c6
    have H1 : (some (([a0] : List ByteArray))) = some r := by rw [if_pos rfl] at H; exact H
    clear H
    have H := H1
    clear H1
    obtain ⟨G7, C7⟩ : ∃ y_ : List ByteArray, y_ = (([a0] : List ByteArray)) := ⟨_, rfl⟩
    replace H : (some G7) = some r := rh_ C7 H
    have E1 := a_ C7
    clear C7
    obtain rfl := Option.some.inj H
    go_wp2_with (first | ((with_reducible refine bf (N := 15) rfl ?_); refine Kd.fU Kd.string _ 9 ?hg (N := 15) ?hd (xs := ([a0] : List ByteArray)) (inner := [.string a0]) (ok := fun _ => True) (okp := fun _ => True) ?hr ?hp (fun _ hk => hk) trivial (Below.refl _ _) (Nat.le_refl _) (by simp) ?_; (case hd => rfl); (case hg => rfl); (case hr => first | (go_simp; done) | (go_simp; rfl)); (case hp => exact (dm.one (show Kd.M Kd.string _ _ _ a0 [.string a0] from rfl) (dm.none _ _))); intro J7 w7 ho8 hb hg_ hnew_; clear hg_ hnew_; (first | rw [← E1.out] at ho8 | (simp only [Int.reduceToNat] at ho8; rw [← E1.out] at ho8)); have F1 := a_ (Kd.bu ho8 (af bO)); replace HB := df bO hb; clear hb ho8))
    go_ret
    exact ⟨_, fO, by (with_reducible repeat (first | apply Kd.aC | apply Kd.aD | apply Kd.az)); exact F1.out, bO⟩
   ·replace c6 := Bool.eq_false_iff.mpr c6
    subst c6
    have H1 : ((some (([] : List ByteArray) : List ByteArray)).bind fun A8 => (if a2 > 0 then (if a0.size + 1 ≤ 9223372036854775807 then ((ay.f D8 (a0 ++ (⟨#[66]⟩ : ByteArray)) a1 (wrap64 (a2 - 1))).bind fun A9 => (if A8.length + A9.length < 8796093022208 then (ay.j1 D8 a0 a1 a2 (A8 ++ A9)) else (none))) else (none)) else (ay.j1 D8 a0 a1 a2 A8))) = some r := by rw [if_neg (show ¬ (false = true) by decide)] at H; exact H
    clear H
    have H := H1
    clear H1
    obtain ⟨A8, C8⟩ : ∃ y_ : List ByteArray, y_ = (([] : List ByteArray)) := ⟨_, rfl⟩
    replace H : (if a2 > 0 then (if a0.size + 1 ≤ 9223372036854775807 then ((ay.f D8 (a0 ++ (⟨#[66]⟩ : ByteArray)) a1 (wrap64 (a2 - 1))).bind fun A9 => (if A8.length + A9.length < 8796093022208 then (ay.j1 D8 a0 a1 a2 (A8 ++ A9)) else (none))) else (none)) else (ay.j1 D8 a0 a1 a2 A8)) = some r := rh_ C8 H
    have E2 := a_ C8
    clear C8
    have G8 := a_ H
    clear H
    go_upto_if 18 with (first | ((with_reducible refine bf (N := 16) rfl ?_); refine Kd.fU Kd.string _ 9 ?hg (N := 16) ?hd (xs := ([] : List ByteArray)) (inner := []) (ok := fun _ => True) (okp := fun _ => True) ?hr ?hp (fun _ hk => hk) trivial (Below.refl _ _) (Nat.le_refl _) (by simp) ?_; (case hd => rfl); (case hg => rfl); (case hr => first | (go_simp; done) | (go_simp; rfl)); (case hp => exact (dm.none _ _)); intro G9 K7 ho11 hb hg_ hnew_; clear hg_ hnew_; (first | rw [← E2.out] at ho11 | (simp only [Int.reduceToNat] at ho11; rw [← E2.out] at ho11)); have B0 := a_ (Kd.bu ho11 (af bO)); replace HB := df bO hb; clear hb ho11))
    (try simp only [Act.put, List.setIfInBounds_toArray, List.set_cons_zero, List.set_cons_succ])
    go_cut [7] (fun v7 wc => ∃ (kq : Nat) (B4 : List ByteArray), ah (ay.j1 kq a0 a1 a2 B4 = some r) ∧ ah (kq ≤ D8) ∧ ah (Kd.R Kd.string 9 wc w.heap.size (fun _ => True) v7 B4) ∧ ah (Below w.heap.size w wc))
    case first =>
     have H := G8.out
     clear G8
     by_cases c12 : a2 > 0
     ·rw [if_pos c12] at H
      have B7 := decide_eq_true c12
      clear c12
      (first | rw [B7] | (simp only [eU, gX]; rw [B7]) | skip)
      replace H := ig_ H; obtain ⟨c13, H⟩ := H
      have I6 := eq_true c13
      have I7 := decide_eq_true c13
      try have I8 : (9223372036854775807 < a0.size + 1) = False := eq_false (Nat.not_lt.2 c13)
      (try (have c13s := c13; simp only [ByteArray.size_append, ByteArray.size_extract] at c13s; have c13s0 := eq_true c13s; have c13s1 := decide_eq_true c13s; have c13s2 := eq_false (Nat.not_lt.2 c13s)))
      replace H := bo_ H; obtain ⟨A9, J8, H⟩ := H; (try dsimp only at H)
      replace H := ig_ H; obtain ⟨c15, H⟩ := H
      have LMc15 := a_ c15
      clear c15
      obtain ⟨F2, C9⟩ : ∃ y_ : List ByteArray, y_ = (A8 ++ A9) := ⟨_, rfl⟩
      replace H : (ay.j1 D8 a0 a1 a2 F2) = some r := rh_ C9 H
      have F3 := a_ C9
      clear C9
      have H' := a_ H
      clear H
      go_wp2_with (first | ((with_reducible refine av (f := 91) rfl ?_); refine bI (some 25) rfl rfl Tryz.func91 (by kernel_rfl) rfl #[.string (a0 ++ (⟨#[66]⟩ : ByteArray)), .int .i64 a1, .int .i64 (wrap64 (a2 - 1))] rfl dL ?_; (with_reducible refine (ih D8 (by have := D7.out; omega) (a0 ++ (⟨#[66]⟩ : ByteArray)) a1 (wrap64 (a2 - 1)) A9 _ J8.out).mono ?_); rintro e K8 ⟨J9, rfl, ho0, hb⟩; refine ⟨_, rfl, ?_⟩; have C0 := a_ (Kd.bu (Kd.dF ho0 (Kd.dR (ra_ B0.out))) (af bO)); replace B0 := a_ (Kd.bB (ra_ B0.out) (Kd.bN ho0) hb); replace HB := df bO hb; (try clear hb); (try clear ho0); obtain ⟨H0, H2, H3⟩ := Kd.bg C0.out; subst H3) | ((with_reducible refine bF (b := .append) (xs := #[.tmp 19, .tmp 25]) rfl ?_); at_builtin; refine Kd.dO Kd.string (w0 := w) w.heap.size rfl (.tmp 19) (.tmp 25) 46 9 (.string ⟨#[]⟩) 16 rfl Tryz.underlying46 oG rfl (by decide) (by omega) G9 A8 A9 _ _ _ (fun k_ => nb_ k_ H0 A9.length H2) (fun _ => False) rfl rfl ?aO ?aR (fun _ _ h => h) (fun _ h => h.elim) ?aF ?aB ?aS ?aL ?_; (case aR => repeat (first | exact (Kd.aH C0.out).2.2 | (with_reducible refine Kd.dH ?_ _) | (with_reducible refine Kd.dJ ?_ _) | (with_reducible refine Kd.dX ?_))); (case aB => exact bO); (case aF => exact (fun k_ hk => Kd.fe (Kd.dR (ra_ C0.out)) k_ hk)); (case aO => exact (rc_ (h := by exact Kd.ae B0.out (fun _ hk => hk.2)))); (case aS => exact (af bO)); (case aL => have := LMc15.out; omega); intro K0 K9 ho hb hg hat; rw [← F3.out] at ho; replace C0 := a_ (Kd.dn (ok := (fun _ => True)) (ra_ C0.out) hg hat); replace HB := a_ (hb); have F4 := a_ (ho); clear B0; clear ho hb hg hat))
      go_meet
      case rel => exact ⟨_, (F2), H', ⟨by have := D7.out; first | omega | exact Nat.le_refl _⟩, ⟨by (with_reducible repeat (first | apply Kd.aC | apply Kd.aD | apply Kd.az)); exact Kd.ae F4.out (fun _ hk => trivial)⟩, ⟨bO⟩⟩
     rw [if_neg c12] at H
     have B7 := decide_eq_false c12
     clear c12
     (first | rw [B7] | (simp only [eU, gX]; rw [B7]) | skip)
     have H' := a_ H
     clear H
     go_wp2
     go_meet
     case rel => exact ⟨_, (A8), H', ⟨by have := D7.out; first | omega | exact Nat.le_refl _⟩, ⟨by (with_reducible repeat (first | apply Kd.aC | apply Kd.aD | apply Kd.az)); exact B0.out⟩, ⟨bO⟩⟩
    case rest =>
     clear G8; try clear c6
     obtain ⟨kq, B4, HA, F0, HO_7, HB⟩ := hcut
     cases kq with
     | zero => exact absurd HA.out (by simp [ay.j1])
     | succ D9 =>
      have H := HA.out
      clear HA
      simp only [ay.j1] at H
      by_cases c19 : a1 > 0
      ·rw [if_pos c19] at H
       have F5 := decide_eq_true c19
       clear c19
       replace H := ig_ H; obtain ⟨c20, H⟩ := H
       have I9 := eq_true c20
       have J0 := decide_eq_true c20
       try have J1 : (9223372036854775807 < a0.size + 1) = False := eq_false (Nat.not_lt.2 c20)
       (try (have c20s := c20; simp only [ByteArray.size_append, ByteArray.size_extract] at c20s; have c20s0 := eq_true c20s; have c20s1 := decide_eq_true c20s; have c20s2 := eq_false (Nat.not_lt.2 c20s)))
       replace H := bo_ H; obtain ⟨A5, J2, H⟩ := H; (try dsimp only at H)
       replace H := ig_ H; obtain ⟨c22, H⟩ := H
       have LMc22 := a_ c22
       clear c22
       obtain ⟨D0, D1⟩ : ∃ y_ : List ByteArray, y_ = (B4 ++ A5) := ⟨_, rfl⟩
       replace H : ((ay.f D9 (a0 ++ (⟨#[82]⟩ : ByteArray)) (wrap64 (a1 - 1)) a2).bind fun A4 => (if D0.length + A4.length < 8796093022208 then ((some (D0 ++ A4 : List ByteArray)).bind fun B3 => (if a2 > 0 then ((ay.f D9 (a0 ++ (⟨#[84]⟩ : ByteArray)) a1 (wrap64 (a2 - 1))).bind fun A6 => (if B3.length + A6.length < 8796093022208 then (some (B3 ++ A6)) else (none))) else (some B3))) else (none))) = some r := rh_ D1 H
       have E3 := a_ D1
       clear D1
       replace H := bo_ H; obtain ⟨A4, J3, H⟩ := H; (try dsimp only at H)
       replace H := ig_ H; obtain ⟨c24, H⟩ := H
       have LMc24 := a_ c24
       clear c24
       obtain ⟨B3, D2⟩ : ∃ y_ : List ByteArray, y_ = (D0 ++ A4) := ⟨_, rfl⟩
       replace H : (if a2 > 0 then ((ay.f D9 (a0 ++ (⟨#[84]⟩ : ByteArray)) a1 (wrap64 (a2 - 1))).bind fun A6 => (if B3.length + A6.length < 8796093022208 then (some (B3 ++ A6)) else (none))) else (some B3)) = some r := rh_ D2 H
       have E4 := a_ D2
       clear D2
       by_cases c25 : a2 > 0
       ·rw [if_pos c25] at H
        have F6 := decide_eq_true c25
        clear c25
        replace H := bo_ H; obtain ⟨A6, K1, H⟩ := H; (try dsimp only at H)
        replace H := ig_ H; obtain ⟨c27, H⟩ := H
        have LMc27 := a_ c27
        clear c27
        obtain ⟨H4, D3⟩ : ∃ y_ : List ByteArray, y_ = (B3 ++ A6) := ⟨_, rfl⟩
        replace H : (some H4) = some r := rh_ D3 H
        have F7 := a_ D3
        clear D3
        obtain rfl := Option.some.inj H
        go_wp2_with (first | ((with_reducible refine av (f := 91) rfl ?_); refine bI (some 35) rfl rfl Tryz.func91 (by kernel_rfl) rfl #[.string (a0 ++ (⟨#[76]⟩ : ByteArray)), .int .i64 (wrap64 (a1 - 1)), .int .i64 a2] rfl dL ?_; (with_reducible refine (ih D9 (by have := D7.out; have := F0.out; omega) (a0 ++ (⟨#[76]⟩ : ByteArray)) (wrap64 (a1 - 1)) a2 A5 _ J2.out).mono ?_); rintro e L0 ⟨H5, rfl, ho0, hb⟩; refine ⟨_, rfl, ?_⟩; have A1 := a_ (Kd.bu (Kd.dF ho0 (Kd.dR (ra_ HO_7.out))) (af bO)); replace HO_7 := a_ (Kd.bB (ra_ HO_7.out) (Kd.bN ho0) hb); replace HB := df bO hb; (try clear hb); (try clear ho0); obtain ⟨C4, C5, H6⟩ := Kd.bg A1.out; subst H6) | ((with_reducible refine bF (b := .append) (xs := #[.tmp 29, .tmp 35]) rfl ?_); at_builtin; refine Kd.dO Kd.string (w0 := w) w.heap.size rfl (.tmp 29) (.tmp 35) 46 9 (.string ⟨#[]⟩) 16 rfl Tryz.underlying46 oG rfl (by decide) (by omega) u7 B4 A5 _ _ _ (fun k_ => nb_ k_ C4 A5.length C5) (fun _ => False) rfl rfl ?aO ?aR (fun _ _ h => h) (fun _ h => h.elim) ?aF ?aB ?aS ?aL ?_; (case aR => repeat (first | exact (Kd.aH A1.out).2.2 | (with_reducible refine Kd.dH ?_ _) | (with_reducible refine Kd.dJ ?_ _) | (with_reducible refine Kd.dX ?_))); (case aB => exact bO); (case aF => exact (fun k_ hk => Kd.fe (Kd.dR (ra_ A1.out)) k_ hk)); (case aO => exact (rc_ (h := by exact Kd.ae HO_7.out (fun _ hk => hk.2)))); (case aS => exact (af bO)); (case aL => have := LMc22.out; omega); intro E5 L1 ho hb hg hat; rw [← E3.out] at ho; replace A1 := a_ (Kd.dn (ok := (fun _ => True)) (ra_ A1.out) hg hat); replace HB := a_ (hb); have A3 := a_ (ho); clear HO_7; clear ho hb hg hat) | ((with_reducible refine av (f := 91) rfl ?_); refine bI (some 43) rfl rfl Tryz.func91 (by kernel_rfl) rfl #[.string (a0 ++ (⟨#[82]⟩ : ByteArray)), .int .i64 (wrap64 (a1 - 1)), .int .i64 a2] rfl dL ?_; (with_reducible refine (ih D9 (by have := D7.out; have := F0.out; omega) (a0 ++ (⟨#[82]⟩ : ByteArray)) (wrap64 (a1 - 1)) a2 A4 _ J3.out).mono ?_); rintro e L2 ⟨H7, rfl, ho0, hb⟩; refine ⟨_, rfl, ?_⟩; have A2 := a_ (Kd.bu (Kd.dF (Kd.dF ho0 (Kd.dR (ra_ A1.out))) (Kd.dR (ra_ A3.out))) (af bO)); replace A1 := a_ (Kd.bB (ra_ A1.out) (Kd.bN ho0) hb); replace A3 := a_ (Kd.bB (ra_ A3.out) (Kd.bN ho0) hb); replace HB := df bO hb; (try clear hb); (try clear ho0); obtain ⟨D4, D5, H8⟩ := Kd.bg A2.out; subst H8) | ((with_reducible refine bF (b := .append) (xs := #[.tmp 37, .tmp 43]) rfl ?_); at_builtin; refine Kd.dO Kd.string (w0 := w) w.heap.size rfl (.tmp 37) (.tmp 43) 46 9 (.string ⟨#[]⟩) 16 rfl Tryz.underlying46 oG rfl (by decide) (by omega) E5 D0 A4 _ _ _ (fun k_ => nb_ k_ C4 A5.length C5 ∧ nb_ k_ D4 A4.length D5) (fun _ => False) rfl rfl ?aO ?aR (fun _ _ h => h) (fun _ h => h.elim) ?aF ?aB ?aS ?aL ?_; (case aR => repeat (first | exact (Kd.aH A2.out).2.2 | (with_reducible refine Kd.dH ?_ _) | (with_reducible refine Kd.dJ ?_ _) | (with_reducible refine Kd.dX ?_))); (case aB => exact bO); (case aF => exact (fun k_ hk => ⟨Kd.fe (Kd.dR (ra_ A1.out)) k_ hk, Kd.fe (Kd.dR (ra_ A2.out)) k_ hk⟩)); (case aO => exact (ra_ A3.out)); (case aS => exact (af bO)); (case aL => have := LMc24.out; omega); intro F8 L3 ho hb hg hat; rw [← E4.out] at ho; replace A1 := a_ (Kd.dn (ok := (fun k_ => nb_ k_ D4 A4.length D5)) (rc_ (h := by exact Kd.ae A1.out (fun _ hk => ⟨hk.2, hk.1.2⟩))) hg hat); replace A2 := a_ (Kd.dn (ok := (fun k_ => nb_ k_ C4 A5.length C5)) (rc_ (h := by exact Kd.ae A2.out (fun _ hk => ⟨hk.1.2, hk.2⟩))) hg hat); replace HB := a_ (hb); have A7 := a_ (ho); clear A3; clear ho hb hg hat) | ((with_reducible refine av (f := 91) rfl ?_); refine bI (some 53) rfl rfl Tryz.func91 (by kernel_rfl) rfl #[.string (a0 ++ (⟨#[84]⟩ : ByteArray)), .int .i64 a1, .int .i64 (wrap64 (a2 - 1))] rfl dL ?_; (with_reducible refine (ih D9 (by have := D7.out; have := F0.out; omega) (a0 ++ (⟨#[84]⟩ : ByteArray)) a1 (wrap64 (a2 - 1)) A6 _ K1.out).mono ?_); rintro e L4 ⟨K2, rfl, ho0, hb⟩; refine ⟨_, rfl, ?_⟩; have C1 := a_ (Kd.bu (Kd.dF (Kd.dF (Kd.dF ho0 (Kd.dR (ra_ A1.out))) (Kd.dR (ra_ A2.out))) (Kd.dR (ra_ A7.out))) (af bO)); replace A1 := a_ (Kd.bB (ra_ A1.out) (Kd.bN ho0) hb); replace A2 := a_ (Kd.bB (ra_ A2.out) (Kd.bN ho0) hb); replace A7 := a_ (Kd.bB (ra_ A7.out) (Kd.bN ho0) hb); replace HB := df bO hb; (try clear hb); (try clear ho0); obtain ⟨E6, E7, H9⟩ := Kd.bg C1.out; subst H9) | ((with_reducible refine bF (b := .append) (xs := #[.tmp 47, .tmp 53]) rfl ?_); at_builtin; refine Kd.dO Kd.string (w0 := w) w.heap.size rfl (.tmp 47) (.tmp 53) 46 9 (.string ⟨#[]⟩) 16 rfl Tryz.underlying46 oG rfl (by decide) (by omega) F8 B3 A6 _ _ _ (fun k_ => nb_ k_ C4 A5.length C5 ∧ nb_ k_ D4 A4.length D5 ∧ nb_ k_ E6 A6.length E7) (fun _ => False) rfl rfl ?aO ?aR (fun _ _ h => h) (fun _ h => h.elim) ?aF ?aB ?aS ?aL ?_; (case aR => repeat (first | exact (Kd.aH C1.out).2.2 | (with_reducible refine Kd.dH ?_ _) | (with_reducible refine Kd.dJ ?_ _) | (with_reducible refine Kd.dX ?_))); (case aB => exact bO); (case aF => exact (fun k_ hk => ⟨Kd.fe (Kd.dR (ra_ A1.out)) k_ hk, Kd.fe (Kd.dR (ra_ A2.out)) k_ hk, Kd.fe (Kd.dR (ra_ C1.out)) k_ hk⟩)); (case aO => exact (rc_ (h := by exact Kd.ae A7.out (fun _ hk => ⟨hk.1.1, ⟨hk.1.2, hk.2⟩⟩)))); (case aS => exact (af bO)); (case aL => have := LMc27.out; omega); intro K3 L5 ho hb hg hat; rw [← F7.out] at ho; replace A1 := a_ (Kd.dn (ok := (fun k_ => nb_ k_ D4 A4.length D5 ∧ nb_ k_ E6 A6.length E7)) (rc_ (h := by exact Kd.ae A1.out (fun _ hk => ⟨⟨hk.1.1, hk.2⟩, hk.1.2⟩))) hg hat); replace A2 := a_ (Kd.dn (ok := (fun k_ => nb_ k_ C4 A5.length C5 ∧ nb_ k_ E6 A6.length E7)) (rc_ (h := by exact Kd.ae A2.out (fun _ hk => ⟨⟨hk.1.1, hk.2⟩, hk.1.2⟩))) hg hat); replace C1 := a_ (Kd.dn (ok := (fun k_ => nb_ k_ C4 A5.length C5 ∧ nb_ k_ D4 A4.length D5)) (rc_ (h := by exact Kd.ae C1.out (fun _ hk => ⟨⟨hk.1.1.2, hk.1.2⟩, hk.2⟩))) hg hat); replace HB := a_ (hb); have F9 := a_ (ho); clear A7; clear ho hb hg hat))
        go_ret
        exact ⟨_, fO, by (with_reducible repeat (first | apply Kd.aC | apply Kd.aD | apply Kd.az)); exact Kd.ae F9.out (fun _ hk => trivial), bO⟩
       rw [if_neg c25] at H
       have F6 := decide_eq_false c25
       clear c25
       obtain rfl := Option.some.inj H
       go_wp2_with (first | ((with_reducible refine av (f := 91) rfl ?_); refine bI (some 35) rfl rfl Tryz.func91 (by kernel_rfl) rfl #[.string (a0 ++ (⟨#[76]⟩ : ByteArray)), .int .i64 (wrap64 (a1 - 1)), .int .i64 a2] rfl dL ?_; (with_reducible refine (ih D9 (by have := D7.out; have := F0.out; omega) (a0 ++ (⟨#[76]⟩ : ByteArray)) (wrap64 (a1 - 1)) a2 A5 _ J2.out).mono ?_); rintro e L6 ⟨H5, rfl, ho0, hb⟩; refine ⟨_, rfl, ?_⟩; have A1 := a_ (Kd.bu (Kd.dF ho0 (Kd.dR (ra_ HO_7.out))) (af bO)); replace HO_7 := a_ (Kd.bB (ra_ HO_7.out) (Kd.bN ho0) hb); replace HB := df bO hb; (try clear hb); (try clear ho0); obtain ⟨E8, E9, I0⟩ := Kd.bg A1.out; subst I0) | ((with_reducible refine bF (b := .append) (xs := #[.tmp 29, .tmp 35]) rfl ?_); at_builtin; refine Kd.dO Kd.string (w0 := w) w.heap.size rfl (.tmp 29) (.tmp 35) 46 9 (.string ⟨#[]⟩) 16 rfl Tryz.underlying46 oG rfl (by decide) (by omega) u7 B4 A5 _ _ _ (fun k_ => nb_ k_ E8 A5.length E9) (fun _ => False) rfl rfl ?aO ?aR (fun _ _ h => h) (fun _ h => h.elim) ?aF ?aB ?aS ?aL ?_; (case aR => repeat (first | exact (Kd.aH A1.out).2.2 | (with_reducible refine Kd.dH ?_ _) | (with_reducible refine Kd.dJ ?_ _) | (with_reducible refine Kd.dX ?_))); (case aB => exact bO); (case aF => exact (fun k_ hk => Kd.fe (Kd.dR (ra_ A1.out)) k_ hk)); (case aO => exact (rc_ (h := by exact Kd.ae HO_7.out (fun _ hk => hk.2)))); (case aS => exact (af bO)); (case aL => have := LMc22.out; omega); intro E5 L7 ho hb hg hat; rw [← E3.out] at ho; replace A1 := a_ (Kd.dn (ok := (fun _ => True)) (ra_ A1.out) hg hat); replace HB := a_ (hb); have A3 := a_ (ho); clear HO_7; clear ho hb hg hat) | ((with_reducible refine av (f := 91) rfl ?_); refine bI (some 43) rfl rfl Tryz.func91 (by kernel_rfl) rfl #[.string (a0 ++ (⟨#[82]⟩ : ByteArray)), .int .i64 (wrap64 (a1 - 1)), .int .i64 a2] rfl dL ?_; (with_reducible refine (ih D9 (by have := D7.out; have := F0.out; omega) (a0 ++ (⟨#[82]⟩ : ByteArray)) (wrap64 (a1 - 1)) a2 A4 _ J3.out).mono ?_); rintro e L8 ⟨H7, rfl, ho0, hb⟩; refine ⟨_, rfl, ?_⟩; have A2 := a_ (Kd.bu (Kd.dF (Kd.dF ho0 (Kd.dR (ra_ A1.out))) (Kd.dR (ra_ A3.out))) (af bO)); replace A1 := a_ (Kd.bB (ra_ A1.out) (Kd.bN ho0) hb); replace A3 := a_ (Kd.bB (ra_ A3.out) (Kd.bN ho0) hb); replace HB := df bO hb; (try clear hb); (try clear ho0); obtain ⟨G0, G1, I1⟩ := Kd.bg A2.out; subst I1) | ((with_reducible refine bF (b := .append) (xs := #[.tmp 37, .tmp 43]) rfl ?_); at_builtin; refine Kd.dO Kd.string (w0 := w) w.heap.size rfl (.tmp 37) (.tmp 43) 46 9 (.string ⟨#[]⟩) 16 rfl Tryz.underlying46 oG rfl (by decide) (by omega) E5 D0 A4 _ _ _ (fun k_ => nb_ k_ E8 A5.length E9 ∧ nb_ k_ G0 A4.length G1) (fun _ => False) rfl rfl ?aO ?aR (fun _ _ h => h) (fun _ h => h.elim) ?aF ?aB ?aS ?aL ?_; (case aR => repeat (first | exact (Kd.aH A2.out).2.2 | (with_reducible refine Kd.dH ?_ _) | (with_reducible refine Kd.dJ ?_ _) | (with_reducible refine Kd.dX ?_))); (case aB => exact bO); (case aF => exact (fun k_ hk => ⟨Kd.fe (Kd.dR (ra_ A1.out)) k_ hk, Kd.fe (Kd.dR (ra_ A2.out)) k_ hk⟩)); (case aO => exact (ra_ A3.out)); (case aS => exact (af bO)); (case aL => have := LMc24.out; omega); intro F8 L9 ho hb hg hat; rw [← E4.out] at ho; replace A1 := a_ (Kd.dn (ok := (fun k_ => nb_ k_ G0 A4.length G1)) (rc_ (h := by exact Kd.ae A1.out (fun _ hk => ⟨hk.2, hk.1.2⟩))) hg hat); replace A2 := a_ (Kd.dn (ok := (fun k_ => nb_ k_ E8 A5.length E9)) (rc_ (h := by exact Kd.ae A2.out (fun _ hk => ⟨hk.1.2, hk.2⟩))) hg hat); replace HB := a_ (hb); have A7 := a_ (ho); clear A3; clear ho hb hg hat))
       go_ret
       exact ⟨_, fO, by (with_reducible repeat (first | apply Kd.aC | apply Kd.aD | apply Kd.az)); exact Kd.ae A7.out (fun _ hk => trivial), bO⟩
      rw [if_neg c19] at H
      have F5 := decide_eq_false c19
      clear c19
      by_cases c43 : a2 > 0
      ·rw [if_pos c43] at H
       have G2 := decide_eq_true c43
       clear c43
       replace H := ig_ H; obtain ⟨c44, H⟩ := H
       have J4 := eq_true c44
       have J5 := decide_eq_true c44
       try have J6 : (9223372036854775807 < a0.size + 1) = False := eq_false (Nat.not_lt.2 c44)
       (try (have c44s := c44; simp only [ByteArray.size_append, ByteArray.size_extract] at c44s; have c44s0 := eq_true c44s; have c44s1 := decide_eq_true c44s; have c44s2 := eq_false (Nat.not_lt.2 c44s)))
       replace H := bo_ H; obtain ⟨E0, K4, H⟩ := H; (try dsimp only at H)
       replace H := ig_ H; obtain ⟨c46, H⟩ := H
       have LMc46 := a_ c46
       clear c46
       obtain ⟨I2, D6⟩ : ∃ y_ : List ByteArray, y_ = (B4 ++ E0) := ⟨_, rfl⟩
       replace H : (some I2) = some r := rh_ D6 H
       have G3 := a_ D6
       clear D6
       obtain rfl := Option.some.inj H
       go_wp2_with (first | ((with_reducible refine av (f := 91) rfl ?_); refine bI (some 53) rfl rfl Tryz.func91 (by kernel_rfl) rfl #[.string (a0 ++ (⟨#[84]⟩ : ByteArray)), .int .i64 a1, .int .i64 (wrap64 (a2 - 1))] rfl dL ?_; (with_reducible refine (ih D9 (by have := D7.out; have := F0.out; omega) (a0 ++ (⟨#[84]⟩ : ByteArray)) a1 (wrap64 (a2 - 1)) E0 _ K4.out).mono ?_); rintro e M0 ⟨K5, rfl, ho0, hb⟩; refine ⟨_, rfl, ?_⟩; have C2 := a_ (Kd.bu (Kd.dF ho0 (Kd.dR (ra_ HO_7.out))) (af bO)); replace HO_7 := a_ (Kd.bB (ra_ HO_7.out) (Kd.bN ho0) hb); replace HB := df bO hb; (try clear hb); (try clear ho0); obtain ⟨I3, I4, I5⟩ := Kd.bg C2.out; subst I5) | ((with_reducible refine bF (b := .append) (xs := #[.tmp 47, .tmp 53]) rfl ?_); at_builtin; refine Kd.dO Kd.string (w0 := w) w.heap.size rfl (.tmp 47) (.tmp 53) 46 9 (.string ⟨#[]⟩) 16 rfl Tryz.underlying46 oG rfl (by decide) (by omega) u7 B4 E0 _ _ _ (fun k_ => nb_ k_ I3 E0.length I4) (fun _ => False) rfl rfl ?aO ?aR (fun _ _ h => h) (fun _ h => h.elim) ?aF ?aB ?aS ?aL ?_; (case aR => repeat (first | exact (Kd.aH C2.out).2.2 | (with_reducible refine Kd.dH ?_ _) | (with_reducible refine Kd.dJ ?_ _) | (with_reducible refine Kd.dX ?_))); (case aB => exact bO); (case aF => exact (fun k_ hk => Kd.fe (Kd.dR (ra_ C2.out)) k_ hk)); (case aO => exact (rc_ (h := by exact Kd.ae HO_7.out (fun _ hk => hk.2)))); (case aS => exact (af bO)); (case aL => have := LMc46.out; omega); intro K6 M1 ho hb hg hat; rw [← G3.out] at ho; replace C2 := a_ (Kd.dn (ok := (fun _ => True)) (ra_ C2.out) hg hat); replace HB := a_ (hb); have G4 := a_ (ho); clear HO_7; clear ho hb hg hat))
       go_ret
       exact ⟨_, fO, by (with_reducible repeat (first | apply Kd.aC | apply Kd.aD | apply Kd.az)); exact Kd.ae G4.out (fun _ hk => trivial), bO⟩
      rw [if_neg c43] at H
      have G2 := decide_eq_false c43
      clear c43
      obtain rfl := Option.some.inj H
      go_wp2
      go_ret
      exact ⟨_, fO, xn, bO⟩
def eP.f (k : Nat) (a0 : Int) (a1 : Int) : Option (List ByteArray) := (bq.f a0).bind fun bt591 => ((bq.f a1).bind fun bt593 => ((ay.f k (⟨#[]⟩ : ByteArray) bt591.1 bt593.1).bind fun t595 => (some t595)))
theorem eP.mono : ∀ a0 a1 k, LeO (eP.f k a0 a1) (eP.f (k + 1) a0 a1) := by
 intro a0 a1 k
 unfold eP.f
 repeat' first | (with_reducible first | exact ay.mono .. | exact LeO.refl .. | exact LeO.none .. | refine LeO.ite ?_ ?_ | refine LeO.bind ?_ (fun _ => ?_))
theorem eP.calls (k : Nat) (a0 : Int) (a1 : Int) (r : List ByteArray) (w : World) (h : eP.f k a0 a1 = some r) :
  Calls Tryz.prog 71 #[.int .i64 a0, .int .i64 a1] w fun e w' => ∃ v0_ : Value, e = .returned (v0_) ∧ Kd.R Kd.string 9 w' w.heap.size (fun _ => True) v0_ r ∧ Below w.heap.size w w' := by
 have HB := a_ (Below.refl w.heap.size w)
 have H : ((bq.f a0).bind fun A7 => ((bq.f a1).bind fun A8 => ((ay.f k (⟨#[]⟩ : ByteArray) A7.1 A8.1).bind fun A1 => (some A1)))) = some r := h
 clear h
 replace H := bo_ H; obtain ⟨⟨A2, B0⟩, A3, H⟩ := H; (try dsimp only at H)
 replace H := bo_ H; obtain ⟨⟨A6, B3⟩, A4, H⟩ := H; (try dsimp only at H)
 replace H := bo_ H; obtain ⟨A1, A5, H⟩ := H; (try dsimp only at H)
 obtain rfl := Option.some.inj H
 go_enter Tryz.func71, Tryz.ntmps71
 go_wp2_with (first | ((with_reducible refine av (f := 80) rfl ?_); refine bI (some 11) rfl rfl Tryz.func80 (by kernel_rfl) rfl #[.int .i64 a0] rfl dL ?_; (with_reducible refine (bq.calls a0 A2 B0 _ A3.out).mono ?_); rintro e w' ⟨rfl, ⟨nd, rfl⟩⟩; refine ⟨_, rfl, ?_⟩) | ((with_reducible refine av (f := 80) rfl ?_); refine bI (some 16) rfl rfl Tryz.func80 (by kernel_rfl) rfl #[.int .i64 a1] rfl dL ?_; (with_reducible refine (bq.calls a1 A6 B3 _ A4.out).mono ?_); rintro e w' ⟨rfl, ⟨nd, rfl⟩⟩; refine ⟨_, rfl, ?_⟩) | ((with_reducible refine av (f := 91) rfl ?_); refine bI (some 21) rfl rfl Tryz.func91 (by kernel_rfl) rfl #[.string (⟨#[]⟩ : ByteArray), .int .i64 A2, .int .i64 A6] rfl dL ?_; (with_reducible refine (ay.calls k (⟨#[]⟩ : ByteArray) A2 A6 A1 _ A5.out).mono ?_); rintro e w6 ⟨B4, rfl, ho0, hb⟩; refine ⟨_, rfl, ?_⟩; have A9 := a_ (Kd.bu ho0 (af bO)); replace HB := df bO hb; (try clear hb); (try clear ho0)))
 go_ret
 exact ⟨_, fO, by (with_reducible repeat (first | apply Kd.aC | apply Kd.aD | apply Kd.az)); exact A9.out, bO⟩
def aX.j0 : Nat → ByteArray → Bool → List Int → Int → Int → Int → Int → List Int → List Int → List Int → Option (Int × Int × List Int × List Int × List Int × ByteArray)
 | 0, _, _, _, _, _, _, _, _, _, _ => none
 | k + 1, x6, x32, x603000, x603001, x603002, x618000, x618001, x618002, x618003, x618004 => if x32 = true then ((eP.f k x618000 x618001).bind fun t622 => ((aT.f x603000 x603001 x603002 (t622.length : Int)).bind fun bt625 => (if 0 ≤ bt625.1 then (if bt625.1 < (t622.length : Int) then (some (x618000, x618001, x618002, x618003, x618004, iJ ByteArray.empty t622 bt625.1)) else (none)) else (none)))) else (some (x618000, x618001, x618002, x618003, x618004, x6))
def aX.f (k : Nat) (l0 : List Int) : Option (Int × Int × List Int × List Int × List Int × ByteArray) := (bM.f k l0).bind fun bt599 => ((aK.f k bt599.1 bt599.2.1 bt599.2.2).bind fun bt603 => ((aT.f bt599.1 bt603.2.2.2.2.2.2.1 bt603.2.2.2.2.2.2.2 3).bind fun bt618 => (if bt618.1 = 0 then ((dE.f bt603.1 bt603.2.1).bind fun t621 => (if t621 = true then (aX.j0 k bt603.2.2.2.2.2.1 (decide ((wrap64 (bt603.1 * bt603.2.1)) ≤ 16)) bt599.1 bt618.2.1 bt618.2.2 bt603.1 bt603.2.1 bt603.2.2.1 bt603.2.2.2.1 bt603.2.2.2.2.1) else (aX.j0 k bt603.2.2.2.2.2.1 false bt599.1 bt618.2.1 bt618.2.2 bt603.1 bt603.2.1 bt603.2.2.1 bt603.2.2.2.1 bt603.2.2.2.2.1))) else (aX.j0 k bt603.2.2.2.2.2.1 false bt599.1 bt618.2.1 bt618.2.2 bt603.1 bt603.2.1 bt603.2.2.1 bt603.2.2.2.1 bt603.2.2.2.2.1))))
theorem aX.di : ∀ k, (∀ y0 y1 y2 y3 y4 y5 y6 y7 y8 y9, LeO (aX.j0 k y0 y1 y2 y3 y4 y5 y6 y7 y8 y9) (aX.j0 (k + 1) y0 y1 y2 y3 y4 y5 y6 y7 y8 y9))
 | 0 => fun _ _ _ _ _ _ _ _ _ _ r h => by simp [aX.j0] at h
 | k + 1 => by
  have ih0 := aX.di k
  ·intro y0 y1 y2 y3 y4 y5 y6 y7 y8 y9
   unfold aX.j0
   repeat' first | (with_reducible first | exact ih0 .. | exact bM.mono .. | exact eP.mono .. | exact aK.mono .. | exact LeO.refl .. | exact LeO.none .. | refine LeO.ite ?_ ?_ | refine LeO.bind ?_ (fun _ => ?_))
theorem aX.mono : ∀ a0 k, LeO (aX.f k a0) (aX.f (k + 1) a0) := by
 intro a0 k
 have ih0 := aX.di k
 unfold aX.f
 repeat' first | (with_reducible first | exact ih0 .. | exact bM.mono .. | exact eP.mono .. | exact aK.mono .. | exact LeO.refl .. | exact LeO.none .. | refine LeO.ite ?_ ?_ | refine LeO.bind ?_ (fun _ => ?_))
def aX.T5 : Bool × List (List Nat × List Nat) := (true, [([], []), ([], []), ([], []), ([], []), ([3], [3]), ([2, 4], [2, 4]), ([1, 5], [1, 5]), ([6], [6]), ([0, 5, 0], [0]), ([7, 8, 0, 1, 2, 3, 4, 5, 6, 7, 8], [7])])
def aX.B5 : List Nat := [0, 0, 0, 0, 8, 28, 62, 126, 61, 511]
theorem aX.Bo : ic .any (opsOf Tryz.f23 5) = aX.T5 := by kernel_rfl
theorem aX.yB : fZ aX.T5.2 aX.B5 = true := by kernel_rfl
theorem aX.calls (k : Nat) (A0 : Option Addr) (c0 : Nat) (l0 : List Int) (r1 : Int) (r2 : Int) (r3 : List Int) (r4 : List Int) (r5 : List Int) (r6 : ByteArray) (w : World) (hr0 : Kd.C (Kd.int .u8) w A0 l0.length l0) (hc0 : l0.length ≤ c0) (h : aX.f k l0 = some (r1, r2, r3, r4, r5, r6)) :
  Calls Tryz.prog 23 #[.slice A0 l0.length c0] w fun e w' => ∃ v2_ v3_ v4_ : Value, e = .returned (.tuple #[.agg #[.int .i64 r1, .int .i64 r2, v2_, v3_, v4_], .string r6]) ∧ Kd.R (Kd.int .i64) 2 w' w.heap.size (fun k_ => some k_ ≠ (v3_ : Value).ownBlock ∧ some k_ ≠ (v4_ : Value).ownBlock) v2_ r3 ∧ Kd.R (Kd.int .i64) 2 w' w.heap.size (fun k_ => some k_ ≠ (v2_ : Value).ownBlock ∧ some k_ ≠ (v4_ : Value).ownBlock) v3_ r4 ∧ Kd.R (Kd.int .i64) 2 w' w.heap.size (fun k_ => some k_ ≠ (v2_ : Value).ownBlock ∧ some k_ ≠ (v3_ : Value).ownBlock) v4_ r5 ∧ Below w.heap.size w w' := by
 have hu28 := Tryz.underlying28
 have HR0 := a_ hr0
 have N9 := a_ hc0
 clear hr0 hc0
 have HB := a_ (Below.refl w.heap.size w)
 have H : ((bM.f k l0).bind fun D2 => ((aK.f k D2.1 D2.2.1 D2.2.2).bind fun A6 => ((aT.f D2.1 A6.2.2.2.2.2.2.1 A6.2.2.2.2.2.2.2 3).bind fun D3 => (if D3.1 = 0 then ((dE.f A6.1 A6.2.1).bind fun G0 => (if G0 = true then (aX.j0 k A6.2.2.2.2.2.1 (decide ((wrap64 (A6.1 * A6.2.1)) ≤ 16)) D2.1 D3.2.1 D3.2.2 A6.1 A6.2.1 A6.2.2.1 A6.2.2.2.1 A6.2.2.2.2.1) else (aX.j0 k A6.2.2.2.2.2.1 false D2.1 D3.2.1 D3.2.2 A6.1 A6.2.1 A6.2.2.1 A6.2.2.2.1 A6.2.2.2.2.1))) else (aX.j0 k A6.2.2.2.2.2.1 false D2.1 D3.2.1 D3.2.2 A6.1 A6.2.1 A6.2.2.1 A6.2.2.2.1 A6.2.2.2.2.1))))) = some (r1, r2, r3, r4, r5, r6) := h
 clear h
 replace H := bo_ H; obtain ⟨⟨B7, G4, G5⟩, A2, H⟩ := H; (try dsimp only at H)
 replace H := bo_ H; obtain ⟨⟨C2, C3, C7, C8, C9, E8, D0, D1⟩, A3, H⟩ := H; (try dsimp only at H)
 have M5 := a_ H
 clear H
 go_enter Tryz.func23, Tryz.ntmps23
 go_upto_region 3 with (first | ((with_reducible refine bf (N := 2) rfl ?_); refine cz ?hg (N := 2) ?hd (cs := #[.int .i64 0, .int .i64 0, .slice none 0 0, .slice none 0 0, .slice none 0 0]) (t := 28) ?hr ?_; (case hd => rfl); (case hg => rfl); (case hr => first | (go_simp; done) | (go_simp; rfl)); intro A4 hg w5 hbox hb; have BK598 := a_ (hbox); have N3 := a_ ((fG : w.heap.size ≤ A4)); have GE598 := a_ ((fG : w.heap.size ≤ A4)); replace HB := df bO hb; clear hb hbox hg) | ((with_reducible refine av (f := 42) rfl ?_); refine bI (some 9) rfl rfl Tryz.func42 (by kernel_rfl) rfl #[.slice A0 l0.length c0] rfl dL ?_; (with_reducible refine (bM.calls k _ _ l0 B7 G4 G5 w _ ?side1 ?side2 ?side3 A2.out).mono ?_); (case side1 => exact (by (repeat (first | (with_reducible first | exact HB.out | apply aW | apply aN | apply aU | refine bi ?_ GE598.out) | exact HB.out)); first | done | fail)); (case side2 => exact HR0.out); (case side3 => exact N9.out); rintro e w6 ⟨g602, rfl, hi, hb, hb2⟩; refine ⟨_, rfl, ?_⟩; replace HB := a_ (hb); have HI602 := a_ (hi); have NB602_598 := a_ (aj.pF hi (dS (g := A4) (rb_ BK598.out) hb2) (by decide)); have C1 := a_ (Ne.symm (aj.pF hi (dS (g := A4) (rb_ BK598.out) hb2) (by decide))); replace BK598 := a_ (dS (g := A4) (rb_ BK598.out) hb2); (try clear hb); (try clear hb2); (try clear hi)) | ((with_reducible refine av (f := 51) rfl ?_); refine bI (some 12) rfl rfl Tryz.func51 (by kernel_rfl) rfl #[.pointer (some ⟨g602, 0, none⟩)] rfl dL ?_; (with_reducible refine (aK.calls k g602 B7 G4 G5 C2 C3 C7 C8 C9 E8 D0 D1 w _ ?side1 ?side2 A3.out).mono ?_); (case side1 => exact zY); (case side2 => exact wM); rintro e w7 ⟨O0, O1, O2, rfl, ho0, ho1, ho2, hi, hb, hk⟩; refine ⟨_, rfl, ?_⟩; replace BK598 := a_ (ax.blk hk (g' := A4) (rb_ BK598.out) C1.out (by simp)); have C4 := a_ (Kd.bu ho0 (af wM)); have C5 := a_ (Kd.bu ho1 (af wM)); have C6 := a_ (Kd.bu ho2 (af wM)); replace HB := a_ (hb); replace HI602 := a_ (hi); (try clear hb); (try clear hk); (try clear hi); (try clear ho0); (try clear ho1); (try clear ho2)) | ((with_reducible refine bf (N := 5) rfl ?_); refine cz ?hg (N := 5) ?hd (cs := #[.int .i64 0, .int .i64 0, .slice none 0 0, .slice none 0 0, .slice none 0 0]) (t := 28) ?hr ?_; (case hd => rfl); (case hg => rfl); (case hr => first | (go_simp; done) | (go_simp; rfl)); intro C0 hg w8 hbox hb; replace C4 := rl_ C4 hb; replace C5 := rl_ C5 hb; replace C6 := rl_ C6 hb; have BK617 := a_ (hbox); have N4 := a_ ((by rw [hg]; exact (af wM) : w.heap.size ≤ C0)); have GE617 := a_ ((by rw [hg]; exact (af wM) : w.heap.size ≤ C0)); replace HB := df wM hb; have A5 := a_ ((by rw [hg]; exact Nat.ne_of_lt (fF (g := A4) (rb_ BK598.out)) : A4 ≠ C0)); have A1 := a_ ((by rw [hg]; exact Nat.ne_of_gt (fF (g := A4) (rb_ BK598.out)) : C0 ≠ A4)); replace BK598 := bb_ A4 BK598 hb; have NB602_617 := a_ ((by rw [hg]; exact Nat.ne_of_lt (aj.lt (show aj w _ g602 B7 D0 D1 from zY)) : g602 ≠ C0)); have A7 := a_ ((by rw [hg]; exact Nat.ne_of_gt (aj.lt (show aj w _ g602 B7 D0 D1 from zY)) : C0 ≠ g602)); replace HI602 := a_ (aj.below zY hb); clear hb hbox hg; have hnb9 := A1.out; have hnc9 := A5.out; have hnb10 := A7.out; have hnc10 := NB602_617.out; obtain ⟨F0, F1, F2, F3, F4, F5, F6, F7, F8, F9⟩ := eH (w := w8) BK617.out; obtain ⟨D4, D5, M6⟩ := Kd.bg C4.out; subst M6; obtain ⟨D6, D7, M7⟩ := Kd.bg C5.out; subst M7; obtain ⟨D8, D9, M8⟩ := Kd.bg C6.out; subst M8))
 (try simp only [Act.put, List.setIfInBounds_toArray, List.set_cons_zero, List.set_cons_succ])
 go_cut [32] (fun v32 wc => ∃ (kq : Nat) (E5 : Bool) (A8 : Int) (A9 : Int), v32 = .bool E5 ∧ ah (aX.j0 kq E8 E5 B7 A8 A9 C2 C3 C7 C8 C9 = some (r1, r2, r3, r4, r5, r6)) ∧ ah (kq ≤ k) ∧ ah (Kd.R (Kd.int .i64) 2 wc w.heap.size (fun k_ => nb_ k_ D6 C8.length D7 ∧ nb_ k_ D8 C9.length D9) (.slice D4 C7.length D5) C7) ∧ ah (Kd.R (Kd.int .i64) 2 wc w.heap.size (fun k_ => nb_ k_ D4 C7.length D5 ∧ nb_ k_ D8 C9.length D9) (.slice D6 C8.length D7) C8) ∧ ah (Kd.R (Kd.int .i64) 2 wc w.heap.size (fun k_ => nb_ k_ D4 C7.length D5 ∧ nb_ k_ D6 C8.length D7) (.slice D8 C9.length D9) C9) ∧ ah (wc.heap[A4]? = some (.cells #[.int .i64 0, .int .i64 0, (.slice none 0 0), (.slice none 0 0), (.slice none 0 0)] 28 (0, 0))) ∧ ah (wc.heap[C0]? = some (.cells #[.int .i64 C2, .int .i64 C3, (.slice D4 C7.length D5), (.slice D6 C8.length D7), (.slice D8 C9.length D9)] 28 (0, 0))) ∧ ah (aj w wc g602 B7 A8 A9) ∧ ah (Below w.heap.size w wc))
 case first =>
  have H := M5.out
  clear M5
  replace H := bo_ H; obtain ⟨⟨E1, E2, E3⟩, M9, H⟩ := H; (try dsimp only at H)
  by_cases c16 : E1 = 0
  ·rw [if_pos c16] at H
   have E4 : (E1 == 0) = true := beq_iff_eq.mpr c16
   have G6 : (E1 != 0) = false := bne_eq_false_iff_eq.mpr c16
   clear c16
   (first | rw [E4] | (simp only [eU, gX]; rw [E4]) | skip)
   replace H := bo_ H; obtain ⟨G0, N5, H⟩ := H; (try dsimp only at H)
   by_cases c18 : G0 = true
   ·subst c18
    have H1 : (aX.j0 k E8 (decide ((wrap64 (C2 * C3)) ≤ 16)) B7 E2 E3 C2 C3 C7 C8 C9) = some (r1, r2, r3, r4, r5, r6) := by rw [if_pos rfl] at H; exact H
    clear H
    have H := H1
    clear H1
    have H' := a_ H
    clear H
    go_wp2_with (first | ((with_reducible refine av (f := 52) rfl ?_); refine bI (some 16) rfl rfl Tryz.func52 (by kernel_rfl) rfl #[.pointer (some ⟨g602, 0, none⟩), .int .i64 3] rfl dL ?_; (with_reducible refine (aT.calls g602 B7 D0 D1 3 E1 E2 E3 w _ ?side1 ?side2 M9.out).mono ?_); (case side1 => exact z3_); (case side2 => exact z6_); rintro e O3 ⟨rfl, hi, hb, hk⟩; refine ⟨_, rfl, ?_⟩; replace BK598 := a_ (ax.blk hk (g' := A4) (o := .cells #[.int .i64 0, .int .i64 0, .slice none 0 0, .slice none 0 0, .slice none 0 0] 28 (0, 0)) (iI (h := by exact rR A5.out BK598.out)) C1.out (by simp)); replace C4 := a_ (Kd.ae (Kd.dC (aj.apart (show aj w _ g602 B7 D0 D1 from z3_) (rc_ (h := by exact Kd.ae (gB C4.out BK617.out) (fun _ h_ => h_.1))) (by decide)) hk (fun _ h => h.2)) (fun _ h => h.1)); replace C5 := a_ (Kd.ae (Kd.dC (aj.apart (show aj w _ g602 B7 D0 D1 from z3_) (rc_ (h := by exact Kd.ae (gB C5.out BK617.out) (fun _ h_ => h_.1))) (by decide)) hk (fun _ h => h.2)) (fun _ h => h.1)); replace C6 := a_ (Kd.ae (Kd.dC (aj.apart (show aj w _ g602 B7 D0 D1 from z3_) (rc_ (h := by exact Kd.ae (gB C6.out BK617.out) (fun _ h_ => h_.1))) (by decide)) hk (fun _ h => h.2)) (fun _ h => h.1)); replace BK617 := a_ (ax.blk hk (g' := C0) (o := .cells #[.int .i64 C2, .int .i64 C3, .slice D4 C7.length D5, .slice D6 C8.length D7, .slice D8 C9.length D9] 28 (0, 0)) (iI (h := by exact je BK617.out)) A7.out (by simp)); replace HB := a_ (hb); replace HI602 := a_ (hi); (try clear hb); (try clear hk); (try clear hi); have hnb20 := A1.out; have hnc20 := A5.out; have hnb21 := A7.out; have hnc21 := NB602_617.out; obtain ⟨G9, H0, H2, H3, H4, H5, H6, H7, H8, H9⟩ := eH (w := O3) BK617.out) | (go_at_call 66; (with_reducible refine (dE.calls C2 C3 true _ N5.out).mono ?_); rintro e w' ⟨rfl, ⟨nd, rfl⟩⟩))
    go_meet
    case rel => exact ⟨_, (decide ((wrap64 (C2 * C3)) ≤ 16)), (E2), (E3), bZ, H', ⟨jD⟩, ⟨by (with_reducible repeat (first | apply Kd.aC | apply Kd.aD | apply Kd.az)); exact C4.out⟩, ⟨by (with_reducible repeat (first | apply Kd.aC | apply Kd.aD | apply Kd.az)); exact C5.out⟩, ⟨by (with_reducible repeat (first | apply Kd.aC | apply Kd.aD | apply Kd.az)); exact C6.out⟩, ⟨BX⟩, ⟨BZ⟩, ⟨z3_⟩, ⟨z6_⟩⟩
   ·replace c18 := Bool.eq_false_iff.mpr c18
    subst c18
    have H1 : (aX.j0 k E8 false B7 E2 E3 C2 C3 C7 C8 C9) = some (r1, r2, r3, r4, r5, r6) := by rw [if_neg (show ¬ (false = true) by decide)] at H; exact H
    clear H
    have H := H1
    clear H1
    have H' := a_ H
    clear H
    go_wp2_with (first | ((with_reducible refine av (f := 52) rfl ?_); refine bI (some 16) rfl rfl Tryz.func52 (by kernel_rfl) rfl #[.pointer (some ⟨g602, 0, none⟩), .int .i64 3] rfl dL ?_; (with_reducible refine (aT.calls g602 B7 D0 D1 3 E1 E2 E3 w _ ?side1 ?side2 M9.out).mono ?_); (case side1 => exact z3_); (case side2 => exact z6_); rintro e O4 ⟨rfl, hi, hb, hk⟩; refine ⟨_, rfl, ?_⟩; replace BK598 := a_ (ax.blk hk (g' := A4) (o := .cells #[.int .i64 0, .int .i64 0, .slice none 0 0, .slice none 0 0, .slice none 0 0] 28 (0, 0)) (iI (h := by exact rR A5.out BK598.out)) C1.out (by simp)); replace C4 := a_ (Kd.ae (Kd.dC (aj.apart (show aj w _ g602 B7 D0 D1 from z3_) (rc_ (h := by exact Kd.ae (gB C4.out BK617.out) (fun _ h_ => h_.1))) (by decide)) hk (fun _ h => h.2)) (fun _ h => h.1)); replace C5 := a_ (Kd.ae (Kd.dC (aj.apart (show aj w _ g602 B7 D0 D1 from z3_) (rc_ (h := by exact Kd.ae (gB C5.out BK617.out) (fun _ h_ => h_.1))) (by decide)) hk (fun _ h => h.2)) (fun _ h => h.1)); replace C6 := a_ (Kd.ae (Kd.dC (aj.apart (show aj w _ g602 B7 D0 D1 from z3_) (rc_ (h := by exact Kd.ae (gB C6.out BK617.out) (fun _ h_ => h_.1))) (by decide)) hk (fun _ h => h.2)) (fun _ h => h.1)); replace BK617 := a_ (ax.blk hk (g' := C0) (o := .cells #[.int .i64 C2, .int .i64 C3, .slice D4 C7.length D5, .slice D6 C8.length D7, .slice D8 C9.length D9] 28 (0, 0)) (iI (h := by exact je BK617.out)) A7.out (by simp)); replace HB := a_ (hb); replace HI602 := a_ (hi); (try clear hb); (try clear hk); (try clear hi); have hnb24 := A1.out; have hnc24 := A5.out; have hnb25 := A7.out; have hnc25 := NB602_617.out; obtain ⟨I0, I1, I2, I3, I4, I5, I6, I7, I8, I9⟩ := eH (w := O4) BK617.out) | (go_at_call 66; (with_reducible refine (dE.calls C2 C3 false _ N5.out).mono ?_); rintro e w' ⟨rfl, ⟨nd, rfl⟩⟩))
    go_meet
    case rel => exact ⟨_, (false), (E2), (E3), bZ, H', ⟨jD⟩, ⟨by (with_reducible repeat (first | apply Kd.aC | apply Kd.aD | apply Kd.az)); exact C4.out⟩, ⟨by (with_reducible repeat (first | apply Kd.aC | apply Kd.aD | apply Kd.az)); exact C5.out⟩, ⟨by (with_reducible repeat (first | apply Kd.aC | apply Kd.aD | apply Kd.az)); exact C6.out⟩, ⟨BX⟩, ⟨BZ⟩, ⟨z3_⟩, ⟨z6_⟩⟩
  rw [if_neg c16] at H
  have E4 : (E1 == 0) = false := beq_eq_false_iff_ne.mpr c16
  have G6 : (E1 != 0) = true := bne_iff_ne.mpr c16
  (first | rw [E4] | (simp only [eU, gX]; rw [E4]) | skip)
  have H' := a_ H
  clear H
  go_wp2_with (first | ((with_reducible refine av (f := 52) rfl ?_); refine bI (some 16) rfl rfl Tryz.func52 (by kernel_rfl) rfl #[.pointer (some ⟨g602, 0, none⟩), .int .i64 3] rfl dL ?_; (with_reducible refine (aT.calls g602 B7 D0 D1 3 E1 E2 E3 w _ ?side1 ?side2 M9.out).mono ?_); (case side1 => exact z3_); (case side2 => exact z6_); rintro e P6 ⟨rfl, hi, hb, hk⟩; refine ⟨_, rfl, ?_⟩; replace BK598 := a_ (ax.blk hk (g' := A4) (o := .cells #[.int .i64 0, .int .i64 0, .slice none 0 0, .slice none 0 0, .slice none 0 0] 28 (0, 0)) (iI (h := by exact rR A5.out BK598.out)) C1.out (by simp)); replace C4 := a_ (Kd.ae (Kd.dC (aj.apart (show aj w _ g602 B7 D0 D1 from z3_) (rc_ (h := by exact Kd.ae (gB C4.out BK617.out) (fun _ h_ => h_.1))) (by decide)) hk (fun _ h => h.2)) (fun _ h => h.1)); replace C5 := a_ (Kd.ae (Kd.dC (aj.apart (show aj w _ g602 B7 D0 D1 from z3_) (rc_ (h := by exact Kd.ae (gB C5.out BK617.out) (fun _ h_ => h_.1))) (by decide)) hk (fun _ h => h.2)) (fun _ h => h.1)); replace C6 := a_ (Kd.ae (Kd.dC (aj.apart (show aj w _ g602 B7 D0 D1 from z3_) (rc_ (h := by exact Kd.ae (gB C6.out BK617.out) (fun _ h_ => h_.1))) (by decide)) hk (fun _ h => h.2)) (fun _ h => h.1)); replace BK617 := a_ (ax.blk hk (g' := C0) (o := .cells #[.int .i64 C2, .int .i64 C3, .slice D4 C7.length D5, .slice D6 C8.length D7, .slice D8 C9.length D9] 28 (0, 0)) (iI (h := by exact je BK617.out)) A7.out (by simp)); replace HB := a_ (hb); replace HI602 := a_ (hi); (try clear hb); (try clear hk); (try clear hi)))
  go_meet
  case rel => exact ⟨_, (false), (E2), (E3), bZ, H', ⟨jD⟩, ⟨by (with_reducible repeat (first | apply Kd.aC | apply Kd.aD | apply Kd.az)); exact C4.out⟩, ⟨by (with_reducible repeat (first | apply Kd.aC | apply Kd.aD | apply Kd.az)); exact C5.out⟩, ⟨by (with_reducible repeat (first | apply Kd.aC | apply Kd.aD | apply Kd.az)); exact C6.out⟩, ⟨BX⟩, ⟨BZ⟩, ⟨z3_⟩, ⟨z6_⟩⟩
 case rest =>
  clear M5; try clear F0 F1 F2 F3 F4; try clear F5 F6 F7 F8 F9
  obtain ⟨kq, E5, A8, A9, rfl, HA, P7, B0, B3, B4, BK598, BK617, HI602, HB⟩ := hcut
  cases kq with
  | zero => exact absurd HA.out (by simp [aX.j0])
  | succ N6 =>
   have H := HA.out
   clear HA
   simp only [aX.j0] at H
   by_cases c28 : E5 = true
   ·subst c28
    have H1 : ((eP.f N6 C2 C3).bind fun E0 => ((aT.f B7 A8 A9 (E0.length : Int)).bind fun E9 => (if 0 ≤ E9.1 then (if E9.1 < (E0.length : Int) then (some (C2, C3, C7, C8, C9, iJ ByteArray.empty E0 E9.1)) else (none)) else (none)))) = some (r1, r2, r3, r4, r5, r6) := by rw [if_pos rfl] at H; exact H
    clear H
    have H := H1
    clear H1
    replace H := bo_ H; obtain ⟨E0, O5, H⟩ := H; (try dsimp only at H)
    replace H := bo_ H; obtain ⟨⟨E7, N0, N1⟩, O6, H⟩ := H; (try dsimp only at H)
    replace H := ig_ H; obtain ⟨c31, H⟩ := H
    have N7 := decide_eq_true c31
    clear c31
    replace H := ig_ H; obtain ⟨c32, H⟩ := H
    have N8 := decide_eq_true c32
    clear c32
    simp only [Option.some.injEq, Prod.mk.injEq] at H
    obtain ⟨rfl, rfl, rfl, rfl, rfl, rfl⟩ := H
    have hnb33 := A1.out
    have hnc33 := A5.out
    have hnb34 := A7.out
    have hnc34 := NB602_617.out
    obtain ⟨J0, J1, J2, J3, J4, J5, J6, J7, J8, J9⟩ := eH (w := wc) BK617.out
    try go_wp2_with (first | ((with_reducible refine av (f := 71) rfl ?_); refine bI (some 37) rfl rfl Tryz.func71 (by kernel_rfl) rfl #[.int .i64 C2, .int .i64 C3] rfl dL ?_; (with_reducible refine (eP.calls N6 C2 C3 E0 _ O5.out).mono ?_); rintro e O7 ⟨O8, rfl, ho0, hb⟩; refine ⟨_, rfl, ?_⟩; replace B0 := rl_ B0 hb; replace B3 := rl_ B3 hb; replace B4 := rl_ B4 hb; have HO624 := a_ (Kd.bu ho0 (af z6_)); replace BK598 := bb_ A4 BK598 hb; replace BK617 := bb_ C0 BK617 hb; replace HB := df z6_ hb; replace HI602 := a_ (aj.below z3_ hb); (try clear hb); (try clear ho0)))
    replace B0 := a_ (Kd.az B0.out)
    replace B3 := a_ (Kd.az B3.out)
    replace B4 := a_ (Kd.az B4.out)
    replace HO624 := a_ (Kd.az HO624.out)
    replace BK598 := a_ (bU BK598.out)
    replace BK617 := a_ (bU BK617.out)
    replace HI602 := a_ (aj.drew HI602.out)
    replace HB := a_ (aU HB.out)
    obtain ⟨O9, P0, G1⟩ := Kd.bg HO624.out
    (first | subst G1 | (injection G1.symm with f1_ f2_ f3_; clear f2_ G1; subst f1_ f3_))
    have G2 : 0 ≤ (E7 : Int) := of_decide_eq_true aG
    have G3 : E7 < (E0.length : Int) := of_decide_eq_true aG
    obtain ⟨G7, N2, E6⟩ := Kd.jd (Kd.aH HO624.out).2.2 E7 G2 G3
    cases N2
    replace G2 := eq_true G2
    replace G3 := eq_true G3
    refine gQ (n := 10) (S := fun w' => w'.cell? ⟨C0, 0, none⟩ = some (.int .i64 C2) ∧ w'.cell? ⟨C0, 1, none⟩ = some (.int .i64 C3) ∧ w'.cell? ⟨C0, 2, none⟩ = some (.slice D4 C7.length D5) ∧ w'.cell? ⟨C0, 3, none⟩ = some (.slice D6 C8.length D7) ∧ w'.cell? ⟨C0, 4, none⟩ = some (.slice D8 C9.length D9) ∧ w'.cell? (G7.add (E7).toNat) = some (.string (iJ ByteArray.empty E0 E7))) (ds := []) #[false, false, false, false, false, false, false, false, false, false] (by kernel_rfl) rfl rfl ⟨(ai BK617.out 0).trans rfl, (ai BK617.out 1).trans rfl, (ai BK617.out 2).trans rfl, (ai BK617.out 3).trans rfl, (ai BK617.out 4).trans rfl, E6⟩ (fun hHeld => ?_); refine fI aX.Bo aX.yB (fun HT_ HW_ => ?_)
    generalize O7.drew = P8 at B0 B3 B4 HO624 BK598 BK617 HI602 HB E6 hHeld ⊢
    refine pv_ 1 (some 39) ?_
    refine pv_ 2 (some 40) ?_
    refine pv_ 3 (some 41) ?_
    refine pv_ 4 (some 42) ?_
    refine mK (i := 0) (N := some 38) hHeld ?_
    refine on_ (i := 5) (N := some 43) (fun K hK => ?_)
    refine jq Tryz.func52 (by kernel_rfl) rfl #[.pointer (some ⟨g602, 0, none⟩), .int .i64 (E0.length : Int)] (by rfl) rfl rfl dL ?_
    with_reducible refine (aT.calls g602 B7 A8 A9 (E0.length : Int) E7 N0 N1 w _ ?side1 ?side2 O6.out).mono ?_
    (case side1 => exact z3_)
    (case side2 => exact z6_)
    rintro e G8 ⟨rfl, hi, hb, hk⟩
    have HS5_ := lw hk (hHeld.2.2.2.2.2) (by first | (rw [add_block]; exact Kd.jO (aj.own_ne HI602.out HO624.out (by decide))) | (show (Addr.add _ _).block ≠ _; rw [add_block]; exact Kd.jO (aj.own_ne HI602.out HO624.out (by decide))) | exact Kd.jO (aj.own_ne HI602.out HO624.out (by decide)))
    refine ⟨_, rfl, ?_⟩
    replace B0 := a_ (Kd.ae (Kd.dC (aj.apart (show aj w _ g602 B7 A8 A9 from z3_) (ra_ B0.out) (by decide)) hk (fun _ h => h.2)) (fun _ h => h.1))
    replace B3 := a_ (Kd.ae (Kd.dC (aj.apart (show aj w _ g602 B7 A8 A9 from z3_) (ra_ B3.out) (by decide)) hk (fun _ h => h.2)) (fun _ h => h.1))
    replace B4 := a_ (Kd.ae (Kd.dC (aj.apart (show aj w _ g602 B7 A8 A9 from z3_) (ra_ B4.out) (by decide)) hk (fun _ h => h.2)) (fun _ h => h.1))
    replace BK598 := a_ (ax.blk hk (g' := A4) (rb_ BK598.out) C1.out (by simp))
    replace BK617 := a_ (ax.blk hk (g' := C0) (rb_ BK617.out) A7.out (by simp))
    replace HO624 := a_ (Kd.ae (Kd.dC (aj.apart (show aj w _ g602 B7 A8 A9 from z3_) (ra_ HO624.out) (by decide)) hk (fun _ h => h.2)) (fun _ h => h.1))
    replace HB := a_ (hb)
    replace HI602 := a_ (hi)
    (try clear hb)
    (try clear hb2)
    (try clear hk)
    (try clear hi)
    refine hK.out _ _ ⟨(ai BK617.out 0).trans rfl, (ai BK617.out 1).trans rfl, (ai BK617.out 2).trans rfl, (ai BK617.out 3).trans rfl, (ai BK617.out 4).trans rfl, HS5_⟩ (fun hHeld => ?_)
    clear hK K
    refine nm_ ?_
    refine pv_ 6 (some 44) ?_
    refine mK (i := 7) (N := some 45) hHeld ?_
    refine on_ (i := 8) (N := none) (fun K hK => ?_)
    have P1 : G8.cell? ⟨A4, 0, none⟩ = some (.int .i64 0) := (ai BK598.out 0).trans rfl
    have hfs40 := bG BK598.out 0
    have K0 := A1.out
    have hms40_1 := A5.out
    have P2 : G8.cell? ⟨A4, 1, none⟩ = some (.int .i64 0) := (ai BK598.out 1).trans rfl
    have hfs41 := bG BK598.out 1
    have K1 := A1.out
    have hms41_1 := A5.out
    have P3 : G8.cell? ⟨A4, 2, none⟩ = some (.slice none 0 0) := (ai BK598.out 2).trans rfl
    have hfs42 := bG BK598.out 2
    have K2 := A1.out
    have hms42_1 := A5.out
    have P4 : G8.cell? ⟨A4, 3, none⟩ = some (.slice none 0 0) := (ai BK598.out 3).trans rfl
    have hfs43 := bG BK598.out 3
    have K3 := A1.out
    have hms43_1 := A5.out
    have P5 : G8.cell? ⟨A4, 4, none⟩ = some (.slice none 0 0) := (ai BK598.out 4).trans rfl
    have hfs44 := bG BK598.out 4
    have K4 := A1.out
    have hms44_1 := A5.out
    refine tK (w1 := ?_) (by rfl) rfl ?_ ?_
    rotate_left
    ·go_simp
     rfl
    refine hK.out _ _ ⟨((cell_far (p := ⟨A4, _, none⟩) A1.out _).trans (((cell_far (p := ⟨A4, _, none⟩) A1.out _).trans (((cell_far (p := ⟨A4, _, none⟩) A1.out _).trans (((cell_far (p := ⟨A4, _, none⟩) A1.out _).trans (((cell_far (p := ⟨A4, _, none⟩) A1.out _).trans (hHeld.1)))))))))), ((cell_far (p := ⟨A4, _, none⟩) A1.out _).trans (((cell_far (p := ⟨A4, _, none⟩) A1.out _).trans (((cell_far (p := ⟨A4, _, none⟩) A1.out _).trans (((cell_far (p := ⟨A4, _, none⟩) A1.out _).trans (((cell_far (p := ⟨A4, _, none⟩) A1.out _).trans (hHeld.2.1)))))))))), ((cell_far (p := ⟨A4, _, none⟩) A1.out _).trans (((cell_far (p := ⟨A4, _, none⟩) A1.out _).trans (((cell_far (p := ⟨A4, _, none⟩) A1.out _).trans (((cell_far (p := ⟨A4, _, none⟩) A1.out _).trans (((cell_far (p := ⟨A4, _, none⟩) A1.out _).trans (hHeld.2.2.1)))))))))), ((cell_far (p := ⟨A4, _, none⟩) A1.out _).trans (((cell_far (p := ⟨A4, _, none⟩) A1.out _).trans (((cell_far (p := ⟨A4, _, none⟩) A1.out _).trans (((cell_far (p := ⟨A4, _, none⟩) A1.out _).trans (((cell_far (p := ⟨A4, _, none⟩) A1.out _).trans (hHeld.2.2.2.1)))))))))), ((cell_far (p := ⟨A4, _, none⟩) A1.out _).trans (((cell_far (p := ⟨A4, _, none⟩) A1.out _).trans (((cell_far (p := ⟨A4, _, none⟩) A1.out _).trans (((cell_far (p := ⟨A4, _, none⟩) A1.out _).trans (((cell_far (p := ⟨A4, _, none⟩) A1.out _).trans (hHeld.2.2.2.2.1)))))))))), ((cell_far (p := ⟨A4, _, none⟩) z1_ _).trans (((cell_far (p := ⟨A4, _, none⟩) z1_ _).trans (((cell_far (p := ⟨A4, _, none⟩) z1_ _).trans (((cell_far (p := ⟨A4, _, none⟩) z1_ _).trans (((cell_far (p := ⟨A4, _, none⟩) z1_ _).trans (hHeld.2.2.2.2.2))))))))))⟩ (fun hHeld => ?_)
    clear hK K
    refine pv_ 9 (some 3) ?_
    refine ja (gU HT_.out (by kernel_rfl)) ?_
    try go_wp2
    refine bodyPost_ret (jX rfl _ _ A4 28 #[.int .i64 C2, .int .i64 C3, .slice D4 C7.length D5, .slice D6 C8.length D7, .slice D8 C9.length D9] (0, 0) _ rfl (iI (h := by exact je BK598.out)) Tryz.underlying28 rfl (by kernel_rfl)) rfl ?_
    exact ⟨_, _, _, fO, by (with_reducible repeat (first | apply Kd.aC | apply Kd.aD | apply Kd.az)); exact Kd.ae (gB B0.out BK598.out) (fun _ hk => ⟨hk.1.1, hk.1.2⟩), by (with_reducible repeat (first | apply Kd.aC | apply Kd.aD | apply Kd.az)); exact Kd.ae (gB B3.out BK598.out) (fun _ hk => ⟨hk.1.1, hk.1.2⟩), by (with_reducible repeat (first | apply Kd.aC | apply Kd.aD | apply Kd.az)); exact Kd.ae (gB B4.out BK598.out) (fun _ hk => ⟨hk.1.1, hk.1.2⟩), z6_⟩
   ·replace c28 := Bool.eq_false_iff.mpr c28
    subst c28
    have H1 : (some (C2, C3, C7, C8, C9, E8)) = some (r1, r2, r3, r4, r5, r6) := by rw [if_neg (show ¬ (false = true) by decide)] at H; exact H
    clear H
    have H := H1
    clear H1
    simp only [Option.some.injEq, Prod.mk.injEq] at H
    obtain ⟨rfl, rfl, rfl, rfl, rfl, rfl⟩ := H
    have hnb45 := A1.out
    have hnc45 := A5.out
    have hnb46 := A7.out
    have hnc46 := NB602_617.out
    obtain ⟨K5, K6, K7, K8, K9, L0, L1, L2, L3, L4⟩ := eH (w := wc) BK617.out
    have hnb48 := C1.out
    have hnc48 := NB602_598.out
    obtain ⟨L5, L6, L7, L8, L9, M0, M1, M2, M3, M4⟩ := eH (w := wc) BK598.out
    go_wp2
    refine bodyPost_ret (jX rfl _ _ A4 28 #[.int .i64 C2, .int .i64 C3, .slice D4 C7.length D5, .slice D6 C8.length D7, .slice D8 C9.length D9] (0, 0) _ rfl (iI (h := by exact je BK598.out)) Tryz.underlying28 rfl (by kernel_rfl)) rfl ?_
    exact ⟨_, _, _, fO, by (with_reducible repeat (first | apply Kd.aC | apply Kd.aD | apply Kd.az)); exact Kd.ae (gB B0.out BK598.out) (fun _ hk => ⟨hk.1.1, hk.1.2⟩), by (with_reducible repeat (first | apply Kd.aC | apply Kd.aD | apply Kd.az)); exact Kd.ae (gB B3.out BK598.out) (fun _ hk => ⟨hk.1.1, hk.1.2⟩), by (with_reducible repeat (first | apply Kd.aC | apply Kd.aD | apply Kd.az)); exact Kd.ae (gB B4.out BK598.out) (fun _ hk => ⟨hk.1.1, hk.1.2⟩), z6_⟩
def fE.f (k : Nat) (a0_0 : Int) (a0_1 : Int) (l0_2 : List Int) (l0_3 : List Int) (l0_4 : List Int) (a1 : ByteArray) : Option (List Int × Int) := (eO.f k a0_0 a0_1 l0_2 l0_3 l0_4 a1).bind fun t630 => (if t630 = 0 then ((bn.f k a0_0 a0_1 l0_2 l0_3 l0_4 a1).bind fun t631 => (some (t631, 0))) else (some (([] : List Int), t630)))
theorem fE.mono : ∀ a0 a1 a2 a3 a4 a5 k, LeO (fE.f k a0 a1 a2 a3 a4 a5) (fE.f (k + 1) a0 a1 a2 a3 a4 a5) := by
 intro a0 a1 a2 a3 a4 a5 k
 unfold fE.f
 repeat' first | (with_reducible first | exact eO.mono .. | exact bn.mono .. | exact LeO.refl .. | exact LeO.none .. | refine LeO.ite ?_ ?_ | refine LeO.bind ?_ (fun _ => ?_))
theorem fE.calls (k : Nat) (a0_0 : Int) (a0_1 : Int) (A6 : Option Addr) (A7 : Nat) (l0_2 : List Int) (A8 : Option Addr) (A9 : Nat) (l0_3 : List Int) (B0 : Option Addr) (B3 : Nat) (l0_4 : List Int) (a1 : ByteArray) (r1 : List Int) (r2 : Int) (w : World) (hr0_2 : Kd.C (Kd.int .i64) w A6 l0_2.length l0_2) (hc0_2 : l0_2.length ≤ A7) (hr0_3 : Kd.C (Kd.int .i64) w A8 l0_3.length l0_3) (hc0_3 : l0_3.length ≤ A9) (hr0_4 : Kd.C (Kd.int .i64) w B0 l0_4.length l0_4) (hc0_4 : l0_4.length ≤ B3) (h : fE.f k a0_0 a0_1 l0_2 l0_3 l0_4 a1 = some (r1, r2)) :
  Calls Tryz.prog 24 #[.agg #[.int .i64 a0_0, .int .i64 a0_1, .slice A6 l0_2.length A7, .slice A8 l0_3.length A9, .slice B0 l0_4.length B3], .string a1] w fun e w' => ∃ v0_ : Value, e = .returned (.tuple #[v0_, .int .i64 r2]) ∧ Kd.R (Kd.int .i64) 2 w' w.heap.size (fun _ => True) v0_ r1 ∧ Below w.heap.size w w' := by
 have hu28 := Tryz.underlying28
 have B4 := a_ hr0_2
 have B7 := a_ hc0_2
 clear hr0_2 hc0_2
 have C0 := a_ hr0_3
 have C1 := a_ hc0_3
 clear hr0_3 hc0_3
 have HR0_4 := a_ hr0_4
 have C2 := a_ hc0_4
 clear hr0_4 hc0_4
 have HB := a_ (Below.refl w.heap.size w)
 have H : ((eO.f k a0_0 a0_1 l0_2 l0_3 l0_4 a1).bind fun A4 => (if A4 = 0 then ((bn.f k a0_0 a0_1 l0_2 l0_3 l0_4 a1).bind fun C3 => (some (C3, 0))) else (some (([] : List Int), A4)))) = some (r1, r2) := h
 clear h
 replace H := bo_ H; obtain ⟨A4, A3, H⟩ := H; (try dsimp only at H)
 by_cases c4 : A4 = 0
 ·rw [if_pos c4] at H
  have D6 : (A4 == 0) = true := beq_iff_eq.mpr c4
  have D7 : (A4 != 0) = false := bne_eq_false_iff_eq.mpr c4
  clear c4
  replace H := bo_ H; obtain ⟨C3, A5, H⟩ := H; (try dsimp only at H)
  simp only [Option.some.injEq, Prod.mk.injEq] at H
  obtain ⟨rfl, rfl⟩ := H
  go_enter Tryz.func24, Tryz.ntmps24
  go_wp2_with (first | ((with_reducible refine bf (N := 2) rfl ?_); refine cz ?hg (N := 2) ?hd (cs := #[.int .i64 a0_0, .int .i64 a0_1, .slice A6 l0_2.length A7, .slice A8 l0_3.length A9, .slice B0 l0_4.length B3]) (t := 28) ?hr ?_; (case hd => rfl); (case hg => rfl); (case hr => first | (go_simp; done) | (go_simp; rfl)); intro A2 hg w6 hbox hb; have A1 := a_ (hbox); have C4 := a_ ((fG : w.heap.size ≤ A2)); have GE629 := a_ ((fG : w.heap.size ≤ A2)); replace HB := df bO hb; clear hb hbox hg; obtain ⟨D8, D9, E0, E1, E2, E3, E4, E5, E6, E7⟩ := eH (w := w6) A1.out) | ((with_reducible refine av (f := 36) rfl ?_); refine bI (some 9) rfl rfl Tryz.func36 (by kernel_rfl) rfl #[.agg #[.int .i64 a0_0, .int .i64 a0_1, .slice A6 l0_2.length A7, .slice A8 l0_3.length A9, .slice B0 l0_4.length B3], .string a1] rfl dL ?_; (with_reducible refine (eO.calls k a0_0 a0_1 _ _ l0_2 _ _ l0_3 _ _ l0_4 a1 A4 _ ?side1 ?side2 ?side3 ?side4 ?side5 ?side6 A3.out).mono ?_); (case side1 => exact kc_ (Kd.bE B4.out HB.out)); (case side2 => exact B7.out); (case side3 => exact kc_ (Kd.bE C0.out HB.out)); (case side4 => exact C1.out); (case side5 => exact kc_ (Kd.bE HR0_4.out HB.out)); (case side6 => exact C2.out); rintro e w8 ⟨rfl, hb⟩; refine ⟨_, rfl, ?_⟩; replace A1 := bb_ A2 A1 hb; replace HB := df xW hb; (try clear hb); obtain ⟨E8, E9, F0, F1, F2, F3, F4, F5, F6, F7⟩ := eH (w := w8) A1.out) | ((with_reducible refine av (f := 72) rfl ?_); refine bI (some 15) rfl rfl Tryz.func72 (by kernel_rfl) rfl #[.agg #[.int .i64 a0_0, .int .i64 a0_1, .slice A6 l0_2.length A7, .slice A8 l0_3.length A9, .slice B0 l0_4.length B3], .string a1] rfl dL ?_; (with_reducible refine (bn.calls k a0_0 a0_1 _ _ l0_2 _ _ l0_3 _ _ l0_4 a1 C3 _ ?side1 ?side2 ?side3 ?side4 ?side5 ?side6 A5.out).mono ?_); (case side1 => exact kc_ (Kd.bE B4.out HB.out)); (case side2 => exact B7.out); (case side3 => exact kc_ (Kd.bE C0.out HB.out)); (case side4 => exact C1.out); (case side5 => exact kc_ (Kd.bE HR0_4.out HB.out)); (case side6 => exact C2.out); rintro e G0 ⟨F8, rfl, ho0, hb⟩; refine ⟨_, rfl, ?_⟩; have C5 := a_ (Kd.bu ho0 (af xW)); replace A1 := bb_ A2 A1 hb; replace HB := df xW hb; (try clear hb); (try clear ho0)))
  go_ret2
  exact ⟨_, fO, by (with_reducible repeat (first | apply Kd.aC | apply Kd.aD | apply Kd.az)); exact C5.out, xW⟩
 rw [if_neg c4] at H
 have D6 : (A4 == 0) = false := beq_eq_false_iff_ne.mpr c4
 have D7 : (A4 != 0) = true := bne_iff_ne.mpr c4
 simp only [Option.some.injEq, Prod.mk.injEq] at H
 obtain ⟨rfl, rfl⟩ := H
 go_enter Tryz.func24, Tryz.ntmps24
 go_wp2_with (first | ((with_reducible refine bf (N := 2) rfl ?_); refine cz ?hg (N := 2) ?hd (cs := #[.int .i64 a0_0, .int .i64 a0_1, .slice A6 l0_2.length A7, .slice A8 l0_3.length A9, .slice B0 l0_4.length B3]) (t := 28) ?hr ?_; (case hd => rfl); (case hg => rfl); (case hr => first | (go_simp; done) | (go_simp; rfl)); intro A2 hg F9 hbox hb; have A1 := a_ (hbox); have C4 := a_ ((fG : w.heap.size ≤ A2)); have GE629 := a_ ((fG : w.heap.size ≤ A2)); replace HB := df bO hb; clear hb hbox hg; obtain ⟨C6, C7, C8, C9, D0, D1, D2, D3, D4, D5⟩ := eH (w := F9) A1.out) | ((with_reducible refine av (f := 36) rfl ?_); refine bI (some 9) rfl rfl Tryz.func36 (by kernel_rfl) rfl #[.agg #[.int .i64 a0_0, .int .i64 a0_1, .slice A6 l0_2.length A7, .slice A8 l0_3.length A9, .slice B0 l0_4.length B3], .string a1] rfl dL ?_; (with_reducible refine (eO.calls k a0_0 a0_1 _ _ l0_2 _ _ l0_3 _ _ l0_4 a1 A4 _ ?side1 ?side2 ?side3 ?side4 ?side5 ?side6 A3.out).mono ?_); (case side1 => exact kc_ (Kd.bE B4.out HB.out)); (case side2 => exact B7.out); (case side3 => exact kc_ (Kd.bE C0.out HB.out)); (case side4 => exact C1.out); (case side5 => exact kc_ (Kd.bE HR0_4.out HB.out)); (case side6 => exact C2.out); rintro e G1 ⟨rfl, hb⟩; refine ⟨_, rfl, ?_⟩; replace A1 := bb_ A2 A1 hb; replace HB := df xW hb; (try clear hb)))
 go_ret2
 exact ⟨_, fO, xX, xW⟩
def dQ.f (k : Nat) (l0 : List Int) : Option (Int × Int × List Int × List Int × List Int) := (bM.f k l0).bind fun bt635 => ((aK.f k bt635.1 bt635.2.1 bt635.2.2).bind fun bt639 => (if (wrap64 (bt639.1 * bt639.2.1)) > 16 then ((some (([(⟨#[76, 84, 76]⟩ : ByteArray), (⟨#[76, 76, 84]⟩ : ByteArray), (⟨#[84, 76, 76]⟩ : ByteArray), (⟨#[82, 66, 82]⟩ : ByteArray)] : List ByteArray) : List ByteArray)).bind fun y654 => ((aT.f bt635.1 bt639.2.2.2.2.2.2.1 bt639.2.2.2.2.2.2.2 4).bind fun bt657 => (if 0 ≤ bt657.1 then (if bt657.1 < (y654.length : Int) then ((dG.f k 4 2 (iJ ByteArray.empty y654 bt657.1)).bind fun bt661 => (some (bt661.1, bt661.2.1, bt661.2.2.1, bt661.2.2.2.1, bt661.2.2.2.2.1))) else (none)) else (none)))) else (some (bt639.1, bt639.2.1, bt639.2.2.1, bt639.2.2.2.1, bt639.2.2.2.2.1))))
theorem dQ.mono : ∀ a0 k, LeO (dQ.f k a0) (dQ.f (k + 1) a0) := by
 intro a0 k
 unfold dQ.f
 repeat' first | (with_reducible first | exact dG.mono .. | exact bM.mono .. | exact aK.mono .. | exact LeO.refl .. | exact LeO.none .. | refine LeO.ite ?_ ?_ | refine LeO.bind ?_ (fun _ => ?_))
theorem dQ.calls (k : Nat) (A0 : Option Addr) (c0 : Nat) (l0 : List Int) (r1 : Int) (r2 : Int) (r3 : List Int) (r4 : List Int) (r5 : List Int) (w : World) (hr0 : Kd.C (Kd.int .u8) w A0 l0.length l0) (hc0 : l0.length ≤ c0) (h : dQ.f k l0 = some (r1, r2, r3, r4, r5)) :
  Calls Tryz.prog 25 #[.slice A0 l0.length c0] w fun e w' => ∃ v2_ v3_ v4_ : Value, e = .returned (.agg #[.int .i64 r1, .int .i64 r2, v2_, v3_, v4_]) ∧ Kd.R (Kd.int .i64) 2 w' w.heap.size (fun k_ => some k_ ≠ (v3_ : Value).ownBlock ∧ some k_ ≠ (v4_ : Value).ownBlock) v2_ r3 ∧ Kd.R (Kd.int .i64) 2 w' w.heap.size (fun k_ => some k_ ≠ (v2_ : Value).ownBlock ∧ some k_ ≠ (v4_ : Value).ownBlock) v3_ r4 ∧ Kd.R (Kd.int .i64) 2 w' w.heap.size (fun k_ => some k_ ≠ (v2_ : Value).ownBlock ∧ some k_ ≠ (v3_ : Value).ownBlock) v4_ r5 ∧ Below w.heap.size w w' := by
 have hu28 := Tryz.underlying28
 have HR0 := a_ hr0
 have O1 := a_ hc0
 clear hr0 hc0
 have HB := a_ (Below.refl w.heap.size w)
 have H : ((bM.f k l0).bind fun F2 => ((aK.f k F2.1 F2.2.1 F2.2.2).bind fun C3 => (if (wrap64 (C3.1 * C3.2.1)) > 16 then ((some (([(⟨#[76, 84, 76]⟩ : ByteArray), (⟨#[76, 76, 84]⟩ : ByteArray), (⟨#[84, 76, 76]⟩ : ByteArray), (⟨#[82, 66, 82]⟩ : ByteArray)] : List ByteArray) : List ByteArray)).bind fun D4 => ((aT.f F2.1 C3.2.2.2.2.2.2.1 C3.2.2.2.2.2.2.2 4).bind fun C9 => (if 0 ≤ C9.1 then (if C9.1 < (D4.length : Int) then ((dG.f k 4 2 (iJ ByteArray.empty D4 C9.1)).bind fun C0 => (some (C0.1, C0.2.1, C0.2.2.1, C0.2.2.2.1, C0.2.2.2.2.1))) else (none)) else (none)))) else (some (C3.1, C3.2.1, C3.2.2.1, C3.2.2.2.1, C3.2.2.2.2.1))))) = some (r1, r2, r3, r4, r5) := h
 clear h
 replace H := bo_ H; obtain ⟨⟨C2, F5, F6⟩, A2, H⟩ := H; (try dsimp only at H)
 replace H := bo_ H; obtain ⟨⟨C7, C8, D0, D1, D2, G3, C4, C5⟩, A3, H⟩ := H; (try dsimp only at H)
 by_cases c4 : (wrap64 (C7 * C8)) > 16
 ·rw [if_pos c4] at H
  have M3 := decide_eq_true c4
  clear c4
  obtain ⟨D4, F4⟩ : ∃ y_ : List ByteArray, y_ = (([(⟨#[76, 84, 76]⟩ : ByteArray), (⟨#[76, 76, 84]⟩ : ByteArray), (⟨#[84, 76, 76]⟩ : ByteArray), (⟨#[82, 66, 82]⟩ : ByteArray)] : List ByteArray)) := ⟨_, rfl⟩
  replace H : ((aT.f C2 C4 C5 4).bind fun C9 => (if 0 ≤ C9.1 then (if C9.1 < (D4.length : Int) then ((dG.f k 4 2 (iJ ByteArray.empty D4 C9.1)).bind fun C0 => (some (C0.1, C0.2.1, C0.2.2.1, C0.2.2.2.1, C0.2.2.2.2.1))) else (none)) else (none))) = some (r1, r2, r3, r4, r5) := rh_ F4 H
  have F7 := a_ F4
  clear F4
  replace H := bo_ H; obtain ⟨⟨F3, M4, M5⟩, A5, H⟩ := H; (try dsimp only at H)
  replace H := ig_ H; obtain ⟨c6, H⟩ := H
  have O6 := decide_eq_true c6
  clear c6
  replace H := ig_ H; obtain ⟨c7, H⟩ := H
  have O7 := decide_eq_true c7
  clear c7
  replace H := bo_ H; obtain ⟨⟨D5, D6, D7, D8, D9, M6⟩, A8, H⟩ := H; (try dsimp only at H)
  simp only [Option.some.injEq, Prod.mk.injEq] at H
  obtain ⟨rfl, rfl, rfl, rfl, rfl⟩ := H
  go_enter Tryz.func25, Tryz.ntmps25
  go_wp2_with (first | ((with_reducible refine bf (N := 2) rfl ?_); refine cz ?hg (N := 2) ?hd (cs := #[.int .i64 0, .int .i64 0, .slice none 0 0, .slice none 0 0, .slice none 0 0]) (t := 28) ?hr ?_; (case hd => rfl); (case hg => rfl); (case hr => first | (go_simp; done) | (go_simp; rfl)); intro A1 hg w9 hbox hb; have A6 := a_ (hbox); have G4 := a_ ((fG : w.heap.size ≤ A1)); have GE634 := a_ ((fG : w.heap.size ≤ A1)); replace HB := df bO hb; clear hb hbox hg) | ((with_reducible refine av (f := 42) rfl ?_); refine bI (some 7) rfl rfl Tryz.func42 (by kernel_rfl) rfl #[.slice A0 l0.length c0] rfl dL ?_; (with_reducible refine (bM.calls k _ _ l0 C2 F5 F6 w _ ?side1 ?side2 ?side3 A2.out).mono ?_); (case side1 => exact (by (repeat (first | (with_reducible first | exact HB.out | apply aW | apply aN | apply aU | refine bi ?_ GE634.out) | exact HB.out)); first | done | fail)); (case side2 => exact HR0.out); (case side3 => exact O1.out); rintro e P4 ⟨g638, rfl, hi, hb, hb2⟩; refine ⟨_, rfl, ?_⟩; replace HB := a_ (hb); have HI638 := a_ (hi); have NB638_634 := a_ (aj.pF hi (dS (g := A1) (rb_ A6.out) hb2) (by decide)); have B4 := a_ (Ne.symm (aj.pF hi (dS (g := A1) (rb_ A6.out) hb2) (by decide))); replace A6 := a_ (dS (g := A1) (rb_ A6.out) hb2); (try clear hb); (try clear hb2); (try clear hi)) | ((with_reducible refine av (f := 51) rfl ?_); refine bI (some 10) rfl rfl Tryz.func51 (by kernel_rfl) rfl #[.pointer (some ⟨g638, 0, none⟩)] rfl dL ?_; (with_reducible refine (aK.calls k g638 C2 F5 F6 C7 C8 D0 D1 D2 G3 C4 C5 w _ ?side1 ?side2 A3.out).mono ?_); (case side1 => exact vP); (case side2 => exact sw); rintro e P5 ⟨M7, M8, M9, rfl, ho0, ho1, ho2, hi, hb, hk⟩; refine ⟨_, rfl, ?_⟩; replace A6 := a_ (ax.blk hk (g' := A1) (rb_ A6.out) B4.out (by simp)); have A9 := a_ (Kd.bu ho0 (af sw)); have B0 := a_ (Kd.bu ho1 (af sw)); have B3 := a_ (Kd.bu ho2 (af sw)); replace HB := a_ (hb); replace HI638 := a_ (hi); (try clear hb); (try clear hk); (try clear hi); (try clear ho0); (try clear ho1); (try clear ho2)) | ((with_reducible refine bf (N := 4) rfl ?_); refine cz ?hg (N := 4) ?hd (cs := #[.int .i64 0, .int .i64 0, .slice none 0 0, .slice none 0 0, .slice none 0 0]) (t := 28) ?hr ?_; (case hd => rfl); (case hg => rfl); (case hr => first | (go_simp; done) | (go_simp; rfl)); intro A4 hg O2 hbox hb; replace A9 := rl_ A9 hb; replace B0 := rl_ B0 hb; replace B3 := rl_ B3 hb; have A7 := a_ (hbox); have G5 := a_ ((zX : w.heap.size ≤ A4)); have GE653 := a_ ((zX : w.heap.size ≤ A4)); replace HB := df sw hb; have B7 := a_ ((by rw [hg]; exact Nat.ne_of_lt (fF (g := A1) (rb_ A6.out)) : A1 ≠ A4)); have C6 := a_ ((by rw [hg]; exact Nat.ne_of_gt (fF (g := A1) (rb_ A6.out)) : A4 ≠ A1)); replace A6 := bb_ A1 A6 hb; have NB638_653 := a_ ((by rw [hg]; exact Nat.ne_of_lt (aj.lt (show aj w _ g638 C2 C4 C5 from vP)) : g638 ≠ A4)); have C1 := a_ ((by rw [hg]; exact Nat.ne_of_gt (aj.lt (show aj w _ g638 C2 C4 C5 from vP)) : A4 ≠ g638)); replace HI638 := a_ (aj.below vP hb); clear hb hbox hg; have hnb13 := C6.out; have hnc13 := B7.out; have hnb14 := C1.out; have hnc14 := NB638_653.out; obtain ⟨H2, H3, H4, H5, H6, H7, H8, H9, I0, I1⟩ := eH (w := O2) A7.out; obtain ⟨G6, G7, N0⟩ := Kd.bg A9.out; subst N0; obtain ⟨G8, G9, N1⟩ := Kd.bg B0.out; subst N1; obtain ⟨H0, H1, N2⟩ := Kd.bg B3.out; subst N2) | ((with_reducible refine bf (N := 20) rfl ?_); refine Kd.fU Kd.string _ 9 ?hg (N := 20) ?hd (xs := ([(⟨#[76, 84, 76]⟩ : ByteArray), (⟨#[76, 76, 84]⟩ : ByteArray), (⟨#[84, 76, 76]⟩ : ByteArray), (⟨#[82, 66, 82]⟩ : ByteArray)] : List ByteArray)) (inner := [.string (⟨#[76, 84, 76]⟩ : ByteArray), .string (⟨#[76, 76, 84]⟩ : ByteArray), .string (⟨#[84, 76, 76]⟩ : ByteArray), .string (⟨#[82, 66, 82]⟩ : ByteArray)]) (ok := fun _ => True) (okp := fun _ => True) ?hr ?hp (fun _ hk => hk) trivial (Below.refl _ _) (Nat.le_refl _) (by simp) ?_; (case hd => rfl); (case hg => rfl); (case hr => first | (go_simp; done) | (go_simp; rfl)); (case hp => exact (dm.one (show Kd.M Kd.string _ _ _ (⟨#[76, 84, 76]⟩ : ByteArray) [.string (⟨#[76, 84, 76]⟩ : ByteArray)] from rfl) (dm.one (show Kd.M Kd.string _ _ _ (⟨#[76, 76, 84]⟩ : ByteArray) [.string (⟨#[76, 76, 84]⟩ : ByteArray)] from rfl) (dm.one (show Kd.M Kd.string _ _ _ (⟨#[84, 76, 76]⟩ : ByteArray) [.string (⟨#[84, 76, 76]⟩ : ByteArray)] from rfl) (dm.one (show Kd.M Kd.string _ _ _ (⟨#[82, 66, 82]⟩ : ByteArray) [.string (⟨#[82, 66, 82]⟩ : ByteArray)] from rfl) (dm.none _ _)))))); intro O8 P6 ho20 hb hg_ hnew_; clear hg_ hnew_; (first | rw [← F7.out] at ho20 | (simp only [Int.reduceToNat] at ho20; rw [← F7.out] at ho20)); replace A9 := a_ (Kd.dN (rc_ (h := by exact Kd.ae (gB A9.out A7.out) (fun _ h_ => h_.1))) hb); replace B0 := a_ (Kd.dN (rc_ (h := by exact Kd.ae (gB B0.out A7.out) (fun _ h_ => h_.1))) hb); replace B3 := a_ (Kd.dN (rc_ (h := by exact Kd.ae (gB B3.out A7.out) (fun _ h_ => h_.1))) hb); have D3 := a_ (Kd.bu ho20 (af z7_)); replace A6 := a_ (dS (g := A1) (o := .cells #[.int .i64 0, .int .i64 0, .slice none 0 0, .slice none 0 0, .slice none 0 0] 28 (0, 0)) (iI (h := by exact rR B7.out A6.out)) hb); replace A7 := a_ (dS (g := A4) (o := .cells #[.int .i64 C7, .int .i64 C8, .slice G6 D0.length G7, .slice G8 D1.length G9, .slice H0 D2.length H1] 28 (0, 0)) (iI (h := by exact je A7.out)) hb); replace HB := df z7_ hb; replace HI638 := a_ (aj.below (show aj w (((((O2.setCell ⟨A4, 0, none⟩ (.int .i64 C7)).setCell ⟨A4, 1, none⟩ (.int .i64 C8)).setCell ⟨A4, 2, none⟩ (.slice G6 D0.length G7)).setCell ⟨A4, 3, none⟩ (.slice G8 D1.length G9)).setCell ⟨A4, 4, none⟩ (.slice H0 D2.length H1)) g638 C2 C4 C5 from z4_) hb); clear hb ho20) | ((with_reducible refine av (f := 52) rfl ?_); refine bI (some 22) rfl rfl Tryz.func52 (by kernel_rfl) rfl #[.pointer (some ⟨g638, 0, none⟩), .int .i64 4] rfl dL ?_; (with_reducible refine (aT.calls g638 C2 C4 C5 4 F3 M4 M5 w _ ?side1 ?side2 A5.out).mono ?_); (case side1 => exact z4_); (case side2 => exact z7_); rintro e P7 ⟨rfl, hi, hb, hk⟩; refine ⟨_, rfl, ?_⟩; replace A6 := a_ (ax.blk hk (g' := A1) (rb_ A6.out) B4.out (by simp)); replace A9 := a_ (Kd.ae (Kd.dC (aj.apart (show aj w _ g638 C2 C4 C5 from z4_) (ra_ A9.out) (by decide)) hk (fun _ h => h.2)) (fun _ h => h.1)); replace B0 := a_ (Kd.ae (Kd.dC (aj.apart (show aj w _ g638 C2 C4 C5 from z4_) (ra_ B0.out) (by decide)) hk (fun _ h => h.2)) (fun _ h => h.1)); replace B3 := a_ (Kd.ae (Kd.dC (aj.apart (show aj w _ g638 C2 C4 C5 from z4_) (ra_ B3.out) (by decide)) hk (fun _ h => h.2)) (fun _ h => h.1)); replace A7 := a_ (ax.blk hk (g' := A4) (rb_ A7.out) C1.out (by simp)); replace D3 := a_ (Kd.ae (Kd.dC (aj.apart (show aj w _ g638 C2 C4 C5 from z4_) (ra_ D3.out) (by decide)) hk (fun _ h => h.2)) (fun _ h => h.1)); replace HB := a_ (hb); replace HI638 := a_ (hi); (try clear hb); (try clear hk); (try clear hi); obtain ⟨O9, P0, N3⟩ := Kd.bg D3.out; subst N3; have G1 : 0 ≤ (F3 : Int) := of_decide_eq_true aG; have G2 : F3 < (D4.length : Int) := of_decide_eq_true aG; obtain ⟨O3, N4, I2⟩ := Kd.jd (Kd.aH D3.out).2.2 F3 G1 G2; cases N4; replace G1 := eq_true G1; replace G2 := eq_true G2) | ((with_reducible refine av (f := 15) rfl ?_); refine bI (some 25) rfl rfl Tryz.func15 (by kernel_rfl) rfl #[.int .i64 4, .int .i64 2, .string (iJ ByteArray.empty D4 F3)] rfl dL ?_; (with_reducible refine (dG.calls k 4 2 (iJ ByteArray.empty D4 F3) D5 D6 D7 D8 D9 M6 _ A8.out).mono ?_); rintro e O4 ⟨P1, P2, P3, rfl, ho0, ho1, ho2, hb⟩; refine ⟨_, rfl, ?_⟩; replace D3 := rl_ D3 hb; have F8 := a_ (Kd.bu (Kd.dF (Kd.dF (Kd.dF ho0 (Kd.dR (ra_ A9.out))) (Kd.dR (ra_ B0.out))) (Kd.dR (ra_ B3.out))) (af z7_)); have F9 := a_ (Kd.bu (Kd.dF (Kd.dF (Kd.dF ho1 (Kd.dR (ra_ A9.out))) (Kd.dR (ra_ B0.out))) (Kd.dR (ra_ B3.out))) (af z7_)); have G0 := a_ (Kd.bu (Kd.dF (Kd.dF (Kd.dF ho2 (Kd.dR (ra_ A9.out))) (Kd.dR (ra_ B0.out))) (Kd.dR (ra_ B3.out))) (af z7_)); replace A9 := a_ (Kd.ae (Kd.lJ (Kd.lJ (Kd.lJ (Kd.yn (ra_ A9.out) hb) (Kd.bN ho0)) (Kd.bN ho1)) (Kd.bN ho2)) (fun _ h_ => h_.1)); replace B0 := a_ (Kd.ae (Kd.lJ (Kd.lJ (Kd.lJ (Kd.yn (ra_ B0.out) hb) (Kd.bN ho0)) (Kd.bN ho1)) (Kd.bN ho2)) (fun _ h_ => h_.1)); replace B3 := a_ (Kd.ae (Kd.lJ (Kd.lJ (Kd.lJ (Kd.yn (ra_ B3.out) hb) (Kd.bN ho0)) (Kd.bN ho1)) (Kd.bN ho2)) (fun _ h_ => h_.1)); replace A6 := bb_ A1 A6 hb; replace A7 := bb_ A4 A7 hb; replace HB := df z7_ hb; replace HI638 := a_ (aj.below z4_ hb); (try clear hb); (try clear ho0); (try clear ho1); (try clear ho2); obtain ⟨I3, I4, I5, I6, I7, I8, I9, J0, J1, J2⟩ := eH (w := O4) A7.out; obtain ⟨E0, E1, N5⟩ := Kd.bg F8.out; subst N5; obtain ⟨E2, E3, N6⟩ := Kd.bg F9.out; subst N6; obtain ⟨E4, E5, N7⟩ := Kd.bg G0.out; subst N7; have hnb28 := B4.out; have hnc28 := NB638_634.out; obtain ⟨J3, J4, J5, J6, J7, J8, J9, K0, K1, K2⟩ := eH (w := O4) A6.out))
  refine bodyPost_ret (results_cell_row rfl _ _ A1 28 #[.int .i64 D5, .int .i64 D6, .slice E0 D7.length E1, .slice E2 D8.length E3, .slice E4 D9.length E5] (0, 0) _ rfl (iI (h := by exact je (iI (h := by exact rR B7.out A6.out)))) Tryz.underlying28 rfl (by kernel_rfl)) rfl ?_
  exact ⟨_, _, _, fO, by (with_reducible repeat (first | apply Kd.aC | apply Kd.aD | apply Kd.az)); exact Kd.ae (Kd.bV (p := ⟨A1, 4, none⟩) (Kd.bV (p := ⟨A1, 3, none⟩) (Kd.bV (p := ⟨A1, 2, none⟩) (Kd.bV (p := ⟨A1, 1, none⟩) (Kd.bV (p := ⟨A1, 0, none⟩) (Kd.bV (p := ⟨A4, 4, none⟩) (Kd.bV (p := ⟨A4, 3, none⟩) (Kd.bV (p := ⟨A4, 2, none⟩) (Kd.bV (p := ⟨A4, 1, none⟩) (Kd.bV (p := ⟨A4, 0, none⟩) (Kd.eT (Kd.eT F8.out A7.out (by decide)) A6.out (by decide)) (fun _ hk => hk.1.2) (.int .i64 D5)) (fun _ hk => hk.1.2) (.int .i64 D6)) (fun _ hk => hk.1.2) (.slice E0 D7.length E1)) (fun _ hk => hk.1.2) (.slice E2 D8.length E3)) (fun _ hk => hk.1.2) (.slice E4 D9.length E5)) (fun _ hk => hk.2) (.int .i64 D5)) (fun _ hk => hk.2) (.int .i64 D6)) (fun _ hk => hk.2) (.slice E0 D7.length E1)) (fun _ hk => hk.2) (.slice E2 D8.length E3)) (fun _ hk => hk.2) (.slice E4 D9.length E5)) (fun _ hk => ⟨hk.1.1.1.1.1.1, hk.1.1.1.1.1.2⟩), by (with_reducible repeat (first | apply Kd.aC | apply Kd.aD | apply Kd.az)); exact Kd.ae (Kd.bV (p := ⟨A1, 4, none⟩) (Kd.bV (p := ⟨A1, 3, none⟩) (Kd.bV (p := ⟨A1, 2, none⟩) (Kd.bV (p := ⟨A1, 1, none⟩) (Kd.bV (p := ⟨A1, 0, none⟩) (Kd.bV (p := ⟨A4, 4, none⟩) (Kd.bV (p := ⟨A4, 3, none⟩) (Kd.bV (p := ⟨A4, 2, none⟩) (Kd.bV (p := ⟨A4, 1, none⟩) (Kd.bV (p := ⟨A4, 0, none⟩) (Kd.eT (Kd.eT F9.out A7.out (by decide)) A6.out (by decide)) (fun _ hk => hk.1.2) (.int .i64 D5)) (fun _ hk => hk.1.2) (.int .i64 D6)) (fun _ hk => hk.1.2) (.slice E0 D7.length E1)) (fun _ hk => hk.1.2) (.slice E2 D8.length E3)) (fun _ hk => hk.1.2) (.slice E4 D9.length E5)) (fun _ hk => hk.2) (.int .i64 D5)) (fun _ hk => hk.2) (.int .i64 D6)) (fun _ hk => hk.2) (.slice E0 D7.length E1)) (fun _ hk => hk.2) (.slice E2 D8.length E3)) (fun _ hk => hk.2) (.slice E4 D9.length E5)) (fun _ hk => ⟨hk.1.1.1.1.1.1, hk.1.1.1.1.1.2⟩), by (with_reducible repeat (first | apply Kd.aC | apply Kd.aD | apply Kd.az)); exact Kd.ae (Kd.bV (p := ⟨A1, 4, none⟩) (Kd.bV (p := ⟨A1, 3, none⟩) (Kd.bV (p := ⟨A1, 2, none⟩) (Kd.bV (p := ⟨A1, 1, none⟩) (Kd.bV (p := ⟨A1, 0, none⟩) (Kd.bV (p := ⟨A4, 4, none⟩) (Kd.bV (p := ⟨A4, 3, none⟩) (Kd.bV (p := ⟨A4, 2, none⟩) (Kd.bV (p := ⟨A4, 1, none⟩) (Kd.bV (p := ⟨A4, 0, none⟩) (Kd.eT (Kd.eT G0.out A7.out (by decide)) A6.out (by decide)) (fun _ hk => hk.1.2) (.int .i64 D5)) (fun _ hk => hk.1.2) (.int .i64 D6)) (fun _ hk => hk.1.2) (.slice E0 D7.length E1)) (fun _ hk => hk.1.2) (.slice E2 D8.length E3)) (fun _ hk => hk.1.2) (.slice E4 D9.length E5)) (fun _ hk => hk.2) (.int .i64 D5)) (fun _ hk => hk.2) (.int .i64 D6)) (fun _ hk => hk.2) (.slice E0 D7.length E1)) (fun _ hk => hk.2) (.slice E2 D8.length E3)) (fun _ hk => hk.2) (.slice E4 D9.length E5)) (fun _ hk => ⟨hk.1.1.1.1.1.1, hk.1.1.1.1.1.2⟩), z7_⟩
 rw [if_neg c4] at H
 have M3 := decide_eq_false c4
 clear c4
 simp only [Option.some.injEq, Prod.mk.injEq] at H
 obtain ⟨rfl, rfl, rfl, rfl, rfl⟩ := H
 go_enter Tryz.func25, Tryz.ntmps25
 go_wp2_with (first | ((with_reducible refine bf (N := 2) rfl ?_); refine cz ?hg (N := 2) ?hd (cs := #[.int .i64 0, .int .i64 0, .slice none 0 0, .slice none 0 0, .slice none 0 0]) (t := 28) ?hr ?_; (case hd => rfl); (case hg => rfl); (case hr => first | (go_simp; done) | (go_simp; rfl)); intro A1 hg P8 hbox hb; have A6 := a_ (hbox); have G4 := a_ ((fG : w.heap.size ≤ A1)); have GE634 := a_ ((fG : w.heap.size ≤ A1)); replace HB := df bO hb; clear hb hbox hg) | ((with_reducible refine av (f := 42) rfl ?_); refine bI (some 7) rfl rfl Tryz.func42 (by kernel_rfl) rfl #[.slice A0 l0.length c0] rfl dL ?_; (with_reducible refine (bM.calls k _ _ l0 C2 F5 F6 w _ ?side1 ?side2 ?side3 A2.out).mono ?_); (case side1 => exact (by (repeat (first | (with_reducible first | exact HB.out | apply aW | apply aN | apply aU | refine bi ?_ GE634.out) | exact HB.out)); first | done | fail)); (case side2 => exact HR0.out); (case side3 => exact O1.out); rintro e P9 ⟨g638, rfl, hi, hb, hb2⟩; refine ⟨_, rfl, ?_⟩; replace HB := a_ (hb); have HI638 := a_ (hi); have NB638_634 := a_ (aj.pF hi (dS (g := A1) (rb_ A6.out) hb2) (by decide)); have B4 := a_ (Ne.symm (aj.pF hi (dS (g := A1) (rb_ A6.out) hb2) (by decide))); replace A6 := a_ (dS (g := A1) (rb_ A6.out) hb2); (try clear hb); (try clear hb2); (try clear hi)) | ((with_reducible refine av (f := 51) rfl ?_); refine bI (some 10) rfl rfl Tryz.func51 (by kernel_rfl) rfl #[.pointer (some ⟨g638, 0, none⟩)] rfl dL ?_; (with_reducible refine (aK.calls k g638 C2 F5 F6 C7 C8 D0 D1 D2 G3 C4 C5 w _ ?side1 ?side2 A3.out).mono ?_); (case side1 => exact vP); (case side2 => exact sw); rintro e Q0 ⟨M7, M8, M9, rfl, ho0, ho1, ho2, hi, hb, hk⟩; refine ⟨_, rfl, ?_⟩; replace A6 := a_ (ax.blk hk (g' := A1) (rb_ A6.out) B4.out (by simp)); have A9 := a_ (Kd.bu ho0 (af sw)); have B0 := a_ (Kd.bu ho1 (af sw)); have B3 := a_ (Kd.bu ho2 (af sw)); replace HB := a_ (hb); replace HI638 := a_ (hi); (try clear hb); (try clear hk); (try clear hi); (try clear ho0); (try clear ho1); (try clear ho2)) | ((with_reducible refine bf (N := 4) rfl ?_); refine cz ?hg (N := 4) ?hd (cs := #[.int .i64 0, .int .i64 0, .slice none 0 0, .slice none 0 0, .slice none 0 0]) (t := 28) ?hr ?_; (case hd => rfl); (case hg => rfl); (case hr => first | (go_simp; done) | (go_simp; rfl)); intro A4 hg O5 hbox hb; replace A9 := rl_ A9 hb; replace B0 := rl_ B0 hb; replace B3 := rl_ B3 hb; have A7 := a_ (hbox); have G5 := a_ ((zX : w.heap.size ≤ A4)); have GE653 := a_ ((zX : w.heap.size ≤ A4)); replace HB := df sw hb; have B7 := a_ ((by rw [hg]; exact Nat.ne_of_lt (fF (g := A1) (rb_ A6.out)) : A1 ≠ A4)); have C6 := a_ ((by rw [hg]; exact Nat.ne_of_gt (fF (g := A1) (rb_ A6.out)) : A4 ≠ A1)); replace A6 := bb_ A1 A6 hb; have NB638_653 := a_ ((by rw [hg]; exact Nat.ne_of_lt (aj.lt (show aj w _ g638 C2 C4 C5 from vP)) : g638 ≠ A4)); have C1 := a_ ((by rw [hg]; exact Nat.ne_of_gt (aj.lt (show aj w _ g638 C2 C4 C5 from vP)) : A4 ≠ g638)); replace HI638 := a_ (aj.below vP hb); clear hb hbox hg; have hnb34 := C6.out; have hnc34 := B7.out; have hnb35 := C1.out; have hnc35 := NB638_653.out; obtain ⟨K3, K4, K5, K6, K7, K8, K9, L0, L1, L2⟩ := eH (w := O5) A7.out; obtain ⟨E6, E7, N8⟩ := Kd.bg A9.out; subst N8; obtain ⟨E8, E9, N9⟩ := Kd.bg B0.out; subst N9; obtain ⟨F0, F1, O0⟩ := Kd.bg B3.out; subst O0; have hnb40 := B4.out; have hnc40 := NB638_634.out; obtain ⟨L3, L4, L5, L6, L7, L8, L9, M0, M1, M2⟩ := eH (w := O5) A6.out))
 refine bodyPost_ret (results_cell_row rfl _ _ A1 28 #[.int .i64 C7, .int .i64 C8, .slice E6 D0.length E7, .slice E8 D1.length E9, .slice F0 D2.length F1] (0, 0) _ rfl (iI (h := by exact je (iI (h := by exact rR B7.out A6.out)))) Tryz.underlying28 rfl (by kernel_rfl)) rfl ?_
 exact ⟨_, _, _, fO, by (with_reducible repeat (first | apply Kd.aC | apply Kd.aD | apply Kd.az)); exact Kd.ae (Kd.bV (p := ⟨A1, 4, none⟩) (Kd.bV (p := ⟨A1, 3, none⟩) (Kd.bV (p := ⟨A1, 2, none⟩) (Kd.bV (p := ⟨A1, 1, none⟩) (Kd.bV (p := ⟨A1, 0, none⟩) (Kd.bV (p := ⟨A4, 4, none⟩) (Kd.bV (p := ⟨A4, 3, none⟩) (Kd.bV (p := ⟨A4, 2, none⟩) (Kd.bV (p := ⟨A4, 1, none⟩) (Kd.bV (p := ⟨A4, 0, none⟩) (Kd.eT (Kd.eT A9.out A7.out (by decide)) A6.out (by decide)) (fun _ hk => hk.1.2) (.int .i64 C7)) (fun _ hk => hk.1.2) (.int .i64 C8)) (fun _ hk => hk.1.2) (.slice E6 D0.length E7)) (fun _ hk => hk.1.2) (.slice E8 D1.length E9)) (fun _ hk => hk.1.2) (.slice F0 D2.length F1)) (fun _ hk => hk.2) (.int .i64 C7)) (fun _ hk => hk.2) (.int .i64 C8)) (fun _ hk => hk.2) (.slice E6 D0.length E7)) (fun _ hk => hk.2) (.slice E8 D1.length E9)) (fun _ hk => hk.2) (.slice F0 D2.length F1)) (fun _ hk => ⟨hk.1.1.1, hk.1.1.2⟩), by (with_reducible repeat (first | apply Kd.aC | apply Kd.aD | apply Kd.az)); exact Kd.ae (Kd.bV (p := ⟨A1, 4, none⟩) (Kd.bV (p := ⟨A1, 3, none⟩) (Kd.bV (p := ⟨A1, 2, none⟩) (Kd.bV (p := ⟨A1, 1, none⟩) (Kd.bV (p := ⟨A1, 0, none⟩) (Kd.bV (p := ⟨A4, 4, none⟩) (Kd.bV (p := ⟨A4, 3, none⟩) (Kd.bV (p := ⟨A4, 2, none⟩) (Kd.bV (p := ⟨A4, 1, none⟩) (Kd.bV (p := ⟨A4, 0, none⟩) (Kd.eT (Kd.eT B0.out A7.out (by decide)) A6.out (by decide)) (fun _ hk => hk.1.2) (.int .i64 C7)) (fun _ hk => hk.1.2) (.int .i64 C8)) (fun _ hk => hk.1.2) (.slice E6 D0.length E7)) (fun _ hk => hk.1.2) (.slice E8 D1.length E9)) (fun _ hk => hk.1.2) (.slice F0 D2.length F1)) (fun _ hk => hk.2) (.int .i64 C7)) (fun _ hk => hk.2) (.int .i64 C8)) (fun _ hk => hk.2) (.slice E6 D0.length E7)) (fun _ hk => hk.2) (.slice E8 D1.length E9)) (fun _ hk => hk.2) (.slice F0 D2.length F1)) (fun _ hk => ⟨hk.1.1.1, hk.1.1.2⟩), by (with_reducible repeat (first | apply Kd.aC | apply Kd.aD | apply Kd.az)); exact Kd.ae (Kd.bV (p := ⟨A1, 4, none⟩) (Kd.bV (p := ⟨A1, 3, none⟩) (Kd.bV (p := ⟨A1, 2, none⟩) (Kd.bV (p := ⟨A1, 1, none⟩) (Kd.bV (p := ⟨A1, 0, none⟩) (Kd.bV (p := ⟨A4, 4, none⟩) (Kd.bV (p := ⟨A4, 3, none⟩) (Kd.bV (p := ⟨A4, 2, none⟩) (Kd.bV (p := ⟨A4, 1, none⟩) (Kd.bV (p := ⟨A4, 0, none⟩) (Kd.eT (Kd.eT B3.out A7.out (by decide)) A6.out (by decide)) (fun _ hk => hk.1.2) (.int .i64 C7)) (fun _ hk => hk.1.2) (.int .i64 C8)) (fun _ hk => hk.1.2) (.slice E6 D0.length E7)) (fun _ hk => hk.1.2) (.slice E8 D1.length E9)) (fun _ hk => hk.1.2) (.slice F0 D2.length F1)) (fun _ hk => hk.2) (.int .i64 C7)) (fun _ hk => hk.2) (.int .i64 C8)) (fun _ hk => hk.2) (.slice E6 D0.length E7)) (fun _ hk => hk.2) (.slice E8 D1.length E9)) (fun _ hk => hk.2) (.slice F0 D2.length F1)) (fun _ hk => ⟨hk.1.1.1, hk.1.1.2⟩), z7_⟩
end Go.Proofs.YtkpidjmhdagkfaaGreatDoor.QFnReadForms
