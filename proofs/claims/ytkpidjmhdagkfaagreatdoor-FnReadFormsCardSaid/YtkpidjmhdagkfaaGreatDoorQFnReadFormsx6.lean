-- Written by own_print.py of this session's repo over the kit's print (its output, turned at some places).
import Derived.Test.YtkpidjmhdagkfaaGreatDoorQFnReadFormsx0
import Derived.Test.YtkpidjmhdagkfaaGreatDoorQFnReadFormsx5
namespace Go.Proofs.YtkpidjmhdagkfaaGreatDoor.QFnReadForms
open Go.RowKit Go.Proofs.YtkpidjmhdagkfaaGreatDoorW.PrintWords Go.Proofs.YtkpidjmhdagkfaaGreatDoorW.PrintLast Go.Proofs.YtkpidjmhdagkfaaGreatDoorW.PrintMore
attribute [local go_sem] ik iq iR iT gD gF il iw
set_option maxHeartbeats 8000000
set_option maxRecDepth 100000
set_option linter.unusedVariables false
set_option linter.unusedSimpArgs false
mutual
def aA.l0 : Nat → Int → ByteArray → List (List (List (S64))) → Int → Int → Option ((List (S64)))
 | 0, _, _, _, _, _ => none
 | k + 1, x0, x2, x7, x14, x15 => if x15 < x14 then (aA.l1 k x0 x2 x7 x15 (([] : List (List (S64)))) x14 x15 x0 0) else (aA.l2 k x2 x7 (x2.size : Int) 0)
def aA.l1 : Nat → Int → ByteArray → List (List (List (S64))) → Int → List (List (S64)) → Int → Int → Int → Int → Option ((List (S64)))
 | 0, _, _, _, _, _, _, _, _, _ => none
 | k + 1, x0, x2, x7, x8, x9, x14, x15, x19, x20 => if x20 < x19 then (if x9.length < 5864062014805 then (aA.l1 k x0 x2 x7 x8 (x9 ++ [(([(⟨x20, x8, false, false⟩ : S64)] : List (S64)))]) x14 x15 x19 (wrap64 (x20 + 1))) else (none)) else (if x7.length < 5864062014805 then (aA.l0 k x0 x2 (x7 ++ [x9]) x14 (wrap64 (x15 + 1))) else (none))
def aA.l2 : Nat → ByteArray → List (List (List (S64))) → Int → Int → Option ((List (S64)))
 | 0, _, _, _, _ => none
 | k + 1, x2, x7, x37, x38 => if x38 < x37 then (if 0 ≤ x38 then (if x38 < (x2.size : Int) then (if (bt x2 x38) = 84 then (if (bt x2 x38) = 76 then ((eB.f k x7 true true).bind fun t336 => (aA.l2 k x2 t336 x37 (wrap64 (x38 + 1)))) else ((eB.f k x7 true ((bt x2 x38) == 84)).bind fun t339 => (aA.l2 k x2 t339 x37 (wrap64 (x38 + 1))))) else (if (bt x2 x38) = 76 then ((eB.f k x7 ((bt x2 x38) == 66) true).bind fun t342 => (aA.l2 k x2 t342 x37 (wrap64 (x38 + 1)))) else ((eB.f k x7 ((bt x2 x38) == 66) ((bt x2 x38) == 84)).bind fun t345 => (aA.l2 k x2 t345 x37 (wrap64 (x38 + 1)))))) else (none)) else (none)) else (if 0 < (x7.length : Int) then (if 0 < ((bJ x7 0).length : Int) then (some (dY (bJ x7 0) 0)) else (none)) else (none))
end
def aA.f (k : Nat) (a0 : Int) (a1 : Int) (a2 : ByteArray) : Option ((List (S64))) := aA.l0 k a0 a2 (([] : List (List (List (S64))))) a1 0
theorem aA.di : ∀ k, (∀ y0 y1 y2 y3 y4, LeO (aA.l0 k y0 y1 y2 y3 y4) (aA.l0 (k + 1) y0 y1 y2 y3 y4)) ∧ (∀ y0 y1 y2 y3 y4 y5 y6 y7 y8, LeO (aA.l1 k y0 y1 y2 y3 y4 y5 y6 y7 y8) (aA.l1 (k + 1) y0 y1 y2 y3 y4 y5 y6 y7 y8)) ∧ (∀ y0 y1 y2 y3, LeO (aA.l2 k y0 y1 y2 y3) (aA.l2 (k + 1) y0 y1 y2 y3))
 | 0 => ⟨fun _ _ _ _ _ r h => by simp [aA.l0] at h, fun _ _ _ _ _ _ _ _ _ r h => by simp [aA.l1] at h, fun _ _ _ _ r h => by simp [aA.l2] at h⟩
 | k + 1 => by
  obtain ⟨ih0, ih1, ih2⟩ := aA.di k
  refine ⟨?_, ?_, ?_⟩ <;> intros <;> (first | unfold aA.l0 | unfold aA.l1 | unfold aA.l2) <;> (repeat' first | (with_reducible first | exact ih0 .. | exact ih1 .. | exact ih2 .. | exact eB.mono .. | exact LeO.refl .. | exact LeO.none .. | refine LeO.ite ?_ ?_ | refine LeO.bind ?_ (fun _ => ?_)))
theorem aA.mono : ∀ a0 a1 a2 k, LeO (aA.f k a0 a1 a2) (aA.f (k + 1) a0 a1 a2) := by
 intro a0 a1 a2 k
 obtain ⟨ih0, ih1, ih2⟩ := aA.di k
 unfold aA.f
 repeat' first | (with_reducible first | exact ih0 .. | exact ih1 .. | exact ih2 .. | exact eB.mono .. | exact LeO.refl .. | exact LeO.none .. | refine LeO.ite ?_ ?_ | refine LeO.bind ?_ (fun _ => ?_))
theorem aA.calls (k : Nat) (a0 : Int) (a1 : Int) (a2 : ByteArray) (r : List (S64)) (w : World) (h : aA.f k a0 a1 a2 = some r) :
  Calls Tryz.prog 44 #[.int .i64 a0, .int .i64 a1, .string a2] w fun e w' => ∃ v0_ : Value, e = .returned (v0_) ∧ Kd.R k64 64 w' w.heap.size (fun _ => True) v0_ r ∧ Below w.heap.size w w' := by
 have hu64 := Tryz.underlying64
 have HB := a_ (Below.refl w.heap.size w)
 have H : (aA.l0 k a0 a2 (([] : List (List (List (S64))))) a1 0) = some r := h
 clear h
 obtain ⟨E3, C3⟩ : ∃ y_ : List (List (List (S64))), y_ = (([] : List (List (List (S64))))) := ⟨_, rfl⟩
 replace H : (aA.l0 k a0 a2 E3 a1 0) = some r := rh_ C3 H
 have D7 := a_ C3
 clear C3
 have H' := a_ H
 clear H
 go_enter Tryz.func44, Tryz.ntmps44
 go_wp2_with (first | ((with_reducible refine bf (N := 13) rfl ?_); refine Kd.fU (Kd.slice 61 (Kd.slice 64 k64)) _ 96 ?hg (N := 13) ?hd (xs := ([] : List (List (List (S64))))) (inner := []) (ok := fun _ => True) (okp := fun _ => True) ?hr ?hp (fun _ hk => hk) trivial (Below.refl _ _) (Nat.le_refl _) (by simp) ?_; (case hd => rfl); (case hg => rfl); (case hr => first | (go_simp; done) | (go_simp; rfl)); (case hp => exact (dm.none _ _)); intro K0 w4 ho5 hb hg_ hnew_; clear hg_ hnew_; (first | rw [← D7.out] at ho5 | (simp only [Int.reduceToNat] at ho5; rw [← D7.out] at ho5)); have E4 := a_ (Kd.bu ho5 (af bO)); replace HB := df bO hb; clear hb ho5))
 go_loopg [7, 15] k (fun kq v7 v15 w' => ∃ (A5 : List (List (List (S64)))) (A2 : Int), v15 = .int .i64 A2 ∧ ah (aA.l0 kq a0 a2 A5 a1 A2 = some r) ∧ ah (kq ≤ k) ∧ ah (Kd.R (Kd.slice 61 (Kd.slice 64 k64)) 96 w' w.heap.size (fun _ => True) v7 A5) ∧ ah (Below w.heap.size w w'))
 case atStart => exact ⟨(E3), (0), bZ, H', ⟨Nat.le_refl _⟩, ⟨by (with_reducible repeat (first | apply Kd.aC | apply Kd.aD | apply Kd.az)); exact E4.out⟩, ⟨bO⟩⟩
 case round =>
  clear H'
  obtain ⟨A5, A2, rfl, HA, HK1, HO_7, HB⟩ := hrel
  cases gk with
  | zero => exact absurd HA.out (by simp [aA.l0])
  | succ k1 =>
   have H := HA.out
   clear HA
   simp only [aA.l0] at H
   by_cases c6 : A2 < a1
   ·rw [if_pos c6] at H
    have E0 := decide_eq_true c6
    clear c6
    obtain ⟨E5, C4⟩ : ∃ y_ : List (List (S64)), y_ = (([] : List (List (S64)))) := ⟨_, rfl⟩
    replace H : (aA.l1 k1 a0 a2 A5 A2 E5 a1 A2 a0 0) = some r := rh_ C4 H
    have D8 := a_ C4
    clear C4
    have H' := a_ H
    clear H
    go_wp2_with (first | ((with_reducible refine bf (N := 18) rfl ?_); refine Kd.sI (Kd.slice 64 k64) _ 61 ?hg (N := 18) ?hd (xs := ([] : List (List (S64)))) (inner := []) (ok := fun _ => True) (okp := fun _ => True) ?hr ?hp (fun _ hk => hk) trivial (Below.refl _ _) (Nat.le_refl _) (by simp) ?_; (case hd => rfl); (case hg => rfl); (case hr => first | (go_simp; done) | (go_simp; rfl)); (case hp => exact (dm.none _ _)); intro K1 w7 ho8 hb hg_ hnew_; clear hg_ hnew_; (first | rw [← D8.out] at ho8 | (simp only [Int.reduceToNat] at ho8; rw [← D8.out] at ho8)); replace HO_7 := a_ (Kd.bB (ra_ HO_7.out) (Kd.oV ho8) hb); have E6 := a_ (Kd.mP ho8 (af bO)); replace HB := df bO hb; clear hb ho8))
    go_loopg [9, 20] k1 (fun kq v9 v20 w' => ∃ (A6 : List (List (S64))) (A3 : Int), v20 = .int .i64 A3 ∧ ah (aA.l1 kq a0 a2 A5 A2 A6 a1 A2 a0 A3 = some r) ∧ ah (kq ≤ k1) ∧ ah (Kd.R (Kd.slice 61 (Kd.slice 64 k64)) 96 w' w.heap.size (fun k_ => some k_ ≠ (v9 : Value).ownBlock) u7 A5) ∧ ah (Kd.S (Kd.slice 64 k64) 61 w' w.heap.size (fun _ => True) v9 A6) ∧ ah (Below w.heap.size w w'))
    case atStart => exact ⟨(E5), (0), bZ, H', ⟨Nat.le_refl _⟩, ⟨by (with_reducible repeat (first | apply Kd.aC | apply Kd.aD | apply Kd.az)); exact Kd.ae HO_7.out (fun _ hk => hk.2)⟩, ⟨by (with_reducible repeat (first | apply Kd.gI | apply Kd.gM | apply Kd.gL)); exact E6.out⟩, ⟨bO⟩⟩
    case round =>
     clear H'
     try clear E0
     obtain ⟨A6, A3, rfl, HA, HK2, HO_7, A7, HB⟩ := hrel
     cases gk with
     | zero => exact absurd HA.out (by simp [aA.l1])
     | succ k2 =>
      have H := HA.out
      clear HA
      simp only [aA.l1] at H
      by_cases c9 : A3 < a0
      ·rw [if_pos c9] at H
       have G8 := decide_eq_true c9
       clear c9
       obtain ⟨C2, C5⟩ : ∃ y_ : List (S64), y_ = (([(⟨A3, A2, false, false⟩ : S64)] : List (S64))) := ⟨_, rfl⟩
       replace H : (if A6.length < 5864062014805 then (aA.l1 k2 a0 a2 A5 A2 (A6 ++ [C2]) a1 A2 a0 (wrap64 (A3 + 1))) else (none)) = some r := rh_ C5 H
       have D9 := a_ C5
       clear C5
       replace H := ig_ H; obtain ⟨c10, H⟩ := H
       have LMc10 := a_ c10
       clear c10
       obtain ⟨E7, C6⟩ : ∃ y_ : List (List (S64)), y_ = (A6 ++ [C2]) := ⟨_, rfl⟩
       replace H : (aA.l1 k2 a0 a2 A5 A2 E7 a1 A2 a0 (wrap64 (A3 + 1))) = some r := rh_ C6 H
       have E8 := a_ C6
       clear C6
       have H' := a_ H
       clear H
       go_wp2_with (first | ((with_reducible refine bf (N := 27) rfl ?_); refine Kd.fU k64 _ 64 ?hg (N := 27) ?hd (xs := ([(⟨A3, A2, false, false⟩ : S64)] : List (S64))) (inner := [.int .i64 A3, .int .i64 A2, .bool false, .bool false]) (ok := fun _ => True) (okp := fun _ => True) ?hr ?hp (fun _ hk => hk) trivial (Below.refl _ _) (Nat.le_refl _) (by simp) ?_; (case hd => rfl); (case hg => rfl); (case hr => first | (go_simp; done) | (go_simp; rfl)); (case hp => exact (dm.c4 (show Kd.M k64 _ _ _ (⟨A3, A2, false, false⟩ : S64) [.int .i64 A3, .int .i64 A2, .bool false, .bool false] from (nk _ _ _ (⟨A3, A2, false, false⟩ : S64) )) (dm.none _ _))); intro K2 L5 ho12 hb hg_ hnew_; clear hg_ hnew_; (first | rw [← D9.out] at ho12 | (simp only [Int.reduceToNat] at ho12; rw [← D9.out] at ho12)); replace HO_7 := a_ (Kd.bB (ra_ HO_7.out) (Kd.bN ho12) hb); replace A7 := a_ (Kd.kC (by (with_reducible repeat (first | apply Kd.gI | apply Kd.gM | apply Kd.gL)); exact A7.out) (Kd.bN ho12) hb); have B0 := a_ (Kd.bu ho12 (af bO)); replace HB := df bO hb; clear hb ho12; obtain ⟨E1, E2, G9⟩ := Kd.bg B0.out; subst G9) | ((with_reducible refine bF (b := .append) (xs := #[.tmp 23, .tmp 28]) rfl ?_); at_builtin; refine Kd.oq (Kd.slice 64 k64) (w0 := w) w.heap.size rfl (.tmp 23) (.tmp 28) 96 61 (.slice none 0 0) 24 rfl Tryz.underlying96 nW rfl (by decide) (by omega) u9 A6 C2 [.slice E1 C2.length E2] (fun _ => True) (fun k_ => some k_ = (.slice E1 C2.length E2 : Value).ownBlock) rfl rfl ?aP (fun k_ hk_ => ((Kd.ae (ok' := fun k_ => ((fun _ => True)) k_ ∧ some k_ ≠ (u9 : Value).ownBlock) (Kd.gm (B0.out) (Kd.ji A7.out) (by decide)) (fun k_ hk => ⟨trivial, hk.2⟩))).1 k_ hk_.symm) ?aF ?aO ?aB ?aS ?aL ?_; (case aP => exact Kd.lm (Kd.ae (Kd.kS rfl (Kd.ae (ok' := fun k_ => ((fun _ => True)) k_ ∧ some k_ ≠ (u9 : Value).ownBlock) (Kd.gm (B0.out) (Kd.ji A7.out) (by decide)) (fun k_ hk => ⟨trivial, hk.2⟩))) (fun _ h_ => h_))); (case aB => exact bO); (case aF => exact (fun _ _ => trivial)); (case aO => exact (by (with_reducible repeat (first | apply Kd.gI | apply Kd.gM | apply Kd.gL)); exact Kd.mi A7.out (fun k_ hk => ⟨trivial, fun e_ => hk.2 e_⟩))); (case aS => exact (af bO)); (case aL => have := LMc10.out; omega); intro K3 L6 ho hb hg hat; rw [← E8.out] at ho; replace HO_7 := a_ (Kd.dn (ok := (fun k_ => nb_ k_ E1 C2.length E2)) (rc_ (h := by exact Kd.ae HO_7.out (fun _ hk => ⟨hk.2, hk.1⟩))) hg hat); replace HB := a_ (hb); have E9 := a_ (ho); clear B0; clear A7; clear ho hb hg hat))
       go_roundg k2
       case measure => have := HK1.out; have := HK2.out; omega
       case rel => exact ⟨(E7), (wrap64 (A3 + 1)), bZ, H', ⟨ko⟩, ⟨by (with_reducible repeat (first | apply Kd.aC | apply Kd.aD | apply Kd.az)); exact Kd.ae HO_7.out (fun _ hk => hk.2)⟩, ⟨by (with_reducible repeat (first | apply Kd.gI | apply Kd.gM | apply Kd.gL)); exact E9.out⟩, ⟨bO⟩⟩
      rw [if_neg c9] at H
      have G8 := decide_eq_false c9
      clear c9
      replace H := ig_ H; obtain ⟨c15, H⟩ := H
      have LMc15 := a_ c15
      clear c15
      obtain ⟨F0, C7⟩ : ∃ y_ : List (List (List (S64))), y_ = (A5 ++ [A6]) := ⟨_, rfl⟩
      replace H : (aA.l0 k2 a0 a2 F0 a1 (wrap64 (A2 + 1))) = some r := rh_ C7 H
      have F1 := a_ C7
      clear C7
      have H' := a_ H
      clear H
      obtain ⟨H0, H1, H2⟩ := Kd.lK A7.out
      subst H2
      go_wp2_with (first | ((with_reducible refine bF (b := .append) (xs := #[.tmp 31, .tmp 33]) rfl ?_); at_builtin; refine Kd.fH (Kd.slice 61 (Kd.slice 64 k64)) (w0 := w) w.heap.size rfl (.tmp 31) (.tmp 33) 95 96 (.slice none 0 0) 24 rfl Tryz.underlying95 pz rfl (by decide) (by omega) u7 A5 A6 [.slice H0 A6.length H1] (fun _ => True) (fun k_ => ((fun _ => True)) k_ ∧ some k_ ≠ (u7 : Value).ownBlock) rfl rfl ?aP (fun _ hk => hk) ?aF ?aO ?aB ?aS ?aL ?_; (case aP => exact Kd.lm (Kd.ae (Kd.gm ((Kd.S_R A7.out)) (Kd.fV HO_7.out) (by decide)) (fun k_ hk => ⟨trivial, hk.2⟩))); (case aB => exact bO); (case aF => exact (fun _ _ => trivial)); (case aO => exact (rc_ (h := by exact Kd.ae HO_7.out (fun _ hk => trivial)))); (case aS => exact (af bO)); (case aL => have := LMc15.out; omega); intro K4 L7 ho hb hg hat; rw [← F1.out] at ho; replace HB := a_ (hb); have F2 := a_ (ho); clear HO_7; clear A7; clear ho hb hg hat))
      go_roundg k2
      case measure => have := HK1.out; have := HK2.out; omega
      case rel => exact ⟨(F0), (wrap64 (A2 + 1)), bZ, H', ⟨ko⟩, ⟨by (with_reducible repeat (first | apply Kd.aC | apply Kd.aD | apply Kd.az)); exact F2.out⟩, ⟨bO⟩⟩
   rw [if_neg c6] at H
   have E0 := decide_eq_false c6
   clear c6
   have H' := a_ H
   clear H
   go_wp2
   go_loopg [7, 38] k1 (fun kq v7 v38 w' => ∃ (A4 : List (List (List (S64)))) (A1 : Int), v38 = .int .i64 A1 ∧ ah (aA.l2 kq a2 A4 (a2.size : Int) A1 = some r) ∧ ah (kq ≤ k1) ∧ ah (Kd.R (Kd.slice 61 (Kd.slice 64 k64)) 96 w' w.heap.size (fun _ => True) v7 A4) ∧ ah (Below w.heap.size w w'))
   case atStart => exact ⟨(A5), (0), bZ, H', ⟨Nat.le_refl _⟩, ⟨xn⟩, ⟨bO⟩⟩
   case round =>
    clear H'
    try clear E0
    obtain ⟨A4, A1, rfl, HA, HK2, HO_7, HB⟩ := hrel
    cases gk with
    | zero => exact absurd HA.out (by simp [aA.l2])
    | succ k2 =>
     have H := HA.out
     clear HA
     simp only [aA.l2] at H
     by_cases c18 : A1 < (a2.size : Int)
     ·rw [if_pos c18] at H
      have F3 := decide_eq_true c18
      clear c18
      replace H := ig_ H; obtain ⟨c19, H⟩ := H
      have J2 := decide_eq_true c19
      clear c19
      replace H := ig_ H; obtain ⟨c20, H⟩ := H
      have J3 := decide_eq_true c20
      clear c20
      by_cases c22 : (bt a2 A1) = 84
      ·rw [if_pos c22] at H
       have C8 : ((bt a2 A1) == 84) = true := beq_iff_eq.mpr c22
       (try simp only [C8] at H)
       have F4 : ((bt a2 A1) != 84) = false := bne_eq_false_iff_eq.mpr c22
       clear c22
       by_cases c23 : (bt a2 A1) = 76
       ·rw [if_pos c23] at H
        have C9 : ((bt a2 A1) == 76) = true := beq_iff_eq.mpr c23
        (try simp only [C9] at H)
        have F5 : ((bt a2 A1) != 76) = false := bne_eq_false_iff_eq.mpr c23
        clear c23
        replace H := bo_ H; obtain ⟨F6, K5, H⟩ := H; (try dsimp only at H)
        have H' := a_ H
        clear H
        have D0 : 0 ≤ (A1 : Int) := of_decide_eq_true aG
        have D1 : A1 < (a2.size : Int) := of_decide_eq_true aG
        have hx21 := jI a2 A1
        replace D0 := eq_true D0
        replace D1 := eq_true D1
        obtain ⟨H3, H4, H5⟩ := Kd.bg HO_7.out
        subst H5
        go_wp2_with (first | ((with_reducible refine av (f := 81) rfl ?_); refine bI (some 57) rfl rfl Tryz.func81 (by kernel_rfl) rfl #[.slice H3 A4.length H4, .bool true, .bool true] rfl dL ?_; (with_reducible refine (eB.calls k2 _ _ A4 true true F6 _ ?side1 ?side2 K5.out).mono ?_); (case side1 => exact xS); (case side2 => exact (Kd.aH HO_7.out).2.1); rintro e L8 ⟨K6, rfl, ho0, hb⟩; refine ⟨_, rfl, ?_⟩; have F7 := a_ (Kd.bu (Kd.dF ho0 (Kd.dR (ra_ HO_7.out))) (af bO)); replace HO_7 := a_ (Kd.bB (ra_ HO_7.out) (Kd.bN ho0) hb); replace HB := df bO hb; (try clear hb); (try clear ho0)))
        go_roundg k2
        case measure => have := HK1.out; have := HK2.out; omega
        case rel => exact ⟨(F6), (wrap64 (A1 + 1)), bZ, H', ⟨ko⟩, ⟨by (with_reducible repeat (first | apply Kd.aC | apply Kd.aD | apply Kd.az)); exact Kd.ae F7.out (fun _ hk => trivial)⟩, ⟨bO⟩⟩
       rw [if_neg c23] at H
       have C9 : ((bt a2 A1) == 76) = false := beq_eq_false_iff_ne.mpr c23
       (try simp only [C9] at H)
       have F5 : ((bt a2 A1) != 76) = true := bne_iff_ne.mpr c23
       replace H := bo_ H; obtain ⟨F8, K7, H⟩ := H; (try dsimp only at H)
       have H' := a_ H
       clear H
       have D0 : 0 ≤ (A1 : Int) := of_decide_eq_true aG
       have D1 : A1 < (a2.size : Int) := of_decide_eq_true aG
       have hx21 := jI a2 A1
       replace D0 := eq_true D0
       replace D1 := eq_true D1
       obtain ⟨H6, H7, H8⟩ := Kd.bg HO_7.out
       subst H8
       go_wp2_with (first | ((with_reducible refine av (f := 81) rfl ?_); refine bI (some 57) rfl rfl Tryz.func81 (by kernel_rfl) rfl #[.slice H6 A4.length H7, .bool true, .bool true] rfl dL ?_; (with_reducible refine (eB.calls k2 _ _ A4 true true F8 _ ?side1 ?side2 K7.out).mono ?_); (case side1 => exact xS); (case side2 => exact (Kd.aH HO_7.out).2.1); rintro e L9 ⟨K8, rfl, ho0, hb⟩; refine ⟨_, rfl, ?_⟩; have F9 := a_ (Kd.bu (Kd.dF ho0 (Kd.dR (ra_ HO_7.out))) (af bO)); replace HO_7 := a_ (Kd.bB (ra_ HO_7.out) (Kd.bN ho0) hb); replace HB := df bO hb; (try clear hb); (try clear ho0)))
       go_roundg k2
       case measure => have := HK1.out; have := HK2.out; omega
       case rel => exact ⟨(F8), (wrap64 (A1 + 1)), bZ, H', ⟨ko⟩, ⟨by (with_reducible repeat (first | apply Kd.aC | apply Kd.aD | apply Kd.az)); exact Kd.ae F9.out (fun _ hk => trivial)⟩, ⟨bO⟩⟩
      rw [if_neg c22] at H
      have C8 : ((bt a2 A1) == 84) = false := beq_eq_false_iff_ne.mpr c22
      (try simp only [C8] at H)
      have F4 : ((bt a2 A1) != 84) = true := bne_iff_ne.mpr c22
      by_cases c30 : (bt a2 A1) = 76
      ·rw [if_pos c30] at H
       have D2 : ((bt a2 A1) == 76) = true := beq_iff_eq.mpr c30
       (try simp only [D2] at H)
       have G0 : ((bt a2 A1) != 76) = false := bne_eq_false_iff_eq.mpr c30
       clear c30
       replace H := bo_ H; obtain ⟨G1, K9, H⟩ := H; (try dsimp only at H)
       have H' := a_ H
       clear H
       have D0 : 0 ≤ (A1 : Int) := of_decide_eq_true aG
       have D1 : A1 < (a2.size : Int) := of_decide_eq_true aG
       have hx21 := jI a2 A1
       replace D0 := eq_true D0
       replace D1 := eq_true D1
       obtain ⟨H9, I0, I1⟩ := Kd.bg HO_7.out
       subst I1
       go_wp2_with (first | ((with_reducible refine av (f := 81) rfl ?_); refine bI (some 57) rfl rfl Tryz.func81 (by kernel_rfl) rfl #[.slice H9 A4.length I0, .bool ((bt a2 A1) == 66), .bool true] rfl dL ?_; (with_reducible refine (eB.calls k2 _ _ A4 ((bt a2 A1) == 66) true G1 _ ?side1 ?side2 K9.out).mono ?_); (case side1 => exact xS); (case side2 => exact (Kd.aH HO_7.out).2.1); rintro e M0 ⟨L0, rfl, ho0, hb⟩; refine ⟨_, rfl, ?_⟩; have G2 := a_ (Kd.bu (Kd.dF ho0 (Kd.dR (ra_ HO_7.out))) (af bO)); replace HO_7 := a_ (Kd.bB (ra_ HO_7.out) (Kd.bN ho0) hb); replace HB := df bO hb; (try clear hb); (try clear ho0)))
       go_roundg k2
       case measure => have := HK1.out; have := HK2.out; omega
       case rel => exact ⟨(G1), (wrap64 (A1 + 1)), bZ, H', ⟨ko⟩, ⟨by (with_reducible repeat (first | apply Kd.aC | apply Kd.aD | apply Kd.az)); exact Kd.ae G2.out (fun _ hk => trivial)⟩, ⟨bO⟩⟩
      rw [if_neg c30] at H
      have D2 : ((bt a2 A1) == 76) = false := beq_eq_false_iff_ne.mpr c30
      (try simp only [D2] at H)
      have G0 : ((bt a2 A1) != 76) = true := bne_iff_ne.mpr c30
      replace H := bo_ H; obtain ⟨G3, L1, H⟩ := H; (try dsimp only at H)
      have H' := a_ H
      clear H
      have D0 : 0 ≤ (A1 : Int) := of_decide_eq_true aG
      have D1 : A1 < (a2.size : Int) := of_decide_eq_true aG
      have hx21 := jI a2 A1
      replace D0 := eq_true D0
      replace D1 := eq_true D1
      obtain ⟨I2, I3, I4⟩ := Kd.bg HO_7.out
      subst I4
      go_wp2_with (first | ((with_reducible refine av (f := 81) rfl ?_); refine bI (some 57) rfl rfl Tryz.func81 (by kernel_rfl) rfl #[.slice I2 A4.length I3, .bool ((bt a2 A1) == 66), .bool false] rfl dL ?_; (with_reducible refine (eB.calls k2 _ _ A4 ((bt a2 A1) == 66) false G3 _ ?side1 ?side2 L1.out).mono ?_); (case side1 => exact xS); (case side2 => exact (Kd.aH HO_7.out).2.1); rintro e M1 ⟨L2, rfl, ho0, hb⟩; refine ⟨_, rfl, ?_⟩; have G4 := a_ (Kd.bu (Kd.dF ho0 (Kd.dR (ra_ HO_7.out))) (af bO)); replace HO_7 := a_ (Kd.bB (ra_ HO_7.out) (Kd.bN ho0) hb); replace HB := df bO hb; (try clear hb); (try clear ho0)))
      go_roundg k2
      case measure => have := HK1.out; have := HK2.out; omega
      case rel => exact ⟨(G3), (wrap64 (A1 + 1)), bZ, H', ⟨ko⟩, ⟨by (with_reducible repeat (first | apply Kd.aC | apply Kd.aD | apply Kd.az)); exact Kd.ae G4.out (fun _ hk => trivial)⟩, ⟨bO⟩⟩
     rw [if_neg c18] at H
     have F3 := decide_eq_false c18
     clear c18
     replace H := ig_ H; obtain ⟨c37, H⟩ := H
     have J4 := decide_eq_true c37
     have J5 : decide (0 < A4.length) = true := decide_eq_true (by omega)
     clear c37
     replace H := ig_ H; obtain ⟨c38, H⟩ := H
     have J6 := decide_eq_true c38
     have J7 : decide (0 < (bJ A4 0).length) = true := decide_eq_true (by omega)
     clear c38
     obtain rfl := Option.some.inj H
     obtain ⟨L3, L4, I5⟩ := Kd.bg HO_7.out
     subst I5
     have D3 : 0 ≤ (0 : Int) := (by omega)
     have D4 : 0 < (A4.length : Int) := of_decide_eq_true aG
     obtain ⟨J8, I6, I7, I8, A8, B3, B4⟩ := kD (Kd.aH HO_7.out).2.2 0 D3 D4
     cases I8
     obtain ⟨ce348, hce348, hMe348, hcc348⟩ := Kd.wU HO_7.out [] 0 D3 (by first | exact D4 | exact of_decide_eq_true aG | (have e_ := (Kd.aH HO_7.out).1; omega))
     obtain ⟨ve348_0, rfl, ge348_0⟩ := hMe348
     have hv348_0 := hcc348 0 _ rfl
     rw [Nat.add_zero, show ((Kd.slice 61 (Kd.slice 64 k64))).sz = 1 from rfl, Nat.mul_one] at hv348_0
     replace hv348_0 := Option.some.inj (hv348_0.symm.trans A8)
     rw [hv348_0] at ge348_0
     have HL348_0 := a_ (show Kd.R (Kd.slice 64 k64) 61 _ _ _ _ (bJ A4 0) from ge348_0)
     clear hv348_0 ge348_0
     clear hcc348 hce348
     have qi348 : (0 < A4.length) = True := eq_true (by omega)
     (try rw [show ((0 : Int)).toNat = 0 from rfl] at A8)
     (try rw [Addr.add_zero'] at A8)
     have B7 := a_ B4
     have G5 := a_ B3
     clear B4 B3
     replace D3 := eq_true D3
     replace D4 := eq_true D4
     have D5 : 0 ≤ (0 : Int) := (by omega)
     have D6 : 0 < ((bJ A4 0).length : Int) := of_decide_eq_true aG
     obtain ⟨J9, I9, J0, J1, A9, C0, C1⟩ := kT (by repeat (first | (with_reducible exact B7.out) | (with_reducible refine Kd.dH ?_ _) | (with_reducible refine Kd.dJ ?_ _) | (with_reducible refine Kd.dX ?_) | exact B7.out)) 0 D5 D6
     cases J1
     obtain ⟨ce349, hce349, hMe349, hcc349⟩ := Kd.wU HL348_0.out [] 0 D5 (by first | exact D6 | exact of_decide_eq_true aG | (have e_ := (Kd.aH HL348_0.out).1; omega))
     obtain ⟨ve349_0, rfl, ge349_0⟩ := hMe349
     have hv349_0 := hcc349 0 _ rfl
     rw [Nat.add_zero, show ((Kd.slice 64 k64)).sz = 1 from rfl, Nat.mul_one] at hv349_0
     replace hv349_0 := Option.some.inj (hv349_0.symm.trans A9)
     rw [hv349_0] at ge349_0
     have HL349_0 := a_ (show Kd.R k64 64 _ _ _ _ (dY (bJ A4 0) 0) from ge349_0)
     clear hv349_0 ge349_0
     clear hcc349 hce349
     have qi349 : (0 < (bJ A4 0).length) = True := eq_true (by omega)
     (try rw [show ((0 : Int)).toNat = 0 from rfl] at A9)
     (try rw [Addr.add_zero'] at A9)
     have G6 := a_ C1
     have G7 := a_ C0
     clear C1 C0
     replace D5 := eq_true D5
     replace D6 := eq_true D6
     go_wp2
     go_ret
     exact ⟨_, fO, by (with_reducible repeat (first | apply Kd.aC | apply Kd.aD | apply Kd.az)); exact Kd.ae HL349_0.out (fun _ hk => trivial), bO⟩
def iA.f (a0_0 : Int) (a0_1 : Int) (a0_2 : Bool) (a0_3 : Bool) : Option (Bool) := some (a0_2 != a0_3)
theorem iA.calls (a0_0 : Int) (a0_1 : Int) (a0_2 : Bool) (a0_3 : Bool) (r : Bool) (w : World) (h : iA.f a0_0 a0_1 a0_2 a0_3 = some r) :
  Calls Tryz.prog 45 #[.agg #[.int .i64 a0_0, .int .i64 a0_1, .bool a0_2, .bool a0_3]] w fun e w' => e = .returned (.bool r) ∧ Below w.heap.size w w' := by
 have hu64 := Tryz.underlying64
 have HB := a_ (Below.refl w.heap.size w)
 have H : (some (a0_2 != a0_3)) = some r := h
 clear h
 obtain rfl := Option.some.inj H
 go_enter Tryz.func45, Tryz.ntmps45
 go_wp2_with (first | ((with_reducible refine bf (N := 1) rfl ?_); refine cz ?hg (N := 1) ?hd (cs := #[.int .i64 a0_0, .int .i64 a0_1, .bool a0_2, .bool a0_3]) (t := 64) ?hr ?_; (case hd => rfl); (case hg => rfl); (case hr => first | (go_simp; done) | (go_simp; rfl)); intro A1 hg w2 hbox hb; have A2 := a_ (hbox); have B4 := a_ ((fG : w.heap.size ≤ A1)); have A3 := a_ ((fG : w.heap.size ≤ A1)); replace HB := df bO hb; clear hb hbox hg; obtain ⟨A4, A5, A6, A7, A8, A9, B0, B3⟩ := oz (w := w2) A2.out))
 go_ret
 exact ⟨fO, by repeat (first | (with_reducible first | exact HB.out | apply aW | apply aN | apply aU | refine bi ?_ A3.out) | exact HB.out)⟩
def gG.f (a0 : Int) (a1 : Int) (a2 : Int) : Option (Int) := some (wrap64 ((wrap64 (a2 * a0)) + a1))
theorem gG.calls (a0 : Int) (a1 : Int) (a2 : Int) (r : Int) (w : World) (h : gG.f a0 a1 a2 = some r) :
  Calls Tryz.prog 46 #[.int .i64 a0, .int .i64 a1, .int .i64 a2] w fun e w' => e = .returned (.int .i64 r) ∧ eY w w' := by
 have H : (some (wrap64 ((wrap64 (a2 * a0)) + a1))) = some r := h
 clear h
 obtain rfl := Option.some.inj H
 go_enter Tryz.func46, Tryz.ntmps46
 go_wp2
 go_ret
 exact ⟨fT, eQ⟩
def gP.f (a0 : Int) (a1 : Int) (a2 : Int) : Option (Int) := some (wrap64 ((wrap64 ((wrap64 ((wrap64 (a2 * a0)) + a0)) - 1)) - a1))
theorem gP.calls (a0 : Int) (a1 : Int) (a2 : Int) (r : Int) (w : World) (h : gP.f a0 a1 a2 = some r) :
  Calls Tryz.prog 47 #[.int .i64 a0, .int .i64 a1, .int .i64 a2] w fun e w' => e = .returned (.int .i64 r) ∧ eY w w' := by
 have H : (some (wrap64 ((wrap64 ((wrap64 ((wrap64 (a2 * a0)) + a0)) - 1)) - a1))) = some r := h
 clear h
 obtain rfl := Option.some.inj H
 go_enter Tryz.func47, Tryz.ntmps47
 go_wp2
 go_ret
 exact ⟨fT, eQ⟩
def jG.f (a0 : Bool) : Option (Int) := if a0 = true then (some 1) else (some 0)
theorem jG.calls (a0 : Bool) (r : Int) (w : World) (h : jG.f a0 = some r) :
  Calls Tryz.prog 48 #[.bool a0] w fun e w' => e = .returned (.int .i64 r) ∧ eY w w' := by
 have H : (if a0 = true then (some 1) else (some 0)) = some r := h
 clear h
 by_cases c2 : a0 = true
 ·subst c2
  have H1 : (some 1) = some r := by rw [if_pos rfl] at H; exact H
  clear H
  have H := H1
  clear H1
  obtain rfl := Option.some.inj H
  go_enter Tryz.func48, Tryz.ntmps48
  go_wp2
  go_ret
  exact ⟨fT, eQ⟩
 ·replace c2 := Bool.eq_false_iff.mpr c2
  subst c2
  have H1 : (some 0) = some r := by rw [if_neg (show ¬ (false = true) by decide)] at H; exact H
  clear H
  have H := H1
  clear H1
  obtain rfl := Option.some.inj H
  go_enter Tryz.func48, Tryz.ntmps48
  go_wp2
  go_ret
  exact ⟨fT, eQ⟩
mutual
def aQ.l0 : Nat → List Int → List (S64) → Int → Int → Int → Int → List Int → List Int → List Int → Option (List Int)
 | 0, _, _, _, _, _, _, _, _, _ => none
 | k + 1, x5, x17, x18, x19, x352000, x352001, x352002, x352003, x352004 => if x19 < x18 then (if 0 ≤ x19 then (if x19 < (x17.length : Int) then ((gG.f x352000 ((aa x17 x19).f0) ((aa x17 x19).f1)).bind fun t360 => (if 0 ≤ t360 then (if t360 < (x352002.length : Int) then ((gP.f x352000 ((aa x17 x19).f0) ((aa x17 x19).f1)).bind fun t362 => (if 0 ≤ t362 then (if t362 < (x352003.length : Int) then ((iA.f ((aa x17 x19).f0) ((aa x17 x19).f1) ((aa x17 x19).f2) ((aa x17 x19).f3)).bind fun t364 => (if t364 = true then (aQ.j1 k x5 t360 (rd x352003 t362) (rd x352002 t360) x17 x18 x19 x352000 x352001 x352002 x352003 x352004 ((aa x17 x19).f0) ((aa x17 x19).f1) ((aa x17 x19).f2) ((aa x17 x19).f3)) else (aQ.j1 k x5 t360 (rd x352002 t360) (rd x352003 t362) x17 x18 x19 x352000 x352001 x352002 x352003 x352004 ((aa x17 x19).f0) ((aa x17 x19).f1) ((aa x17 x19).f2) ((aa x17 x19).f3)))) else (none)) else (none))) else (none)) else (none))) else (none)) else (none)) else (some x5)
def aQ.j1 : Nat → List Int → Int → Int → Int → List (S64) → Int → Int → Int → Int → List Int → List Int → List Int → Int → Int → Bool → Bool → Option (List Int)
 | 0, _, _, _, _, _, _, _, _, _, _, _, _, _, _, _, _ => none
 | k + 1, x5, x8, x9, x10, x17, x18, x19, x352000, x352001, x352002, x352003, x352004, x360000, x360001, x360002, x360003 => if 0 ≤ x8 then (if x8 < (x352004.length : Int) then ((jG.f x360003).bind fun t366 => (if (rd x352004 x8) = t366 then (aQ.j2 k x5 x9 x10 x17 x18 x19 x352000 x352001 x352002 x352003 x352004) else (aQ.j2 k x5 (wrap64 (-x9)) (wrap64 (-x10)) x17 x18 x19 x352000 x352001 x352002 x352003 x352004))) else (none)) else (none)
def aQ.j2 : Nat → List Int → Int → Int → List (S64) → Int → Int → Int → Int → List Int → List Int → List Int → Option (List Int)
 | 0, _, _, _, _, _, _, _, _, _, _, _ => none
 | k + 1, x5, x9, x10, x17, x18, x19, x352000, x352001, x352002, x352003, x352004 => (some (([x9, x10] : List Int) : List Int)).bind fun y367 => (if x5.length + y367.length < 17592186044416 then (aQ.l0 k (x5 ++ y367) x17 x18 (wrap64 (x19 + 1)) x352000 x352001 x352002 x352003 x352004) else (none))
end
def aQ.f (k : Nat) (a0_0 : Int) (a0_1 : Int) (l0_2 : List Int) (l0_3 : List Int) (l0_4 : List Int) (a1 : ByteArray) : Option (List Int) := (aA.f k a0_0 a0_1 a1).bind fun t355 => (aQ.l0 k (([] : List Int)) t355 (t355.length : Int) 0 a0_0 a0_1 l0_2 l0_3 l0_4)
theorem aQ.di : ∀ k, (∀ y0 y1 y2 y3 y4 y5 y6 y7 y8, LeO (aQ.l0 k y0 y1 y2 y3 y4 y5 y6 y7 y8) (aQ.l0 (k + 1) y0 y1 y2 y3 y4 y5 y6 y7 y8)) ∧ (∀ y0 y1 y2 y3 y4 y5 y6 y7 y8 y9 y10 y11 y12 y13 y14 y15, LeO (aQ.j1 k y0 y1 y2 y3 y4 y5 y6 y7 y8 y9 y10 y11 y12 y13 y14 y15) (aQ.j1 (k + 1) y0 y1 y2 y3 y4 y5 y6 y7 y8 y9 y10 y11 y12 y13 y14 y15)) ∧ (∀ y0 y1 y2 y3 y4 y5 y6 y7 y8 y9 y10, LeO (aQ.j2 k y0 y1 y2 y3 y4 y5 y6 y7 y8 y9 y10) (aQ.j2 (k + 1) y0 y1 y2 y3 y4 y5 y6 y7 y8 y9 y10))
 | 0 => ⟨fun _ _ _ _ _ _ _ _ _ r h => by simp [aQ.l0] at h, fun _ _ _ _ _ _ _ _ _ _ _ _ _ _ _ _ r h => by simp [aQ.j1] at h, fun _ _ _ _ _ _ _ _ _ _ _ r h => by simp [aQ.j2] at h⟩
 | k + 1 => by
  obtain ⟨ih0, ih1, ih2⟩ := aQ.di k
  refine ⟨?_, ?_, ?_⟩ <;> intros <;> (first | unfold aQ.l0 | unfold aQ.j1 | unfold aQ.j2) <;> (repeat' first | (with_reducible first | exact ih0 .. | exact ih1 .. | exact ih2 .. | exact aA.mono .. | exact LeO.refl .. | exact LeO.none .. | refine LeO.ite ?_ ?_ | refine LeO.bind ?_ (fun _ => ?_)))
theorem aQ.mono : ∀ a0 a1 a2 a3 a4 a5 k, LeO (aQ.f k a0 a1 a2 a3 a4 a5) (aQ.f (k + 1) a0 a1 a2 a3 a4 a5) := by
 intro a0 a1 a2 a3 a4 a5 k
 obtain ⟨ih0, ih1, ih2⟩ := aQ.di k
 unfold aQ.f
 repeat' first | (with_reducible first | exact ih0 .. | exact ih1 .. | exact ih2 .. | exact aA.mono .. | exact LeO.refl .. | exact LeO.none .. | refine LeO.ite ?_ ?_ | refine LeO.bind ?_ (fun _ => ?_))
theorem aQ.calls (k : Nat) (a0_0 : Int) (a0_1 : Int) (H4 : Option Addr) (D0 : Nat) (l0_2 : List Int) (H5 : Option Addr) (D1 : Nat) (l0_3 : List Int) (D4 : Option Addr) (D2 : Nat) (l0_4 : List Int) (a1 : ByteArray) (r : List Int) (w : World) (hr0_2 : Kd.C (Kd.int .i64) w H4 l0_2.length l0_2) (hc0_2 : l0_2.length ≤ D0) (hr0_3 : Kd.C (Kd.int .i64) w H5 l0_3.length l0_3) (hc0_3 : l0_3.length ≤ D1) (hr0_4 : Kd.C (Kd.int .i64) w D4 l0_4.length l0_4) (hc0_4 : l0_4.length ≤ D2) (h : aQ.f k a0_0 a0_1 l0_2 l0_3 l0_4 a1 = some r) :
  Calls Tryz.prog 70 #[.agg #[.int .i64 a0_0, .int .i64 a0_1, .slice H4 l0_2.length D0, .slice H5 l0_3.length D1, .slice D4 l0_4.length D2], .string a1] w fun e w' => ∃ v0_ : Value, e = .returned (v0_) ∧ Kd.R (Kd.int .i64) 2 w' w.heap.size (fun _ => True) v0_ r ∧ Below w.heap.size w w' := by
 have hu28 := Tryz.underlying28
 have hu64 := Tryz.underlying64
 have H6 := a_ hr0_2
 have O9 := a_ hc0_2
 clear hr0_2 hc0_2
 have H7 := a_ hr0_3
 have P0 := a_ hc0_3
 clear hr0_3 hc0_3
 have HR0_4 := a_ hr0_4
 have P1 := a_ hc0_4
 clear hr0_4 hc0_4
 have HB := a_ (Below.refl w.heap.size w)
 have H : ((aA.f k a0_0 a0_1 a1).bind fun A4 => (aQ.l0 k (([] : List Int)) A4 (A4.length : Int) 0 a0_0 a0_1 l0_2 l0_3 l0_4)) = some r := h
 clear h
 obtain ⟨M2, H8⟩ : ∃ y_ : List Int, y_ = (([] : List Int)) := ⟨_, rfl⟩
 replace H : ((aA.f k a0_0 a0_1 a1).bind fun A4 => (aQ.l0 k M2 A4 (A4.length : Int) 0 a0_0 a0_1 l0_2 l0_3 l0_4)) = some r := rh_ H8 H
 have D5 := a_ H8
 clear H8
 replace H := bo_ H; obtain ⟨A4, A3, H⟩ := H; (try dsimp only at H)
 have H' := a_ H
 clear H
 go_enter Tryz.func70, Tryz.ntmps70
 go_wp2_with (first | ((with_reducible refine bf (N := 2) rfl ?_); refine cz ?hg (N := 2) ?hd (cs := #[.int .i64 a0_0, .int .i64 a0_1, .slice H4 l0_2.length D0, .slice H5 l0_3.length D1, .slice D4 l0_4.length D2]) (t := 28) ?hr ?_; (case hd => rfl); (case hg => rfl); (case hr => first | (go_simp; done) | (go_simp; rfl)); intro A5 hg w4 hbox hb; have BK351 := a_ (hbox); have L6 := a_ ((fG : w.heap.size ≤ A5)); have GE351 := a_ ((fG : w.heap.size ≤ A5)); replace HB := df bO hb; clear hb hbox hg) | ((with_reducible refine bf (N := 11) rfl ?_); refine Kd.fU (Kd.int .i64) _ 2 ?hg (N := 11) ?hd (xs := ([] : List Int)) (inner := []) (ok := fun _ => True) (okp := fun _ => True) ?hr ?hp (fun _ hk => hk) trivial (Below.refl _ _) (Nat.le_refl _) (by simp) ?_; (case hd => rfl); (case hg => rfl); (case hr => first | (go_simp; done) | (go_simp; rfl)); (case hp => exact (dm.none _ _)); intro M3 w5 ho6 hb hg_ hnew_; clear hg_ hnew_; (first | rw [← D5.out] at ho6 | (simp only [Int.reduceToNat] at ho6; rw [← D5.out] at ho6)); have C4 := a_ (Kd.bu ho6 (af mO)); replace BK351 := bb_ A5 BK351 hb; replace HB := df mO hb; clear hb ho6; obtain ⟨G0, G1, G2, G3, G4, G5, G6, G7, G8, G9⟩ := eH (w := w5) BK351.out) | (go_at_call 44; (with_reducible refine (aA.calls k a0_0 a0_1 a1 A4 _ A3.out).mono ?_); rintro e w8 ⟨M4, rfl, ho0, hb⟩; replace C4 := rl_ C4 hb; have D6 := a_ (Kd.bu ho0 (af mO)); replace BK351 := bb_ A5 BK351 hb; replace HB := df mO hb; (try clear hb); (try clear ho0); obtain ⟨O1, M5, M6⟩ := Kd.bg D6.out; subst M6))
 repeat (go_quiet (first | ((with_reducible refine bf (N := 2) rfl ?_); refine cz ?hg (N := 2) ?hd (cs := #[.int .i64 a0_0, .int .i64 a0_1, .slice H4 l0_2.length D0, .slice H5 l0_3.length D1, .slice D4 l0_4.length D2]) (t := 28) ?hr ?_; (case hd => rfl); (case hg => rfl); (case hr => first | (go_simp; done) | (go_simp; rfl)); intro A5 hg w4 hbox hb; have BK351 := a_ (hbox); have L6 := a_ ((fG : w.heap.size ≤ A5)); have GE351 := a_ ((fG : w.heap.size ≤ A5)); replace HB := df bO hb; clear hb hbox hg) | ((with_reducible refine bf (N := 11) rfl ?_); refine Kd.fU (Kd.int .i64) _ 2 ?hg (N := 11) ?hd (xs := ([] : List Int)) (inner := []) (ok := fun _ => True) (okp := fun _ => True) ?hr ?hp (fun _ hk => hk) trivial (Below.refl _ _) (Nat.le_refl _) (by simp) ?_; (case hd => rfl); (case hg => rfl); (case hr => first | (go_simp; done) | (go_simp; rfl)); (case hp => exact (dm.none _ _)); intro M3 w5 ho6 hb hg_ hnew_; clear hg_ hnew_; (first | rw [← D5.out] at ho6 | (simp only [Int.reduceToNat] at ho6; rw [← D5.out] at ho6)); have C4 := a_ (Kd.bu ho6 (af mO)); replace BK351 := bb_ A5 BK351 hb; replace HB := df mO hb; clear hb ho6; obtain ⟨G0, G1, G2, G3, G4, G5, G6, G7, G8, G9⟩ := eH (w := w5) BK351.out) | (go_at_call 44; (with_reducible refine (aA.calls k a0_0 a0_1 a1 A4 _ A3.out).mono ?_); rintro e w8 ⟨M4, rfl, ho0, hb⟩; replace C4 := rl_ C4 hb; have D6 := a_ (Kd.bu ho0 (af mO)); replace BK351 := bb_ A5 BK351 hb; replace HB := df mO hb; (try clear hb); (try clear ho0); obtain ⟨O1, M5, M6⟩ := Kd.bg D6.out; subst M6)); try go_wp2_with (first | ((with_reducible refine bf (N := 2) rfl ?_); refine cz ?hg (N := 2) ?hd (cs := #[.int .i64 a0_0, .int .i64 a0_1, .slice H4 l0_2.length D0, .slice H5 l0_3.length D1, .slice D4 l0_4.length D2]) (t := 28) ?hr ?_; (case hd => rfl); (case hg => rfl); (case hr => first | (go_simp; done) | (go_simp; rfl)); intro A5 hg w4 hbox hb; have BK351 := a_ (hbox); have L6 := a_ ((fG : w.heap.size ≤ A5)); have GE351 := a_ ((fG : w.heap.size ≤ A5)); replace HB := df bO hb; clear hb hbox hg) | ((with_reducible refine bf (N := 11) rfl ?_); refine Kd.fU (Kd.int .i64) _ 2 ?hg (N := 11) ?hd (xs := ([] : List Int)) (inner := []) (ok := fun _ => True) (okp := fun _ => True) ?hr ?hp (fun _ hk => hk) trivial (Below.refl _ _) (Nat.le_refl _) (by simp) ?_; (case hd => rfl); (case hg => rfl); (case hr => first | (go_simp; done) | (go_simp; rfl)); (case hp => exact (dm.none _ _)); intro M3 w5 ho6 hb hg_ hnew_; clear hg_ hnew_; (first | rw [← D5.out] at ho6 | (simp only [Int.reduceToNat] at ho6; rw [← D5.out] at ho6)); have C4 := a_ (Kd.bu ho6 (af mO)); replace BK351 := bb_ A5 BK351 hb; replace HB := df mO hb; clear hb ho6; obtain ⟨G0, G1, G2, G3, G4, G5, G6, G7, G8, G9⟩ := eH (w := w5) BK351.out) | (go_at_call 44; (with_reducible refine (aA.calls k a0_0 a0_1 a1 A4 _ A3.out).mono ?_); rintro e w8 ⟨M4, rfl, ho0, hb⟩; replace C4 := rl_ C4 hb; have D6 := a_ (Kd.bu ho0 (af mO)); replace BK351 := bb_ A5 BK351 hb; replace HB := df mO hb; (try clear hb); (try clear ho0); obtain ⟨O1, M5, M6⟩ := Kd.bg D6.out; subst M6)))
 go_loopg [5, 19] k (fun kq v5 v19 w' => ∃ (C3 : List Int) (A1 : Int), v19 = .int .i64 A1 ∧ ah (aQ.l0 kq C3 A4 (A4.length : Int) A1 a0_0 a0_1 l0_2 l0_3 l0_4 = some r) ∧ ah (kq ≤ k) ∧ ah (Kd.R (Kd.int .i64) 2 w' w.heap.size (fun _ => True) v5 C3) ∧ ah (Kd.R k64 64 w' w.heap.size (fun _ => True) (.slice O1 A4.length M5) A4) ∧ ah (w'.heap[A5]? = some (.cells #[.int .i64 a0_0, .int .i64 a0_1, (.slice H4 l0_2.length D0), (.slice H5 l0_3.length D1), (.slice D4 l0_4.length D2)] 28 (0, 0))) ∧ ah (Below w.heap.size w w'))
 case atStart => exact ⟨(M2), (0), bZ, H', ⟨Nat.le_refl _⟩, ⟨by (with_reducible repeat (first | apply Kd.aC | apply Kd.aD | apply Kd.az)); exact C4.out⟩, ⟨by (with_reducible repeat (first | apply Kd.aC | apply Kd.aD | apply Kd.az)); exact D6.out⟩, ⟨xZ⟩, ⟨mO⟩⟩
 case round =>
  clear H'
  try clear G0 G1 G2 G3 G4; try clear G5 G6 G7 G8 G9
  obtain ⟨C3, A1, rfl, HA, HK1, HO_5, A6, BK351, HB⟩ := hrel
  cases gk with
  | zero => exact absurd HA.out (by simp [aQ.l0])
  | succ k1 =>
   have H := HA.out
   clear HA
   simp only [aQ.l0] at H
   by_cases c10 : A1 < (A4.length : Int)
   ·rw [if_pos c10] at H
    have L7 := decide_eq_true c10
    clear c10
    replace H := ig_ H; obtain ⟨c11, H⟩ := H
    have M7 := decide_eq_true c11
    clear c11
    replace H := ig_ H; obtain ⟨c12, H⟩ := H
    have M8 := decide_eq_true c12
    clear c12
    replace H := bo_ H; obtain ⟨B4, O2, H⟩ := H; (try dsimp only at H)
    replace H := ig_ H; obtain ⟨c14, H⟩ := H
    have M9 := decide_eq_true c14
    clear c14
    replace H := ig_ H; obtain ⟨c15, H⟩ := H
    have N0 := decide_eq_true c15
    clear c15
    replace H := bo_ H; obtain ⟨C2, O3, H⟩ := H; (try dsimp only at H)
    replace H := ig_ H; obtain ⟨c17, H⟩ := H
    have N1 := decide_eq_true c17
    clear c17
    replace H := ig_ H; obtain ⟨c18, H⟩ := H
    have N2 := decide_eq_true c18
    clear c18
    replace H := bo_ H; obtain ⟨I8, O4, H⟩ := H; (try dsimp only at H)
    have L9 := a_ H
    clear H
    have I9 : 0 ≤ (A1 : Int) := of_decide_eq_true aG
    have J0 : A1 < (A4.length : Int) := of_decide_eq_true aG
    obtain ⟨L8, O5, J1, J2, J3, J4⟩ := qP (Kd.aH A6.out).2.2 A1 I9 J0
    cases O5
    replace I9 := eq_true I9
    replace J0 := eq_true J0
    go_upto_if 47 with (first | ((with_reducible refine bf (N := 7) rfl ?_); refine cz ?hg (N := 7) ?hd (cs := #[.int .i64 0, .int .i64 0, .bool false, .bool false]) (t := 64) ?hr ?_; (case hd => rfl); (case hg => rfl); (case hr => first | (go_simp; done) | (go_simp; rfl)); intro A2 hg H0 hbox hb; replace HO_5 := rl_ HO_5 hb; replace A6 := a_ (Kd.dN (Kd.jL (ra_ A6.out) A2 (Nat.le_of_eq hg.symm)) hb); have BK359 := a_ (hbox); have A7 := a_ ((xR : w.heap.size ≤ A2)); have GE359 := a_ ((xR : w.heap.size ≤ A2)); replace HB := df mO hb; have A8 := a_ ((by rw [hg]; exact Nat.ne_of_lt (fF (g := A5) (rb_ BK351.out)) : A5 ≠ A2)); have C1 := a_ ((by rw [hg]; exact Nat.ne_of_gt (fF (g := A5) (rb_ BK351.out)) : A2 ≠ A5)); replace BK351 := bb_ A5 BK351 hb; clear hb hbox hg; have hnb22 := C1.out; have hnc22 := A8.out; obtain ⟨D8, D9, E0, E1, E2, E3, E4, E5⟩ := oz (w := H0) BK359.out; obtain ⟨E6, E7, E8, E9, F0, F1, F2, F3, F4, F5⟩ := eH (w := H0) BK351.out) | (go_at_call 46; (with_reducible refine (gG.calls a0_0 ((aa A4 A1).f0) ((aa A4 A1).f1) B4 _ O2.out).mono ?_); rintro e w' ⟨rfl, ⟨nd, rfl⟩⟩; (try first | exact ⟨rfl, _, World.drewN_drewN _ _ _⟩ | exact ⟨rfl, _, Eq.trans (World.drewN_drewN _ _ _) (congrArg (World.drewN _) (Nat.add_assoc _ _ _))⟩); have C5 : 0 ≤ (B4 : Int) := of_decide_eq_true aG; have C6 : B4 < (l0_2.length : Int) := of_decide_eq_true aG; obtain ⟨B0, H9, hx361_0⟩ := Kd.dM H6.out B4 C5 C6; cases H9; have hn361_0 : B0.block ≠ A2 := Nat.ne_of_lt (Nat.lt_of_lt_of_le lW A7.out); have hn361_1 : B0.block ≠ A2 := Nat.ne_of_lt (Nat.lt_of_lt_of_le lW A7.out); have hn361_2 : B0.block ≠ A2 := Nat.ne_of_lt (Nat.lt_of_lt_of_le lW A7.out); have hn361_3 : B0.block ≠ A2 := Nat.ne_of_lt (Nat.lt_of_lt_of_le lW A7.out); replace hx361_0 := (HB.out.cell (World.block_lt_of_cell? _ _ hx361_0)).trans hx361_0; replace hx361_0 := (cell_far (p := ⟨A2, 0, none⟩) BI (.int .i64 ((aa A4 A1).f0))).trans hx361_0; replace hx361_0 := (cell_far (p := ⟨A2, 1, none⟩) BJ (.int .i64 ((aa A4 A1).f1))).trans hx361_0; replace hx361_0 := (cell_far (p := ⟨A2, 2, none⟩) BL (.bool ((aa A4 A1).f2))).trans hx361_0; replace hx361_0 := (cell_far (p := ⟨A2, 3, none⟩) BM (.bool ((aa A4 A1).f3))).trans hx361_0; (try have H2 := fun (n_ : Nat) => (show ((((((H0.drewN n_).setCell ⟨A2, 0, none⟩ (.int .i64 ((aa A4 A1).f0))).setCell ⟨A2, 1, none⟩ (.int .i64 ((aa A4 A1).f1))).setCell ⟨A2, 2, none⟩ (.bool ((aa A4 A1).f2))).setCell ⟨A2, 3, none⟩ (.bool ((aa A4 A1).f3)))).cell? _ = some _ from hx361_0)); clear hn361_0; clear hn361_1; clear hn361_2; clear hn361_3; replace C5 := eq_true C5; replace C6 := eq_true C6) | (go_at_call 47; (with_reducible refine (gP.calls a0_0 ((aa A4 A1).f0) ((aa A4 A1).f1) C2 _ O3.out).mono ?_); rintro e w' ⟨rfl, ⟨nd, rfl⟩⟩; (try first | exact ⟨rfl, _, World.drewN_drewN _ _ _⟩ | exact ⟨rfl, _, Eq.trans (World.drewN_drewN _ _ _) (congrArg (World.drewN _) (Nat.add_assoc _ _ _))⟩); have C7 : 0 ≤ (C2 : Int) := of_decide_eq_true aG; have C8 : C2 < (l0_3.length : Int) := of_decide_eq_true aG; obtain ⟨B3, I0, hx363_0⟩ := Kd.dM H7.out C2 C7 C8; cases I0; have hn363_0 : B3.block ≠ A2 := Nat.ne_of_lt (Nat.lt_of_lt_of_le lX A7.out); have hn363_1 : B3.block ≠ A2 := Nat.ne_of_lt (Nat.lt_of_lt_of_le lX A7.out); have hn363_2 : B3.block ≠ A2 := Nat.ne_of_lt (Nat.lt_of_lt_of_le lX A7.out); have hn363_3 : B3.block ≠ A2 := Nat.ne_of_lt (Nat.lt_of_lt_of_le lX A7.out); replace hx363_0 := (HB.out.cell (World.block_lt_of_cell? _ _ hx363_0)).trans hx363_0; replace hx363_0 := (cell_far (p := ⟨A2, 0, none⟩) BN (.int .i64 ((aa A4 A1).f0))).trans hx363_0; replace hx363_0 := (cell_far (p := ⟨A2, 1, none⟩) BO (.int .i64 ((aa A4 A1).f1))).trans hx363_0; replace hx363_0 := (cell_far (p := ⟨A2, 2, none⟩) BP (.bool ((aa A4 A1).f2))).trans hx363_0; replace hx363_0 := (cell_far (p := ⟨A2, 3, none⟩) BQ (.bool ((aa A4 A1).f3))).trans hx363_0; (try have H3 := fun (n_ : Nat) => (show ((((((H0.drewN n_).setCell ⟨A2, 0, none⟩ (.int .i64 ((aa A4 A1).f0))).setCell ⟨A2, 1, none⟩ (.int .i64 ((aa A4 A1).f1))).setCell ⟨A2, 2, none⟩ (.bool ((aa A4 A1).f2))).setCell ⟨A2, 3, none⟩ (.bool ((aa A4 A1).f3)))).cell? _ = some _ from hx363_0)); clear hn363_0; clear hn363_1; clear hn363_2; clear hn363_3; replace C7 := eq_true C7; replace C8 := eq_true C8) | (go_at_call 45; (with_reducible refine (iA.calls ((aa A4 A1).f0) ((aa A4 A1).f1) ((aa A4 A1).f2) ((aa A4 A1).f3) I8 _ O4.out).mono ?_); rintro e P2 ⟨rfl, hb⟩; replace HO_5 := a_ (Kd.dN (rc_ (h := by exact Kd.ae (uF HO_5.out BK359.out) (fun _ h_ => h_.1))) hb); replace A6 := a_ (Kd.dN (rc_ (h := by exact Kd.ae (Kd.bV (p := ⟨A2, 3, none⟩) (Kd.bV (p := ⟨A2, 2, none⟩) (Kd.bV (p := ⟨A2, 1, none⟩) (Kd.bV (p := ⟨A2, 0, none⟩) (Kd.ae A6.out (fun k_ hk => (⟨hk, hk.2⟩ : _ ∧ k_ ≠ A2))) (fun _ hk => hk.2) (.int .i64 ((aa A4 A1).f0))) (fun _ hk => hk.2) (.int .i64 ((aa A4 A1).f1))) (fun _ hk => hk.2) (.bool ((aa A4 A1).f2))) (fun _ hk => hk.2) (.bool ((aa A4 A1).f3))) (fun _ h_ => h_.1))) hb); replace BK351 := a_ (dS (g := A5) (o := .cells #[.int .i64 a0_0, .int .i64 a0_1, .slice (some B0) l0_2.length D0, .slice (some B3) l0_3.length D1, .slice D4 l0_4.length D2] 28 (0, 0)) (iI (h := by exact uP A8.out BK351.out)) hb); replace BK359 := a_ (dS (g := A2) (o := .cells #[.int .i64 ((aa A4 A1).f0), .int .i64 ((aa A4 A1).f1), .bool ((aa A4 A1).f2), .bool ((aa A4 A1).f3)] 64 (0, 0)) (iI (h := by exact nS BK359.out)) hb); replace HB := df lH hb; (try clear hb); (try clear hk)))
    repeat (go_quiet (first | ((with_reducible refine bf (N := 7) rfl ?_); refine cz ?hg (N := 7) ?hd (cs := #[.int .i64 0, .int .i64 0, .bool false, .bool false]) (t := 64) ?hr ?_; (case hd => rfl); (case hg => rfl); (case hr => first | (go_simp; done) | (go_simp; rfl)); intro A2 hg H0 hbox hb; replace HO_5 := rl_ HO_5 hb; replace A6 := a_ (Kd.dN (Kd.jL (ra_ A6.out) A2 (Nat.le_of_eq hg.symm)) hb); have BK359 := a_ (hbox); have A7 := a_ ((xR : w.heap.size ≤ A2)); have GE359 := a_ ((xR : w.heap.size ≤ A2)); replace HB := df mO hb; have A8 := a_ ((by rw [hg]; exact Nat.ne_of_lt (fF (g := A5) (rb_ BK351.out)) : A5 ≠ A2)); have C1 := a_ ((by rw [hg]; exact Nat.ne_of_gt (fF (g := A5) (rb_ BK351.out)) : A2 ≠ A5)); replace BK351 := bb_ A5 BK351 hb; clear hb hbox hg; have hnb22 := C1.out; have hnc22 := A8.out; obtain ⟨D8, D9, E0, E1, E2, E3, E4, E5⟩ := oz (w := H0) BK359.out; obtain ⟨E6, E7, E8, E9, F0, F1, F2, F3, F4, F5⟩ := eH (w := H0) BK351.out) | (go_at_call 46; (with_reducible refine (gG.calls a0_0 ((aa A4 A1).f0) ((aa A4 A1).f1) B4 _ O2.out).mono ?_); rintro e w' ⟨rfl, ⟨nd, rfl⟩⟩; (try first | exact ⟨rfl, _, World.drewN_drewN _ _ _⟩ | exact ⟨rfl, _, Eq.trans (World.drewN_drewN _ _ _) (congrArg (World.drewN _) (Nat.add_assoc _ _ _))⟩); have C5 : 0 ≤ (B4 : Int) := of_decide_eq_true aG; have C6 : B4 < (l0_2.length : Int) := of_decide_eq_true aG; obtain ⟨B0, H9, hx361_0⟩ := Kd.dM H6.out B4 C5 C6; cases H9; have hn361_0 : B0.block ≠ A2 := Nat.ne_of_lt (Nat.lt_of_lt_of_le lW A7.out); have hn361_1 : B0.block ≠ A2 := Nat.ne_of_lt (Nat.lt_of_lt_of_le lW A7.out); have hn361_2 : B0.block ≠ A2 := Nat.ne_of_lt (Nat.lt_of_lt_of_le lW A7.out); have hn361_3 : B0.block ≠ A2 := Nat.ne_of_lt (Nat.lt_of_lt_of_le lW A7.out); replace hx361_0 := (HB.out.cell (World.block_lt_of_cell? _ _ hx361_0)).trans hx361_0; replace hx361_0 := (cell_far (p := ⟨A2, 0, none⟩) BI (.int .i64 ((aa A4 A1).f0))).trans hx361_0; replace hx361_0 := (cell_far (p := ⟨A2, 1, none⟩) BJ (.int .i64 ((aa A4 A1).f1))).trans hx361_0; replace hx361_0 := (cell_far (p := ⟨A2, 2, none⟩) BL (.bool ((aa A4 A1).f2))).trans hx361_0; replace hx361_0 := (cell_far (p := ⟨A2, 3, none⟩) BM (.bool ((aa A4 A1).f3))).trans hx361_0; (try have H2 := fun (n_ : Nat) => (show ((((((H0.drewN n_).setCell ⟨A2, 0, none⟩ (.int .i64 ((aa A4 A1).f0))).setCell ⟨A2, 1, none⟩ (.int .i64 ((aa A4 A1).f1))).setCell ⟨A2, 2, none⟩ (.bool ((aa A4 A1).f2))).setCell ⟨A2, 3, none⟩ (.bool ((aa A4 A1).f3)))).cell? _ = some _ from hx361_0)); clear hn361_0; clear hn361_1; clear hn361_2; clear hn361_3; replace C5 := eq_true C5; replace C6 := eq_true C6) | (go_at_call 47; (with_reducible refine (gP.calls a0_0 ((aa A4 A1).f0) ((aa A4 A1).f1) C2 _ O3.out).mono ?_); rintro e w' ⟨rfl, ⟨nd, rfl⟩⟩; (try first | exact ⟨rfl, _, World.drewN_drewN _ _ _⟩ | exact ⟨rfl, _, Eq.trans (World.drewN_drewN _ _ _) (congrArg (World.drewN _) (Nat.add_assoc _ _ _))⟩); have C7 : 0 ≤ (C2 : Int) := of_decide_eq_true aG; have C8 : C2 < (l0_3.length : Int) := of_decide_eq_true aG; obtain ⟨B3, I0, hx363_0⟩ := Kd.dM H7.out C2 C7 C8; cases I0; have hn363_0 : B3.block ≠ A2 := Nat.ne_of_lt (Nat.lt_of_lt_of_le lX A7.out); have hn363_1 : B3.block ≠ A2 := Nat.ne_of_lt (Nat.lt_of_lt_of_le lX A7.out); have hn363_2 : B3.block ≠ A2 := Nat.ne_of_lt (Nat.lt_of_lt_of_le lX A7.out); have hn363_3 : B3.block ≠ A2 := Nat.ne_of_lt (Nat.lt_of_lt_of_le lX A7.out); replace hx363_0 := (HB.out.cell (World.block_lt_of_cell? _ _ hx363_0)).trans hx363_0; replace hx363_0 := (cell_far (p := ⟨A2, 0, none⟩) BN (.int .i64 ((aa A4 A1).f0))).trans hx363_0; replace hx363_0 := (cell_far (p := ⟨A2, 1, none⟩) BO (.int .i64 ((aa A4 A1).f1))).trans hx363_0; replace hx363_0 := (cell_far (p := ⟨A2, 2, none⟩) BP (.bool ((aa A4 A1).f2))).trans hx363_0; replace hx363_0 := (cell_far (p := ⟨A2, 3, none⟩) BQ (.bool ((aa A4 A1).f3))).trans hx363_0; (try have H3 := fun (n_ : Nat) => (show ((((((H0.drewN n_).setCell ⟨A2, 0, none⟩ (.int .i64 ((aa A4 A1).f0))).setCell ⟨A2, 1, none⟩ (.int .i64 ((aa A4 A1).f1))).setCell ⟨A2, 2, none⟩ (.bool ((aa A4 A1).f2))).setCell ⟨A2, 3, none⟩ (.bool ((aa A4 A1).f3)))).cell? _ = some _ from hx363_0)); clear hn363_0; clear hn363_1; clear hn363_2; clear hn363_3; replace C7 := eq_true C7; replace C8 := eq_true C8) | (go_at_call 45; (with_reducible refine (iA.calls ((aa A4 A1).f0) ((aa A4 A1).f1) ((aa A4 A1).f2) ((aa A4 A1).f3) I8 _ O4.out).mono ?_); rintro e P2 ⟨rfl, hb⟩; replace HO_5 := a_ (Kd.dN (rc_ (h := by exact Kd.ae (uF HO_5.out BK359.out) (fun _ h_ => h_.1))) hb); replace A6 := a_ (Kd.dN (rc_ (h := by exact Kd.ae (Kd.bV (p := ⟨A2, 3, none⟩) (Kd.bV (p := ⟨A2, 2, none⟩) (Kd.bV (p := ⟨A2, 1, none⟩) (Kd.bV (p := ⟨A2, 0, none⟩) (Kd.ae A6.out (fun k_ hk => (⟨hk, hk.2⟩ : _ ∧ k_ ≠ A2))) (fun _ hk => hk.2) (.int .i64 ((aa A4 A1).f0))) (fun _ hk => hk.2) (.int .i64 ((aa A4 A1).f1))) (fun _ hk => hk.2) (.bool ((aa A4 A1).f2))) (fun _ hk => hk.2) (.bool ((aa A4 A1).f3))) (fun _ h_ => h_.1))) hb); replace BK351 := a_ (dS (g := A5) (o := .cells #[.int .i64 a0_0, .int .i64 a0_1, .slice (some B0) l0_2.length D0, .slice (some B3) l0_3.length D1, .slice D4 l0_4.length D2] 28 (0, 0)) (iI (h := by exact uP A8.out BK351.out)) hb); replace BK359 := a_ (dS (g := A2) (o := .cells #[.int .i64 ((aa A4 A1).f0), .int .i64 ((aa A4 A1).f1), .bool ((aa A4 A1).f2), .bool ((aa A4 A1).f3)] 64 (0, 0)) (iI (h := by exact nS BK359.out)) hb); replace HB := df lH hb; (try clear hb); (try clear hk))); go_upto_if 47 with (first | ((with_reducible refine bf (N := 7) rfl ?_); refine cz ?hg (N := 7) ?hd (cs := #[.int .i64 0, .int .i64 0, .bool false, .bool false]) (t := 64) ?hr ?_; (case hd => rfl); (case hg => rfl); (case hr => first | (go_simp; done) | (go_simp; rfl)); intro A2 hg H0 hbox hb; replace HO_5 := rl_ HO_5 hb; replace A6 := a_ (Kd.dN (Kd.jL (ra_ A6.out) A2 (Nat.le_of_eq hg.symm)) hb); have BK359 := a_ (hbox); have A7 := a_ ((xR : w.heap.size ≤ A2)); have GE359 := a_ ((xR : w.heap.size ≤ A2)); replace HB := df mO hb; have A8 := a_ ((by rw [hg]; exact Nat.ne_of_lt (fF (g := A5) (rb_ BK351.out)) : A5 ≠ A2)); have C1 := a_ ((by rw [hg]; exact Nat.ne_of_gt (fF (g := A5) (rb_ BK351.out)) : A2 ≠ A5)); replace BK351 := bb_ A5 BK351 hb; clear hb hbox hg; have hnb22 := C1.out; have hnc22 := A8.out; obtain ⟨D8, D9, E0, E1, E2, E3, E4, E5⟩ := oz (w := H0) BK359.out; obtain ⟨E6, E7, E8, E9, F0, F1, F2, F3, F4, F5⟩ := eH (w := H0) BK351.out) | (go_at_call 46; (with_reducible refine (gG.calls a0_0 ((aa A4 A1).f0) ((aa A4 A1).f1) B4 _ O2.out).mono ?_); rintro e w' ⟨rfl, ⟨nd, rfl⟩⟩; (try first | exact ⟨rfl, _, World.drewN_drewN _ _ _⟩ | exact ⟨rfl, _, Eq.trans (World.drewN_drewN _ _ _) (congrArg (World.drewN _) (Nat.add_assoc _ _ _))⟩); have C5 : 0 ≤ (B4 : Int) := of_decide_eq_true aG; have C6 : B4 < (l0_2.length : Int) := of_decide_eq_true aG; obtain ⟨B0, H9, hx361_0⟩ := Kd.dM H6.out B4 C5 C6; cases H9; have hn361_0 : B0.block ≠ A2 := Nat.ne_of_lt (Nat.lt_of_lt_of_le lW A7.out); have hn361_1 : B0.block ≠ A2 := Nat.ne_of_lt (Nat.lt_of_lt_of_le lW A7.out); have hn361_2 : B0.block ≠ A2 := Nat.ne_of_lt (Nat.lt_of_lt_of_le lW A7.out); have hn361_3 : B0.block ≠ A2 := Nat.ne_of_lt (Nat.lt_of_lt_of_le lW A7.out); replace hx361_0 := (HB.out.cell (World.block_lt_of_cell? _ _ hx361_0)).trans hx361_0; replace hx361_0 := (cell_far (p := ⟨A2, 0, none⟩) BI (.int .i64 ((aa A4 A1).f0))).trans hx361_0; replace hx361_0 := (cell_far (p := ⟨A2, 1, none⟩) BJ (.int .i64 ((aa A4 A1).f1))).trans hx361_0; replace hx361_0 := (cell_far (p := ⟨A2, 2, none⟩) BL (.bool ((aa A4 A1).f2))).trans hx361_0; replace hx361_0 := (cell_far (p := ⟨A2, 3, none⟩) BM (.bool ((aa A4 A1).f3))).trans hx361_0; (try have H2 := fun (n_ : Nat) => (show ((((((H0.drewN n_).setCell ⟨A2, 0, none⟩ (.int .i64 ((aa A4 A1).f0))).setCell ⟨A2, 1, none⟩ (.int .i64 ((aa A4 A1).f1))).setCell ⟨A2, 2, none⟩ (.bool ((aa A4 A1).f2))).setCell ⟨A2, 3, none⟩ (.bool ((aa A4 A1).f3)))).cell? _ = some _ from hx361_0)); clear hn361_0; clear hn361_1; clear hn361_2; clear hn361_3; replace C5 := eq_true C5; replace C6 := eq_true C6) | (go_at_call 47; (with_reducible refine (gP.calls a0_0 ((aa A4 A1).f0) ((aa A4 A1).f1) C2 _ O3.out).mono ?_); rintro e w' ⟨rfl, ⟨nd, rfl⟩⟩; (try first | exact ⟨rfl, _, World.drewN_drewN _ _ _⟩ | exact ⟨rfl, _, Eq.trans (World.drewN_drewN _ _ _) (congrArg (World.drewN _) (Nat.add_assoc _ _ _))⟩); have C7 : 0 ≤ (C2 : Int) := of_decide_eq_true aG; have C8 : C2 < (l0_3.length : Int) := of_decide_eq_true aG; obtain ⟨B3, I0, hx363_0⟩ := Kd.dM H7.out C2 C7 C8; cases I0; have hn363_0 : B3.block ≠ A2 := Nat.ne_of_lt (Nat.lt_of_lt_of_le lX A7.out); have hn363_1 : B3.block ≠ A2 := Nat.ne_of_lt (Nat.lt_of_lt_of_le lX A7.out); have hn363_2 : B3.block ≠ A2 := Nat.ne_of_lt (Nat.lt_of_lt_of_le lX A7.out); have hn363_3 : B3.block ≠ A2 := Nat.ne_of_lt (Nat.lt_of_lt_of_le lX A7.out); replace hx363_0 := (HB.out.cell (World.block_lt_of_cell? _ _ hx363_0)).trans hx363_0; replace hx363_0 := (cell_far (p := ⟨A2, 0, none⟩) BN (.int .i64 ((aa A4 A1).f0))).trans hx363_0; replace hx363_0 := (cell_far (p := ⟨A2, 1, none⟩) BO (.int .i64 ((aa A4 A1).f1))).trans hx363_0; replace hx363_0 := (cell_far (p := ⟨A2, 2, none⟩) BP (.bool ((aa A4 A1).f2))).trans hx363_0; replace hx363_0 := (cell_far (p := ⟨A2, 3, none⟩) BQ (.bool ((aa A4 A1).f3))).trans hx363_0; (try have H3 := fun (n_ : Nat) => (show ((((((H0.drewN n_).setCell ⟨A2, 0, none⟩ (.int .i64 ((aa A4 A1).f0))).setCell ⟨A2, 1, none⟩ (.int .i64 ((aa A4 A1).f1))).setCell ⟨A2, 2, none⟩ (.bool ((aa A4 A1).f2))).setCell ⟨A2, 3, none⟩ (.bool ((aa A4 A1).f3)))).cell? _ = some _ from hx363_0)); clear hn363_0; clear hn363_1; clear hn363_2; clear hn363_3; replace C7 := eq_true C7; replace C8 := eq_true C8) | (go_at_call 45; (with_reducible refine (iA.calls ((aa A4 A1).f0) ((aa A4 A1).f1) ((aa A4 A1).f2) ((aa A4 A1).f3) I8 _ O4.out).mono ?_); rintro e P2 ⟨rfl, hb⟩; replace HO_5 := a_ (Kd.dN (rc_ (h := by exact Kd.ae (uF HO_5.out BK359.out) (fun _ h_ => h_.1))) hb); replace A6 := a_ (Kd.dN (rc_ (h := by exact Kd.ae (Kd.bV (p := ⟨A2, 3, none⟩) (Kd.bV (p := ⟨A2, 2, none⟩) (Kd.bV (p := ⟨A2, 1, none⟩) (Kd.bV (p := ⟨A2, 0, none⟩) (Kd.ae A6.out (fun k_ hk => (⟨hk, hk.2⟩ : _ ∧ k_ ≠ A2))) (fun _ hk => hk.2) (.int .i64 ((aa A4 A1).f0))) (fun _ hk => hk.2) (.int .i64 ((aa A4 A1).f1))) (fun _ hk => hk.2) (.bool ((aa A4 A1).f2))) (fun _ hk => hk.2) (.bool ((aa A4 A1).f3))) (fun _ h_ => h_.1))) hb); replace BK351 := a_ (dS (g := A5) (o := .cells #[.int .i64 a0_0, .int .i64 a0_1, .slice (some B0) l0_2.length D0, .slice (some B3) l0_3.length D1, .slice D4 l0_4.length D2] 28 (0, 0)) (iI (h := by exact uP A8.out BK351.out)) hb); replace BK359 := a_ (dS (g := A2) (o := .cells #[.int .i64 ((aa A4 A1).f0), .int .i64 ((aa A4 A1).f1), .bool ((aa A4 A1).f2), .bool ((aa A4 A1).f3)] 64 (0, 0)) (iI (h := by exact nS BK359.out)) hb); replace HB := df lH hb; (try clear hb); (try clear hk))))
    (try simp only [Act.put, List.setIfInBounds_toArray, List.set_cons_zero, List.set_cons_succ])
    go_cut [9, 10] (fun v9 v10 wc => ∃ (kq : Nat) (F7 : Int) (D3 : Int), v9 = .int .i64 F7 ∧ v10 = .int .i64 D3 ∧ ah (aQ.j1 kq C3 B4 F7 D3 A4 (A4.length : Int) A1 a0_0 a0_1 l0_2 l0_3 l0_4 ((aa A4 A1).f0) ((aa A4 A1).f1) ((aa A4 A1).f2) ((aa A4 A1).f3) = some r) ∧ ah (kq ≤ k1) ∧ ah (Kd.R (Kd.int .i64) 2 wc w.heap.size (fun _ => True) u5 C3) ∧ ah (Kd.R k64 64 wc w.heap.size (fun k_ => k_ ≠ A2) (.slice (some L8) A4.length M5) A4) ∧ ah (wc.heap[A5]? = some (.cells #[.int .i64 a0_0, .int .i64 a0_1, (.slice (some B0) l0_2.length D0), (.slice (some B3) l0_3.length D1), (.slice D4 l0_4.length D2)] 28 (0, 0))) ∧ ah (wc.heap[A2]? = some (.cells #[.int .i64 ((aa A4 A1).f0), .int .i64 ((aa A4 A1).f1), .bool ((aa A4 A1).f2), .bool ((aa A4 A1).f3)] 64 (0, 0))) ∧ ah (Below w.heap.size w wc))
    case first =>
     have H := L9.out
     clear L9
     by_cases c26 : I8 = true
     ·subst c26
      have H1 : (aQ.j1 k1 C3 B4 (rd l0_3 C2) (rd l0_2 B4) A4 (A4.length : Int) A1 a0_0 a0_1 l0_2 l0_3 l0_4 ((aa A4 A1).f0) ((aa A4 A1).f1) ((aa A4 A1).f2) ((aa A4 A1).f3)) = some r := by rw [if_pos rfl] at H; exact H
      clear H
      have H := H1
      clear H1
      have H' := a_ H
      clear H
      go_wp2
      repeat (go_quiet (fail); try go_wp2)
      go_meet
      case rel => exact ⟨_, (rd l0_3 C2), (rd l0_2 B4), bZ, bZ, H', ⟨nO⟩, ⟨lG⟩, ⟨by (with_reducible repeat (first | apply Kd.aC | apply Kd.aD | apply Kd.az)); exact Kd.ae A6.out (fun _ hk => hk.2)⟩, ⟨xZ⟩, ⟨Ae⟩, ⟨lH⟩⟩
     ·replace c26 := Bool.eq_false_iff.mpr c26
      subst c26
      have H1 : (aQ.j1 k1 C3 B4 (rd l0_2 B4) (rd l0_3 C2) A4 (A4.length : Int) A1 a0_0 a0_1 l0_2 l0_3 l0_4 ((aa A4 A1).f0) ((aa A4 A1).f1) ((aa A4 A1).f2) ((aa A4 A1).f3)) = some r := by rw [if_neg (show ¬ (false = true) by decide)] at H; exact H
      clear H
      have H := H1
      clear H1
      have H' := a_ H
      clear H
      go_wp2
      repeat (go_quiet (fail); try go_wp2)
      go_meet
      case rel => exact ⟨_, (rd l0_2 B4), (rd l0_3 C2), bZ, bZ, H', ⟨nO⟩, ⟨lG⟩, ⟨by (with_reducible repeat (first | apply Kd.aC | apply Kd.aD | apply Kd.az)); exact Kd.ae A6.out (fun _ hk => hk.2)⟩, ⟨xZ⟩, ⟨Ae⟩, ⟨lH⟩⟩
    case rest =>
     clear L9; try clear L7; try clear M7; try clear M8; try clear M9; try clear N0; try clear N1; try clear N2; try clear D8 D9 E0 E1; try clear E6 E7 E8 E9 F0; try clear E2 E3 E4 E5; try clear F1 F2 F3 F4 F5; try clear J1; try clear J2; try clear J3; try clear J4; try clear hx361_0; try clear hx363_0; try clear I9; try clear C5; try clear C7; try clear J0; try clear C6; try clear C8
     obtain ⟨kq, F7, D3, rfl, rfl, HA, J5, HO_5, A6, BK351, BK359, HB⟩ := hcut
     cases kq with
     | zero => exact absurd HA.out (by simp [aQ.j1])
     | succ O6 =>
      have H := HA.out
      clear HA
      simp only [aQ.j1] at H
      replace H := ig_ H; obtain ⟨c27, H⟩ := H
      have N3 := decide_eq_true c27
      clear c27
      replace H := ig_ H; obtain ⟨c28, H⟩ := H
      have N4 := decide_eq_true c28
      clear c28
      replace H := bo_ H; obtain ⟨F8, O7, H⟩ := H; (try dsimp only at H)
      have M0 := a_ H
      clear H
      have hnb31 := A8.out
      have hnc31 := C1.out
      obtain ⟨J6, J7, J8, J9, K0, K1, K2, K3, K4, K5⟩ := eH (w := wc) BK351.out
      have K6 : 0 ≤ (B4 : Int) := of_decide_eq_true aG
      have K7 : B4 < (l0_4.length : Int) := of_decide_eq_true aG
      obtain ⟨N5, O8, C9⟩ := Kd.dM HR0_4.out B4 K6 K7
      cases O8
      replace C9 := (HB.out.cell (World.block_lt_of_cell? _ _ C9)).trans C9
      replace K6 := eq_true K6
      replace K7 := eq_true K7
      obtain ⟨K8, K9, L0, L1, L2, L3, L4, L5⟩ := oz (w := wc) BK359.out
      go_upto_if 58 with (first | (go_at_call 48; (with_reducible refine (jG.calls ((aa A4 A1).f3) F8 _ O7.out).mono ?_); rintro e w' ⟨rfl, ⟨nd, rfl⟩⟩; (try first | exact ⟨rfl, _, World.drewN_drewN _ _ _⟩ | exact ⟨rfl, _, Eq.trans (World.drewN_drewN _ _ _) (congrArg (World.drewN _) (Nat.add_assoc _ _ _))⟩)))
      repeat (go_quiet (first | (go_at_call 48; (with_reducible refine (jG.calls ((aa A4 A1).f3) F8 _ O7.out).mono ?_); rintro e w' ⟨rfl, ⟨nd, rfl⟩⟩; (try first | exact ⟨rfl, _, World.drewN_drewN _ _ _⟩ | exact ⟨rfl, _, Eq.trans (World.drewN_drewN _ _ _) (congrArg (World.drewN _) (Nat.add_assoc _ _ _))⟩))); go_upto_if 58 with (first | (go_at_call 48; (with_reducible refine (jG.calls ((aa A4 A1).f3) F8 _ O7.out).mono ?_); rintro e w' ⟨rfl, ⟨nd, rfl⟩⟩; (try first | exact ⟨rfl, _, World.drewN_drewN _ _ _⟩ | exact ⟨rfl, _, Eq.trans (World.drewN_drewN _ _ _) (congrArg (World.drewN _) (Nat.add_assoc _ _ _))⟩))))
      (try simp only [Act.put, List.setIfInBounds_toArray, List.set_cons_zero, List.set_cons_succ])
      go_cut [9, 10] (fun v9 v10 wc => ∃ (kq : Nat) (C0 : Int) (A9 : Int), v9 = .int .i64 C0 ∧ v10 = .int .i64 A9 ∧ ah (aQ.j2 kq C3 C0 A9 A4 (A4.length : Int) A1 a0_0 a0_1 l0_2 l0_3 l0_4 = some r) ∧ ah (kq ≤ O6) ∧ ah (Kd.R (Kd.int .i64) 2 wc w.heap.size (fun _ => True) u5 C3) ∧ ah (Kd.R k64 64 wc w.heap.size (fun k_ => k_ ≠ A2) (.slice (some L8) A4.length M5) A4) ∧ ah (wc.heap[A5]? = some (.cells #[.int .i64 a0_0, .int .i64 a0_1, (.slice (some B0) l0_2.length D0), (.slice (some B3) l0_3.length D1), (.slice (some N5) l0_4.length D2)] 28 (0, 0))) ∧ ah (wc.heap[A2]? = some (.cells #[.int .i64 ((aa A4 A1).f0), .int .i64 ((aa A4 A1).f1), .bool ((aa A4 A1).f2), .bool ((aa A4 A1).f3)] 64 (0, 0))) ∧ ah (Below w.heap.size w wc))
      case first =>
       have H := M0.out
       clear M0
       by_cases c34 : (rd l0_4 B4) = F8
       ·rw [if_pos c34] at H
        have F9 : ((rd l0_4 B4) == F8) = true := beq_iff_eq.mpr c34
        have N6 : ((rd l0_4 B4) != F8) = false := bne_eq_false_iff_eq.mpr c34
        clear c34
        (first | rw [F9] | (simp only [eU, gX]; rw [F9]) | skip)
        have H' := a_ H
        clear H
        go_wp2
        repeat (go_quiet (fail); try go_wp2)
        go_meet
        case rel => exact ⟨_, (F7), (D3), bZ, bZ, H', ⟨by have := HK1.out; have := J5.out; first | omega | exact Nat.le_refl _⟩, ⟨lG⟩, ⟨by (with_reducible repeat (first | apply Kd.aC | apply Kd.aD | apply Kd.az)); exact A6.out⟩, ⟨xZ⟩, ⟨Ae⟩, ⟨lH⟩⟩
       rw [if_neg c34] at H
       have F9 : ((rd l0_4 B4) == F8) = false := beq_eq_false_iff_ne.mpr c34
       have N6 : ((rd l0_4 B4) != F8) = true := bne_iff_ne.mpr c34
       (first | rw [F9] | (simp only [eU, gX]; rw [F9]) | skip)
       have H' := a_ H
       clear H
       go_wp2
       repeat (go_quiet (fail); try go_wp2)
       go_meet
       case rel => exact ⟨_, (wrap64 (-F7)), (wrap64 (-D3)), bZ, bZ, H', ⟨by have := HK1.out; have := J5.out; first | omega | exact Nat.le_refl _⟩, ⟨lG⟩, ⟨by (with_reducible repeat (first | apply Kd.aC | apply Kd.aD | apply Kd.az)); exact A6.out⟩, ⟨xZ⟩, ⟨Ae⟩, ⟨lH⟩⟩
      case rest =>
       clear M0; try clear N3; try clear N4; try clear J6 J7 J8 J9 K0; try clear K8 K9 L0 L1; try clear K1 K2 K3 K4 K5; try clear L2 L3 L4 L5; try clear C9; try clear K6; try clear K7
       obtain ⟨kq, C0, A9, rfl, rfl, HA, N7, HO_5, A6, BK351, BK359, HB⟩ := hcut
       cases kq with
       | zero => exact absurd HA.out (by simp [aQ.j2])
       | succ M1 =>
        have H := HA.out
        clear HA
        simp only [aQ.j2] at H
        obtain ⟨F6, I1⟩ : ∃ y_ : List Int, y_ = (([C0, A9] : List Int)) := ⟨_, rfl⟩
        replace H : (if C3.length + F6.length < 17592186044416 then (aQ.l0 M1 (C3 ++ F6) A4 (A4.length : Int) (wrap64 (A1 + 1)) a0_0 a0_1 l0_2 l0_3 l0_4) else (none)) = some r := rh_ I1 H
        have D7 := a_ I1
        clear I1
        replace H := ig_ H; obtain ⟨c35, H⟩ := H
        have LMc35 := a_ c35
        clear c35
        obtain ⟨N8, I2⟩ : ∃ y_ : List Int, y_ = (C3 ++ F6) := ⟨_, rfl⟩
        replace H : (aQ.l0 M1 N8 A4 (A4.length : Int) (wrap64 (A1 + 1)) a0_0 a0_1 l0_2 l0_3 l0_4) = some r := rh_ I2 H
        have I3 := a_ I2
        clear I2
        have H' := a_ H
        clear H
        go_wp2_with (first | ((with_reducible refine bf (N := 66) rfl ?_); refine Kd.fU (Kd.int .i64) _ 2 ?hg (N := 66) ?hd (xs := ([C0, A9] : List Int)) (inner := [.int .i64 C0, .int .i64 A9]) (ok := fun _ => True) (okp := fun _ => True) ?hr ?hp (fun _ hk => hk) trivial (Below.refl _ _) (Nat.le_refl _) (by simp) ?_; (case hd => rfl); (case hg => rfl); (case hr => first | (go_simp; done) | (go_simp; rfl)); (case hp => exact (dm.one (show Kd.M (Kd.int .i64) _ _ _ C0 [.int .i64 C0] from rfl) (dm.one (show Kd.M (Kd.int .i64) _ _ _ A9 [.int .i64 A9] from rfl) (dm.none _ _)))); intro N9 P3 ho37 hb hg_ hnew_; clear hg_ hnew_; (first | rw [← D7.out] at ho37 | (simp only [Int.reduceToNat] at ho37; rw [← D7.out] at ho37)); replace A6 := rl_ A6 hb; have B7 := a_ (Kd.bu (Kd.dF ho37 (Kd.dR (ra_ HO_5.out))) (af lH)); replace HO_5 := a_ (Kd.bB (ra_ HO_5.out) (Kd.bN ho37) hb); replace BK351 := bb_ A5 BK351 hb; replace BK359 := bb_ A2 BK359 hb; replace HB := df lH hb; clear hb ho37; obtain ⟨I4, I5, I6⟩ := Kd.bg B7.out; subst I6) | ((with_reducible refine bF (b := .append) (xs := #[.tmp 63, .tmp 66]) rfl ?_); at_builtin; refine Kd.dO (Kd.int .i64) (w0 := w) w.heap.size rfl (.tmp 63) (.tmp 66) 22 2 (.int .i64 0) 8 rfl Tryz.underlying22 jc rfl (by decide) (by omega) u5 C3 F6 _ _ _ (fun k_ => nb_ k_ I4 F6.length I5) (fun _ => False) rfl rfl ?aO ?aR (fun _ _ h => h) (fun _ h => h.elim) ?aF ?aB ?aS ?aL ?_; (case aR => repeat (first | exact (Kd.aH B7.out).2.2 | (with_reducible refine Kd.dH ?_ _) | (with_reducible refine Kd.dJ ?_ _) | (with_reducible refine Kd.dX ?_))); (case aB => exact lH); (case aF => exact (fun k_ hk => Kd.fe (Kd.dR (ra_ B7.out)) k_ hk)); (case aO => exact (rc_ (h := by exact Kd.ae HO_5.out (fun _ hk => hk.2)))); (case aS => exact (af lH)); (case aL => have := LMc35.out; omega); intro O0 P4 ho hb hg hat; rw [← I3.out] at ho; replace A6 := a_ (Kd.iH (ra_ A6.out) (Kd.fV (ra_ HO_5.out)) (by decide) hg); replace BK351 := a_ (dA (g := A5) (rb_ BK351.out) hg (Kd.gp HO_5.out BK351.out (by decide))); replace BK359 := a_ (dA (g := A2) (rb_ BK359.out) hg (Kd.gp HO_5.out BK359.out (by decide))); replace B7 := a_ (Kd.dn (ok := (fun _ => True)) (ra_ B7.out) hg hat); replace HB := a_ (hb); have I7 := a_ (ho); clear HO_5; clear ho hb hg hat))
        repeat (go_quiet (first | ((with_reducible refine bf (N := 66) rfl ?_); refine Kd.fU (Kd.int .i64) _ 2 ?hg (N := 66) ?hd (xs := ([C0, A9] : List Int)) (inner := [.int .i64 C0, .int .i64 A9]) (ok := fun _ => True) (okp := fun _ => True) ?hr ?hp (fun _ hk => hk) trivial (Below.refl _ _) (Nat.le_refl _) (by simp) ?_; (case hd => rfl); (case hg => rfl); (case hr => first | (go_simp; done) | (go_simp; rfl)); (case hp => exact (dm.one (show Kd.M (Kd.int .i64) _ _ _ C0 [.int .i64 C0] from rfl) (dm.one (show Kd.M (Kd.int .i64) _ _ _ A9 [.int .i64 A9] from rfl) (dm.none _ _)))); intro N9 P3 ho37 hb hg_ hnew_; clear hg_ hnew_; (first | rw [← D7.out] at ho37 | (simp only [Int.reduceToNat] at ho37; rw [← D7.out] at ho37)); replace A6 := rl_ A6 hb; have B7 := a_ (Kd.bu (Kd.dF ho37 (Kd.dR (ra_ HO_5.out))) (af lH)); replace HO_5 := a_ (Kd.bB (ra_ HO_5.out) (Kd.bN ho37) hb); replace BK351 := bb_ A5 BK351 hb; replace BK359 := bb_ A2 BK359 hb; replace HB := df lH hb; clear hb ho37; obtain ⟨I4, I5, I6⟩ := Kd.bg B7.out; subst I6) | ((with_reducible refine bF (b := .append) (xs := #[.tmp 63, .tmp 66]) rfl ?_); at_builtin; refine Kd.dO (Kd.int .i64) (w0 := w) w.heap.size rfl (.tmp 63) (.tmp 66) 22 2 (.int .i64 0) 8 rfl Tryz.underlying22 jc rfl (by decide) (by omega) u5 C3 F6 _ _ _ (fun k_ => nb_ k_ I4 F6.length I5) (fun _ => False) rfl rfl ?aO ?aR (fun _ _ h => h) (fun _ h => h.elim) ?aF ?aB ?aS ?aL ?_; (case aR => repeat (first | exact (Kd.aH B7.out).2.2 | (with_reducible refine Kd.dH ?_ _) | (with_reducible refine Kd.dJ ?_ _) | (with_reducible refine Kd.dX ?_))); (case aB => exact lH); (case aF => exact (fun k_ hk => Kd.fe (Kd.dR (ra_ B7.out)) k_ hk)); (case aO => exact (rc_ (h := by exact Kd.ae HO_5.out (fun _ hk => hk.2)))); (case aS => exact (af lH)); (case aL => have := LMc35.out; omega); intro O0 P4 ho hb hg hat; rw [← I3.out] at ho; replace A6 := a_ (Kd.iH (ra_ A6.out) (Kd.fV (ra_ HO_5.out)) (by decide) hg); replace BK351 := a_ (dA (g := A5) (rb_ BK351.out) hg (Kd.gp HO_5.out BK351.out (by decide))); replace BK359 := a_ (dA (g := A2) (rb_ BK359.out) hg (Kd.gp HO_5.out BK359.out (by decide))); replace B7 := a_ (Kd.dn (ok := (fun _ => True)) (ra_ B7.out) hg hat); replace HB := a_ (hb); have I7 := a_ (ho); clear HO_5; clear ho hb hg hat)); try go_wp2_with (first | ((with_reducible refine bf (N := 66) rfl ?_); refine Kd.fU (Kd.int .i64) _ 2 ?hg (N := 66) ?hd (xs := ([C0, A9] : List Int)) (inner := [.int .i64 C0, .int .i64 A9]) (ok := fun _ => True) (okp := fun _ => True) ?hr ?hp (fun _ hk => hk) trivial (Below.refl _ _) (Nat.le_refl _) (by simp) ?_; (case hd => rfl); (case hg => rfl); (case hr => first | (go_simp; done) | (go_simp; rfl)); (case hp => exact (dm.one (show Kd.M (Kd.int .i64) _ _ _ C0 [.int .i64 C0] from rfl) (dm.one (show Kd.M (Kd.int .i64) _ _ _ A9 [.int .i64 A9] from rfl) (dm.none _ _)))); intro N9 P3 ho37 hb hg_ hnew_; clear hg_ hnew_; (first | rw [← D7.out] at ho37 | (simp only [Int.reduceToNat] at ho37; rw [← D7.out] at ho37)); replace A6 := rl_ A6 hb; have B7 := a_ (Kd.bu (Kd.dF ho37 (Kd.dR (ra_ HO_5.out))) (af lH)); replace HO_5 := a_ (Kd.bB (ra_ HO_5.out) (Kd.bN ho37) hb); replace BK351 := bb_ A5 BK351 hb; replace BK359 := bb_ A2 BK359 hb; replace HB := df lH hb; clear hb ho37; obtain ⟨I4, I5, I6⟩ := Kd.bg B7.out; subst I6) | ((with_reducible refine bF (b := .append) (xs := #[.tmp 63, .tmp 66]) rfl ?_); at_builtin; refine Kd.dO (Kd.int .i64) (w0 := w) w.heap.size rfl (.tmp 63) (.tmp 66) 22 2 (.int .i64 0) 8 rfl Tryz.underlying22 jc rfl (by decide) (by omega) u5 C3 F6 _ _ _ (fun k_ => nb_ k_ I4 F6.length I5) (fun _ => False) rfl rfl ?aO ?aR (fun _ _ h => h) (fun _ h => h.elim) ?aF ?aB ?aS ?aL ?_; (case aR => repeat (first | exact (Kd.aH B7.out).2.2 | (with_reducible refine Kd.dH ?_ _) | (with_reducible refine Kd.dJ ?_ _) | (with_reducible refine Kd.dX ?_))); (case aB => exact lH); (case aF => exact (fun k_ hk => Kd.fe (Kd.dR (ra_ B7.out)) k_ hk)); (case aO => exact (rc_ (h := by exact Kd.ae HO_5.out (fun _ hk => hk.2)))); (case aS => exact (af lH)); (case aL => have := LMc35.out; omega); intro O0 P4 ho hb hg hat; rw [← I3.out] at ho; replace A6 := a_ (Kd.iH (ra_ A6.out) (Kd.fV (ra_ HO_5.out)) (by decide) hg); replace BK351 := a_ (dA (g := A5) (rb_ BK351.out) hg (Kd.gp HO_5.out BK351.out (by decide))); replace BK359 := a_ (dA (g := A2) (rb_ BK359.out) hg (Kd.gp HO_5.out BK359.out (by decide))); replace B7 := a_ (Kd.dn (ok := (fun _ => True)) (ra_ B7.out) hg hat); replace HB := a_ (hb); have I7 := a_ (ho); clear HO_5; clear ho hb hg hat)))
        go_roundg M1
        case measure => have := HK1.out; have := J5.out; have := N7.out; omega
        case rel => exact ⟨(N8), (wrap64 (A1 + 1)), bZ, H', ⟨by have := HK1.out; have := J5.out; have := N7.out; omega⟩, ⟨by (with_reducible repeat (first | apply Kd.aC | apply Kd.aD | apply Kd.az)); exact Kd.ae I7.out (fun _ hk => trivial)⟩, ⟨by (with_reducible repeat (first | apply Kd.aC | apply Kd.aD | apply Kd.az)); exact Kd.ae A6.out (fun _ hk => trivial)⟩, ⟨xZ⟩, ⟨lH⟩⟩
   rw [if_neg c10] at H
   have L7 := decide_eq_false c10
   clear c10
   obtain rfl := Option.some.inj H
   go_wp2
   repeat (go_quiet (fail); try go_wp2)
   go_ret
   exact ⟨_, fO, lG, mO⟩
def aV.l0 : Nat → List Int → Int → Int → Option (Int)
 | 0, _, _, _ => none
 | k + 1, x0, x3, x4 => if x4 < (x0.length : Int) then (if 0 ≤ x4 then (aV.l0 k x0 (mn x3 (rd x0 x4)) (wrap64 (x4 + 1))) else (none)) else (some x3)
def aV.f (k : Nat) (l0 : List Int) : Option (Int) := if (l0.length : Int) < 1 then (none) else (if 0 < (l0.length : Int) then (aV.l0 k l0 (rd l0 0) 1) else (none))
theorem aV.di : ∀ k, (∀ y0 y1 y2, LeO (aV.l0 k y0 y1 y2) (aV.l0 (k + 1) y0 y1 y2))
 | 0 => fun _ _ _ r h => by simp [aV.l0] at h
 | k + 1 => by
  have ih0 := aV.di k
  ·intro y0 y1 y2
   unfold aV.l0
   repeat' first | (with_reducible first | exact ih0 .. | exact LeO.refl .. | exact LeO.none .. | refine LeO.ite ?_ ?_ | refine LeO.bind ?_ (fun _ => ?_))
theorem aV.mono : ∀ a0 k, LeO (aV.f k a0) (aV.f (k + 1) a0) := by
 intro a0 k
 have ih0 := aV.di k
 unfold aV.f
 repeat' first | (with_reducible first | exact ih0 .. | exact LeO.refl .. | exact LeO.none .. | refine LeO.ite ?_ ?_ | refine LeO.bind ?_ (fun _ => ?_))
theorem aV.calls (k : Nat) (A0 : Option Addr) (c0 : Nat) (l0 : List Int) (r : Int) (w : World) (hr0 : Kd.C (Kd.int .i64) w A0 l0.length l0) (hc0 : l0.length ≤ c0) (h : aV.f k l0 = some r) :
  Calls Tryz.prog 78 #[.slice A0 l0.length c0] w fun e w' => e = .returned (.int .i64 r) ∧ Below w.heap.size w w' := by
 have HR0 := a_ hr0
 have C7 := a_ hc0
 clear hr0 hc0
 have HB := a_ (Below.refl w.heap.size w)
 have H : (if (l0.length : Int) < 1 then (none) else (if 0 < (l0.length : Int) then (aV.l0 k l0 (rd l0 0) 1) else (none))) = some r := h
 clear h
 replace H := in_ H; obtain ⟨c2, H⟩ := H
 have B4 := decide_eq_false c2
 have B7 : decide (l0.length < 1) = false := decide_eq_false (by omega)
 clear c2
 replace H := ig_ H; obtain ⟨c3, H⟩ := H
 have C0 := decide_eq_true c3
 have C1 : decide (0 < l0.length) = true := decide_eq_true (by omega)
 clear c3
 have H' := a_ H
 clear H
 have A5 : 0 ≤ (0 : Int) := (by omega)
 have A6 : 0 < (l0.length : Int) := of_decide_eq_true aG
 obtain ⟨B0, C2, A2⟩ := Kd.dM HR0.out 0 A5 A6
 cases C2
 have qi373 : (0 < l0.length) = True := eq_true (by omega)
 (try rw [show ((0 : Int)).toNat = 0 from rfl] at A2)
 (try rw [Addr.add_zero'] at A2)
 replace A5 := eq_true A5
 replace A6 := eq_true A6
 go_enter Tryz.func78, Tryz.ntmps78
 go_wp2
 go_loopg [3, 4] k (fun kq v3 v4 w' => ∃ (A4 : Int) (A1 : Int), v3 = .int .i64 A4 ∧ v4 = .int .i64 A1 ∧ ah (aV.l0 kq l0 A4 A1 = some r) ∧ ah (kq ≤ k) ∧ ah (Below w.heap.size w w'))
 case atStart => exact ⟨(rd l0 0), (1), bZ, bZ, H', ⟨Nat.le_refl _⟩, ⟨bO⟩⟩
 case round =>
  clear H'
  try clear B4; try clear B7; try clear C0; try clear C1; try clear A2; try clear A5; try clear A6
  obtain ⟨A4, A1, rfl, rfl, HA, HK1, HB⟩ := hrel
  cases gk with
  | zero => exact absurd HA.out (by simp [aV.l0])
  | succ k1 =>
   have H := HA.out
   clear HA
   simp only [aV.l0] at H
   by_cases c4 : A1 < (l0.length : Int)
   ·rw [if_pos c4] at H
    have C3 := decide_eq_true c4
    clear c4
    replace H := ig_ H; obtain ⟨c5, H⟩ := H
    have C6 := decide_eq_true c5
    clear c5
    obtain ⟨C4, A7⟩ : ∃ j_ : Int, (mn A4 (rd l0 A1)) = j_ := ⟨_, rfl⟩
    replace H : (aV.l0 k1 l0 C4 (wrap64 (A1 + 1))) = some r := by first | (rw [A7] at H; exact H) | (simp only [A7] at H ⊢; exact H)
    have hji6_ : (if (rd l0 A1) < A4 then (rd l0 A1) else A4) = C4 := A7
    have H' := a_ H
    clear H
    have A8 : 0 ≤ (A1 : Int) := of_decide_eq_true aG
    have A9 : A1 < (l0.length : Int) := of_decide_eq_true aG
    obtain ⟨B3, C5, A3⟩ := Kd.dM HR0.out A1 A8 A9
    obtain rfl : B0 = B3 := (by injection C5)
    replace A3 := (HB.out.cell (World.block_lt_of_cell? _ _ A3)).trans A3
    replace A8 := eq_true A8
    replace A9 := eq_true A9
    go_wp2
    go_roundg k1
    case measure => have := HK1.out; omega
    case rel => exact ⟨(C4), (wrap64 (A1 + 1)), (by first | rfl | (simp; done) | (simp only [← A7] <;> (first | rfl | simp)) | (simp [*]; done)), bZ, H', ⟨jR⟩, ⟨bO⟩⟩
   rw [if_neg c4] at H
   have C3 := decide_eq_false c4
   clear c4
   obtain rfl := Option.some.inj H
   go_wp2
   go_ret
   exact ⟨fO, bO⟩
end Go.Proofs.YtkpidjmhdagkfaaGreatDoor.QFnReadForms
