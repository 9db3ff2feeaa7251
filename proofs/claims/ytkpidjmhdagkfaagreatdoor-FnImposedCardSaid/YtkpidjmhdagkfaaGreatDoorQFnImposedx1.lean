-- Written by own_print.py of this session's repo over the kit's print (its output, turned at some places).
import Derived.Test.YtkpidjmhdagkfaaGreatDoorQFnImposedx0
namespace Go.Proofs.YtkpidjmhdagkfaaGreatDoor.QFnImposed
open Go.RowKit Go.Proofs.YtkpidjmhdagkfaaGreatDoorW.PrintWords Go.Proofs.YtkpidjmhdagkfaaGreatDoorW.PrintLast Go.Proofs.YtkpidjmhdagkfaaGreatDoorW.PrintMore
attribute [local go_sem] fU fT gP gQ fw fA fQ fV
set_option maxHeartbeats 8000000
set_option maxRecDepth 100000
set_option linter.unusedVariables false
set_option linter.unusedSimpArgs false
mutual
def au.l0 : Nat → List (List Int) → Int → List (List Int) → Int → Int → Option (List Int)
 | 0, _, _, _, _, _ => none
 | k + 1, x0, x3, x9, x10, x11 => if x11 < x10 then (if 0 ≤ x11 then (if x11 < (x9.length : Int) then (if (wrap64 (x3 + ((lL x9 x11).length : Int))) < 0 then (none) else (au.l0 k x0 (wrap64 (x3 + ((lL x9 x11).length : Int))) x9 x10 (wrap64 (x11 + 1)))) else (none)) else (none)) else ((fG.f ([] : List Int) x3).bind fun t104 => (au.l1 k t104 x0 (x0.length : Int) 0))
def au.l1 : Nat → List Int → List (List Int) → Int → Int → Option (List Int)
 | 0, _, _, _, _ => none
 | k + 1, x6, x25, x26, x27 => if x27 < x26 then (if 0 ≤ x27 then (if x27 < (x25.length : Int) then (if x6.length + (lL x25 x27).length < 17592186044416 then (au.l1 k (x6 ++ (lL x25 x27)) x25 x26 (wrap64 (x27 + 1))) else (none)) else (none)) else (none)) else (some x6)
end
def au.f (k : Nat) (l0 : List (List Int)) : Option (List Int) := au.l0 k l0 0 l0 (l0.length : Int) 0
theorem au.dC : ∀ k, (∀ y0 y1 y2 y3 y4, LeO (au.l0 k y0 y1 y2 y3 y4) (au.l0 (k + 1) y0 y1 y2 y3 y4)) ∧ (∀ y0 y1 y2 y3, LeO (au.l1 k y0 y1 y2 y3) (au.l1 (k + 1) y0 y1 y2 y3))
 | 0 => ⟨fun _ _ _ _ _ r h => by simp [au.l0] at h, fun _ _ _ _ r h => by simp [au.l1] at h⟩
 | k + 1 => by
  obtain ⟨ih0, ih1⟩ := au.dC k
  refine ⟨?_, ?_⟩ <;> intros <;> (first | unfold au.l0 | unfold au.l1) <;> (repeat' first | (with_reducible first | exact ih0 .. | exact ih1 .. | exact LeO.refl .. | exact LeO.none .. | refine LeO.ite ?_ ?_ | refine LeO.bind ?_ (fun _ => ?_)))
theorem au.mono : ∀ a0 k, LeO (au.f k a0) (au.f (k + 1) a0) := by
 intro a0 k
 obtain ⟨ih0, ih1⟩ := au.dC k
 unfold au.f
 repeat' first | (with_reducible first | exact ih0 .. | exact ih1 .. | exact LeO.refl .. | exact LeO.none .. | refine LeO.ite ?_ ?_ | refine LeO.bind ?_ (fun _ => ?_))
theorem au.calls (k : Nat) (A0 : Option Addr) (c0 : Nat) (l0 : List (List Int)) (r : List Int) (w : World) (hr0 : Kd.C (Kd.slice 2 (Kd.int .i64)) w A0 l0.length l0) (hc0 : l0.length ≤ c0) (h : au.f k l0 = some r) :
  Calls Tryz.prog 65 #[.slice A0 l0.length c0] w fun e w' => ∃ v0_ : Value, e = .returned (v0_) ∧ Kd.R (Kd.int .i64) 2 w' w.heap.size (fun _ => True) v0_ r ∧ Below w.heap.size w w' := by
 have HR0 := a_ hr0
 have E9 := a_ hc0
 clear hr0 hc0
 have HB := a_ (Below.refl w.heap.size w)
 have H : (au.l0 k l0 0 l0 (l0.length : Int) 0) = some r := h
 clear h
 have H' := a_ H
 clear H
 go_enter Tryz.func65, Tryz.ntmps65
 go_wp2
 go_loopg [3, 11] k (fun kq v3 v11 w' => ∃ (B0 : Int) (A2 : Int), v3 = .int .i64 B0 ∧ v11 = .int .i64 A2 ∧ af (au.l0 kq l0 B0 l0 (l0.length : Int) A2 = some r) ∧ af (kq ≤ k) ∧ af (Below w.heap.size w w'))
 case atStart => exact ⟨(0), (0), cz, cz, H', ⟨Nat.le_refl _⟩, ⟨bX⟩⟩
 case round =>
  clear H'
  obtain ⟨B0, A2, rfl, rfl, HA, HK1, HB⟩ := hrel
  cases gk with
  | zero => exact absurd HA.out (by simp [au.l0])
  | succ k1 =>
   have H := HA.out
   clear HA
   simp only [au.l0] at H
   by_cases c2 : A2 < (l0.length : Int)
   ·rw [if_pos c2] at H
    have C4 := decide_eq_true c2
    clear c2
    replace H := ig_ H; obtain ⟨c3, H⟩ := H
    have E3 := decide_eq_true c3
    clear c3
    replace H := ig_ H; obtain ⟨c4, H⟩ := H
    have E4 := decide_eq_true c4
    clear c4
    replace H := in_ H; obtain ⟨c5, H⟩ := H
    have E5 := decide_eq_false c5
    clear c5
    have H' := a_ H
    clear H
    have C0 : 0 ≤ (A2 : Int) := of_decide_eq_true aX
    have C1 : A2 < (l0.length : Int) := of_decide_eq_true aX
    obtain ⟨E0, D3, D4, D5, A3, A5, A7⟩ := Ai HR0.out A2 C0 C1
    cases D5
    replace A3 := (HB.out.cell (World.block_lt_of_cell? _ _ A3)).trans A3
    have D0 := a_ A7
    have D1 := a_ A5
    clear A7 A5
    replace C0 := eq_true C0
    replace C1 := eq_true C1
    go_wp2
    go_roundg k1
    case measure => have := HK1.out; omega
    case rel => exact ⟨(wrap64 (B0 + ((lL l0 A2).length : Int))), (wrap64 (A2 + 1)), cz, cz, H', ⟨kW⟩, ⟨bX⟩⟩
   rw [if_neg c2] at H
   have C4 := decide_eq_false c2
   clear c2
   replace H := bo_ H; obtain ⟨C5, A6, H⟩ := H; (try dsimp only at H)
   have H' := a_ H
   clear H
   go_wp2_with (first | ((with_reducible refine av (f := 90) rfl ?_); refine bJ (some 24) rfl rfl Tryz.func90 (by kernel_rfl) rfl #[.slice none 0 0, .int .i64 B0] rfl dN ?_; (refine (fG.calls (fun k_ => some k_ = (.slice none 0 0 : Value).ownBlock) (.slice none 0 0) ([] : List Int) B0 C5 w _ ?side1 ?side2 A6.out).mono ?_); (case side1 => exact bX); (case side2 => exact Kd.sP _ _ _ _ _); rintro e w7 ⟨E6, rfl, ho0, hb, hkp⟩; refine ⟨_, rfl, ?_⟩; have C6 := a_ (Kd.ae (ok' := fun k_ => True) ho0 (fun k_ hk_ => trivial)); replace HB := a_ (hb); (try clear hb); (try clear hkp); (try clear ho0)))
   go_loopg [6, 27] k1 (fun kq v6 v27 w' => ∃ (B3 : List Int) (A1 : Int), v27 = .int .i64 A1 ∧ af (au.l1 kq B3 l0 (l0.length : Int) A1 = some r) ∧ af (kq ≤ k1) ∧ af (Kd.R (Kd.int .i64) 2 w' w.heap.size (fun _ => True) v6 B3) ∧ af (Below w.heap.size w w'))
   case atStart => exact ⟨(C5), (0), cz, H', ⟨Nat.le_refl _⟩, ⟨by (with_reducible repeat (first | apply Kd.aC | apply Kd.aA | apply Kd.ay)); exact C6.out⟩, ⟨bX⟩⟩
   case round =>
    clear H'
    try clear C4
    obtain ⟨B3, A1, rfl, HA, HK2, HO_6, HB⟩ := hrel
    cases gk with
    | zero => exact absurd HA.out (by simp [au.l1])
    | succ k2 =>
     have H := HA.out
     clear HA
     simp only [au.l1] at H
     by_cases c8 : A1 < (l0.length : Int)
     ·rw [if_pos c8] at H
      have D6 := decide_eq_true c8
      clear c8
      replace H := ig_ H; obtain ⟨c9, H⟩ := H
      have E7 := decide_eq_true c9
      clear c9
      replace H := ig_ H; obtain ⟨c10, H⟩ := H
      have E1 := decide_eq_true c10
      clear c10
      replace H := ig_ H; obtain ⟨c11, H⟩ := H
      have LMc11 := a_ c11
      clear c11
      obtain ⟨C7, B4⟩ : ∃ y_ : List Int, y_ = (B3 ++ (lL l0 A1)) := ⟨_, rfl⟩
      replace H : (au.l1 k2 C7 l0 (l0.length : Int) (wrap64 (A1 + 1))) = some r := rh_ B4 H
      have C8 := a_ B4
      clear B4
      have H' := a_ H
      clear H
      have C2 : 0 ≤ (A1 : Int) := of_decide_eq_true aX
      have C3 : A1 < (l0.length : Int) := of_decide_eq_true aX
      obtain ⟨E2, D7, D8, D9, A4, A8, A9⟩ := Ai HR0.out A1 C2 C3
      cases D9
      replace A4 := (HB.out.cell (World.block_lt_of_cell? _ _ A4)).trans A4
      have B7 := a_ A9
      have D2 := a_ A8
      clear A9 A8
      replace C2 := eq_true C2
      replace C3 := eq_true C3
      go_wp2_with (first | ((with_reducible refine di (b := .append) (xs := #[.tmp 31, .tmp 32]) rfl ?_); at_builtin; refine Kd.il (Kd.int .i64) (w0 := w) w.heap.size rfl (.tmp 31) (.tmp 32) 22 2 (.int .i64 0) 8 rfl Tryz.underlying22 jQ rfl (by decide) (by omega) u6 B3 (lL l0 A1) _ _ _ (fun _ => True) (fun _ => False) rfl rfl ?aO ?aR (fun _ _ h => h) (fun _ h => h.elim) ?aF ?aB ?aS ?aL ?_; (case aR => exact kc_ (Kd.bT B7.out HB.out)); (case aB => exact bX); (case aF => exact (fun _ _ => trivial)); (case aO => exact (ra_ HO_6.out)); (case aS => exact (ai bX)); (case aL => have := LMc11.out; omega); intro E8 F0 ho hb hg hat; rw [← C8.out] at ho; replace HB := a_ (hb); have C9 := a_ (ho); clear HO_6; clear ho hb hg hat))
      go_roundg k2
      case measure => have := HK1.out; have := HK2.out; omega
      case rel => exact ⟨(C7), (wrap64 (A1 + 1)), cz, H', ⟨jW⟩, ⟨by (with_reducible repeat (first | apply Kd.aC | apply Kd.aA | apply Kd.ay)); exact C9.out⟩, ⟨bX⟩⟩
     rw [if_neg c8] at H
     have D6 := decide_eq_false c8
     clear c8
     obtain rfl := Option.some.inj H
     go_wp2
     go_ret
     exact ⟨_, gy, by (with_reducible repeat (first | apply Kd.aC | apply Kd.aA | apply Kd.ay)); exact HO_6.out, bX⟩
mutual
def aW.j0 : Nat → Bool → Int → Int → List Int → List Int → List Int → Option (Bool)
 | 0, _, _, _, _, _, _ => none
 | k + 1, x42, x112000, x112001, x112002, x112003, x112004 => if x42 = true then (some false) else ((au.f k (([x112002, x112003] : List (List Int)))).bind fun t120 => ((fD.f t120).bind fun t123 => (aW.l0 k t123 t123 (t123.length : Int) 0)))
def aW.l0 : Nat → List Int → List Int → Int → Int → Option (Bool)
 | 0, _, _, _, _ => none
 | k + 1, x4, x51, x52, x53 => if x53 < x52 then (if 0 ≤ x53 then (if x53 < (x51.length : Int) then (if 0 < (x4.length : Int) then ((fE.f (rd x4 0) 1 1000000000).bind fun t128 => (if t128 = true then (if (rd x51 x53) = (wrap64 ((rd x4 0) + x53)) then (aW.l0 k x4 x51 x52 (wrap64 (x53 + 1))) else (some false)) else (some false))) else (none)) else (none)) else (none)) else (some true)
end
def aW.f (k : Nat) (a0_0 : Int) (a0_1 : Int) (l0_2 : List Int) (l0_3 : List Int) (l0_4 : List Int) : Option (Bool) := (dn.f a0_0 a0_1).bind fun t112 => (if t112 = true then ((dz.f l0_2).bind fun t113 => (if t113 = (wrap64 (a0_0 * a0_1)) then ((dz.f l0_3).bind fun t114 => (if t114 = (wrap64 (a0_0 * a0_1)) then ((dz.f l0_4).bind fun t115 => (if t115 = (wrap64 (a0_0 * a0_1)) then ((gU.f l0_4 0 1).bind fun t116 => (aW.j0 k (!t116) a0_0 a0_1 l0_2 l0_3 l0_4)) else (aW.j0 k true a0_0 a0_1 l0_2 l0_3 l0_4))) else (aW.j0 k true a0_0 a0_1 l0_2 l0_3 l0_4))) else (aW.j0 k true a0_0 a0_1 l0_2 l0_3 l0_4))) else (some false))
theorem aW.dC : ∀ k, (∀ y0 y1 y2 y3 y4 y5, LeO (aW.j0 k y0 y1 y2 y3 y4 y5) (aW.j0 (k + 1) y0 y1 y2 y3 y4 y5)) ∧ (∀ y0 y1 y2 y3, LeO (aW.l0 k y0 y1 y2 y3) (aW.l0 (k + 1) y0 y1 y2 y3))
 | 0 => ⟨fun _ _ _ _ _ _ r h => by simp [aW.j0] at h, fun _ _ _ _ r h => by simp [aW.l0] at h⟩
 | k + 1 => by
  obtain ⟨ih0, ih1⟩ := aW.dC k
  refine ⟨?_, ?_⟩ <;> intros <;> (first | unfold aW.j0 | unfold aW.l0) <;> (repeat' first | (with_reducible first | exact ih0 .. | exact ih1 .. | exact au.mono .. | exact LeO.refl .. | exact LeO.none .. | refine LeO.ite ?_ ?_ | refine LeO.bind ?_ (fun _ => ?_)))
theorem aW.mono : ∀ a0 a1 a2 a3 a4 k, LeO (aW.f k a0 a1 a2 a3 a4) (aW.f (k + 1) a0 a1 a2 a3 a4) := by
 intro a0 a1 a2 a3 a4 k
 obtain ⟨ih0, ih1⟩ := aW.dC k
 unfold aW.f
 repeat' first | (with_reducible first | exact ih0 .. | exact ih1 .. | exact au.mono .. | exact LeO.refl .. | exact LeO.none .. | refine LeO.ite ?_ ?_ | refine LeO.bind ?_ (fun _ => ?_))
theorem aW.calls (k : Nat) (a0_0 : Int) (a0_1 : Int) (P0_2_ : Nat → Prop) (A6 : Option Addr) (A8 : Nat) (l0_2 : List Int) (P0_3_ : Nat → Prop) (B7 : Option Addr) (C0 : Nat) (l0_3 : List Int) (D5 : Option Addr) (D6 : Nat) (l0_4 : List Int) (r : Bool) (w : World) (hs0_2 : Kd.V (Kd.int .i64) 2 w w.heap.size (fun k_ => P0_2_ k_) (.slice A6 l0_2.length A8) l0_2) (hs0_3 : Kd.V (Kd.int .i64) 2 w w.heap.size (fun k_ => P0_3_ k_) (.slice B7 l0_3.length C0) l0_3) (hr0_4 : Kd.C (Kd.int .i64) w D5 l0_4.length l0_4) (hc0_4 : l0_4.length ≤ D6) (h : aW.f k a0_0 a0_1 l0_2 l0_3 l0_4 = some r) :
  Calls Tryz.prog 20 #[.agg #[.int .i64 a0_0, .int .i64 a0_1, .slice A6 l0_2.length A8, .slice B7 l0_3.length C0, .slice D5 l0_4.length D6]] w fun e w' => e = .returned (.bool r) ∧ Below w.heap.size w w' := by
 have hu28 := Tryz.underlying28
 have HO0_2 := a_ (show Kd.V (Kd.int .i64) 2 w w.heap.size (fun k_ => ((P0_2_ k_ ∨ P0_3_ k_) ∨ w.heap.size ≤ k_)) (.slice A6 l0_2.length A8) l0_2 from Kd.mF hs0_2 (fun k_ hk => .inl (.inl hk)))
 have HO0_3 := a_ (show Kd.V (Kd.int .i64) 2 w w.heap.size (fun k_ => ((P0_2_ k_ ∨ P0_3_ k_) ∨ w.heap.size ≤ k_)) (.slice B7 l0_3.length C0) l0_3 from Kd.mF hs0_3 (fun k_ hk => .inl (.inr hk)))
 have HR0_4 := a_ hr0_4
 have E2 := a_ hc0_4
 clear hr0_4 hc0_4
 have HB := a_ (Below.refl w.heap.size w)
 have H : ((dn.f a0_0 a0_1).bind fun G0 => (if G0 = true then ((dz.f l0_2).bind fun B3 => (if B3 = (wrap64 (a0_0 * a0_1)) then ((dz.f l0_3).bind fun B4 => (if B4 = (wrap64 (a0_0 * a0_1)) then ((dz.f l0_4).bind fun C1 => (if C1 = (wrap64 (a0_0 * a0_1)) then ((gU.f l0_4 0 1).bind fun D7 => (aW.j0 k (!D7) a0_0 a0_1 l0_2 l0_3 l0_4)) else (aW.j0 k true a0_0 a0_1 l0_2 l0_3 l0_4))) else (aW.j0 k true a0_0 a0_1 l0_2 l0_3 l0_4))) else (aW.j0 k true a0_0 a0_1 l0_2 l0_3 l0_4))) else (some false))) = some r := h
 clear h
 replace H := bo_ H; obtain ⟨G0, A2, H⟩ := H; (try dsimp only at H)
 by_cases c3 : G0 = true
 ·subst c3
  have H1 : ((dz.f l0_2).bind fun B3 => (if B3 = (wrap64 (a0_0 * a0_1)) then ((dz.f l0_3).bind fun B4 => (if B4 = (wrap64 (a0_0 * a0_1)) then ((dz.f l0_4).bind fun C1 => (if C1 = (wrap64 (a0_0 * a0_1)) then ((gU.f l0_4 0 1).bind fun D7 => (aW.j0 k (!D7) a0_0 a0_1 l0_2 l0_3 l0_4)) else (aW.j0 k true a0_0 a0_1 l0_2 l0_3 l0_4))) else (aW.j0 k true a0_0 a0_1 l0_2 l0_3 l0_4))) else (aW.j0 k true a0_0 a0_1 l0_2 l0_3 l0_4))) = some r := by rw [if_pos rfl] at H; exact H
  clear H
  have H := H1
  clear H1
  have N3 := a_ H
  clear H
  go_enter Tryz.func20, Tryz.ntmps20
  go_upto_region 4 with (first | ((with_reducible refine bn (N := 1) rfl ?_); refine bG ?hg (N := 1) ?hd (cs := #[.int .i64 a0_0, .int .i64 a0_1, .slice A6 l0_2.length A8, .slice B7 l0_3.length C0, .slice D5 l0_4.length D6]) (t := 28) ?hr ?_; (case hd => rfl); (case hg => rfl); (case hr => first | (go_simp; done) | (go_simp; rfl)); intro A3 hg w5 hbox hb; replace HO0_2 := a_ (Kd.mV (Kd.oH qO A3 (Nat.le_of_eq hg.symm)) hb); replace HO0_3 := a_ (Kd.mV (Kd.oH qY A3 (Nat.le_of_eq hg.symm)) hb); have BK111 := a_ (hbox); have H5 := a_ ((fO : w.heap.size ≤ A3)); have GE111 := a_ ((fO : w.heap.size ≤ A3)); replace HB := cK bX hb; clear hb hbox hg; obtain ⟨G1, G2, G3, G4, G5, G6, G7, G8, G9, H0⟩ := eU (w := w5) BK111.out) | ((with_reducible refine av (f := 60) rfl ?_); refine bJ (some 11) rfl rfl Tryz.func60 (by kernel_rfl) rfl #[.int .i64 a0_0, .int .i64 a0_1] rfl dN ?_; (with_reducible refine (dn.calls a0_0 a0_1 true _ A2.out).mono ?_); rintro e w' ⟨rfl, ⟨nd, rfl⟩⟩; refine ⟨_, rfl, ?_⟩))
  (try simp only [Act.put, List.setIfInBounds_toArray, List.set_cons_zero, List.set_cons_succ])
  go_cut [42] (fun v42 wc => ∃ (kq : Nat) (D2 : Bool), v42 = .bool D2 ∧ af (aW.j0 kq D2 a0_0 a0_1 l0_2 l0_3 l0_4 = some r) ∧ af (kq ≤ k) ∧ af (Kd.V (Kd.int .i64) 2 wc w.heap.size (fun k_ => ((P0_2_ k_ ∨ P0_3_ k_) ∨ w.heap.size ≤ k_) ∧ k_ ≠ A3) (.slice A6 l0_2.length A8) l0_2) ∧ af (Kd.V (Kd.int .i64) 2 wc w.heap.size (fun k_ => ((P0_2_ k_ ∨ P0_3_ k_) ∨ w.heap.size ≤ k_) ∧ k_ ≠ A3) (.slice B7 l0_3.length C0) l0_3) ∧ af (wc.heap[A3]? = some (.cells #[.int .i64 a0_0, .int .i64 a0_1, (.slice A6 l0_2.length A8), (.slice B7 l0_3.length C0), (.slice D5 l0_4.length D6)] 28 (0, 0))) ∧ af (Below w.heap.size w wc))
  case first =>
   have H := N3.out
   clear N3
   replace H := bo_ H; obtain ⟨B3, A7, H⟩ := H; (try dsimp only at H)
   by_cases c8 : B3 = (wrap64 (a0_0 * a0_1))
   ·rw [if_pos c8] at H
    have E3 : (B3 == (wrap64 (a0_0 * a0_1))) = true := beq_iff_eq.mpr c8
    have N4 : (B3 != (wrap64 (a0_0 * a0_1))) = false := bne_eq_false_iff_eq.mpr c8
    clear c8
    (first | rw [E3] | (simp only [eX, iI]; rw [E3]) | skip)
    replace H := bo_ H; obtain ⟨B4, A9, H⟩ := H; (try dsimp only at H)
    by_cases c10 : B4 = (wrap64 (a0_0 * a0_1))
    ·rw [if_pos c10] at H
     have H6 : (B4 == (wrap64 (a0_0 * a0_1))) = true := beq_iff_eq.mpr c10
     have H7 : (B4 != (wrap64 (a0_0 * a0_1))) = false := bne_eq_false_iff_eq.mpr c10
     clear c10
     replace H := bo_ H; obtain ⟨C1, O2, H⟩ := H; (try dsimp only at H)
     by_cases c12 : C1 = (wrap64 (a0_0 * a0_1))
     ·rw [if_pos c12] at H
      have H8 : (C1 == (wrap64 (a0_0 * a0_1))) = true := beq_iff_eq.mpr c12
      have H9 : (C1 != (wrap64 (a0_0 * a0_1))) = false := bne_eq_false_iff_eq.mpr c12
      clear c12
      replace H := bo_ H; obtain ⟨D7, O8, H⟩ := H; (try dsimp only at H)
      have H' := a_ H
      clear H
      obtain ⟨I3, I4, I5, I6, I7, I8, I9, J0, J1, J2⟩ := eU (w := w5) BK111.out
      go_wp2_with (first | ((with_reducible refine av (f := 61) rfl ?_); refine bJ (some 20) rfl rfl Tryz.func61 (by kernel_rfl) rfl #[.slice A6 l0_2.length A8] rfl dN ?_; (with_reducible refine (dz.calls _ _ l0_2 B3 _ ?side1 ?side2 A7.out).mono ?_); (case side1 => exact zR); (case side2 => exact (Kd.jm HO0_2.out).2.1); rintro e w' ⟨rfl, ⟨nd, rfl⟩⟩; refine ⟨_, rfl, ?_⟩) | (go_at_call 61; (with_reducible refine (dz.calls _ _ l0_3 B4 _ ?side1 ?side2 A9.out).mono ?_); (case side1 => exact AZ); (case side2 => exact (Kd.jm HO0_3.out).2.1); rintro e w' ⟨rfl, ⟨nd, rfl⟩⟩) | (go_at_call 61; (with_reducible refine (dz.calls _ _ l0_4 C1 _ ?side1 ?side2 O2.out).mono ?_); (case side1 => exact z0_); (case side2 => exact E2.out); rintro e w' ⟨rfl, ⟨nd, rfl⟩⟩) | (go_at_call 62; (with_reducible refine (gU.calls _ _ l0_4 0 1 D7 _ ?side1 ?side2 O8.out).mono ?_); (case side1 => exact z0_); (case side2 => exact E2.out); rintro e P7 ⟨rfl, hb⟩; replace HO0_2 := a_ (Kd.mV qO hb); replace HO0_3 := a_ (Kd.mV qY hb); replace BK111 := bb_ A3 BK111 hb; replace HB := cK lm hb; (try clear hb)))
      go_meet
      case rel => exact ⟨_, (!D7), cz, H', ⟨kr⟩, ⟨qO⟩, ⟨qY⟩, ⟨xz⟩, ⟨lm⟩⟩
     rw [if_neg c12] at H
     have H8 : (C1 == (wrap64 (a0_0 * a0_1))) = false := beq_eq_false_iff_ne.mpr c12
     have H9 : (C1 != (wrap64 (a0_0 * a0_1))) = true := bne_iff_ne.mpr c12
     have H' := a_ H
     clear H
     obtain ⟨J3, J4, J5, J6, J7, J8, J9, K0, K1, K2⟩ := eU (w := w5) BK111.out
     go_wp2_with (first | ((with_reducible refine av (f := 61) rfl ?_); refine bJ (some 20) rfl rfl Tryz.func61 (by kernel_rfl) rfl #[.slice A6 l0_2.length A8] rfl dN ?_; (with_reducible refine (dz.calls _ _ l0_2 B3 _ ?side1 ?side2 A7.out).mono ?_); (case side1 => exact zR); (case side2 => exact (Kd.jm HO0_2.out).2.1); rintro e w' ⟨rfl, ⟨nd, rfl⟩⟩; refine ⟨_, rfl, ?_⟩) | (go_at_call 61; (with_reducible refine (dz.calls _ _ l0_3 B4 _ ?side1 ?side2 A9.out).mono ?_); (case side1 => exact AZ); (case side2 => exact (Kd.jm HO0_3.out).2.1); rintro e w' ⟨rfl, ⟨nd, rfl⟩⟩) | (go_at_call 61; (with_reducible refine (dz.calls _ _ l0_4 C1 _ ?side1 ?side2 O2.out).mono ?_); (case side1 => exact z0_); (case side2 => exact E2.out); rintro e w' ⟨rfl, ⟨nd, rfl⟩⟩))
     go_meet
     case rel => exact ⟨_, (true), cz, H', ⟨kr⟩, ⟨qO⟩, ⟨qY⟩, ⟨xz⟩, ⟨lm⟩⟩
    rw [if_neg c10] at H
    have H6 : (B4 == (wrap64 (a0_0 * a0_1))) = false := beq_eq_false_iff_ne.mpr c10
    have H7 : (B4 != (wrap64 (a0_0 * a0_1))) = true := bne_iff_ne.mpr c10
    have H' := a_ H
    clear H
    obtain ⟨K3, K4, K5, K6, K7, K8, K9, L0, L1, L2⟩ := eU (w := w5) BK111.out
    go_wp2_with (first | ((with_reducible refine av (f := 61) rfl ?_); refine bJ (some 20) rfl rfl Tryz.func61 (by kernel_rfl) rfl #[.slice A6 l0_2.length A8] rfl dN ?_; (with_reducible refine (dz.calls _ _ l0_2 B3 _ ?side1 ?side2 A7.out).mono ?_); (case side1 => exact zR); (case side2 => exact (Kd.jm HO0_2.out).2.1); rintro e w' ⟨rfl, ⟨nd, rfl⟩⟩; refine ⟨_, rfl, ?_⟩) | (go_at_call 61; (with_reducible refine (dz.calls _ _ l0_3 B4 _ ?side1 ?side2 A9.out).mono ?_); (case side1 => exact AZ); (case side2 => exact (Kd.jm HO0_3.out).2.1); rintro e w' ⟨rfl, ⟨nd, rfl⟩⟩))
    go_meet
    case rel => exact ⟨_, (true), cz, H', ⟨kr⟩, ⟨qO⟩, ⟨qY⟩, ⟨xz⟩, ⟨lm⟩⟩
   rw [if_neg c8] at H
   have E3 : (B3 == (wrap64 (a0_0 * a0_1))) = false := beq_eq_false_iff_ne.mpr c8
   have N4 : (B3 != (wrap64 (a0_0 * a0_1))) = true := bne_iff_ne.mpr c8
   (first | rw [E3] | (simp only [eX, iI]; rw [E3]) | skip)
   have H' := a_ H
   clear H
   obtain ⟨L3, L4, L5, L6, L7, L8, L9, M0, M1, M2⟩ := eU (w := w5) BK111.out
   go_wp2_with (first | ((with_reducible refine av (f := 61) rfl ?_); refine bJ (some 20) rfl rfl Tryz.func61 (by kernel_rfl) rfl #[.slice A6 l0_2.length A8] rfl dN ?_; (with_reducible refine (dz.calls _ _ l0_2 B3 _ ?side1 ?side2 A7.out).mono ?_); (case side1 => exact zR); (case side2 => exact (Kd.jm HO0_2.out).2.1); rintro e w' ⟨rfl, ⟨nd, rfl⟩⟩; refine ⟨_, rfl, ?_⟩))
   go_meet
   case rel => exact ⟨_, (true), cz, H', ⟨kr⟩, ⟨qO⟩, ⟨qY⟩, ⟨xz⟩, ⟨lm⟩⟩
  case rest =>
   clear N3; try clear c3; try clear G1 G2 G3 G4 G5; try clear G6 G7 G8 G9 H0
   obtain ⟨kq, D2, rfl, HA, O3, HO_112002, HO_112003, BK111, HB⟩ := hcut
   cases kq with
   | zero => exact absurd HA.out (by simp [aW.j0])
   | succ H2 =>
    have H := HA.out
    clear HA
    simp only [aW.j0] at H
    by_cases c19 : D2 = true
    ·subst c19
     have H1 : (some false) = some r := by rw [if_pos rfl] at H; exact H
     clear H
     have H := H1
     clear H1
     obtain rfl := Option.some.inj H
     go_wp2
     go_ret
     exact ⟨gy, lm⟩
    ·replace c19 := Bool.eq_false_iff.mpr c19
     subst c19
     have H1 : ((au.f H2 (([l0_2, l0_3] : List (List Int)))).bind fun D8 => ((fD.f D8).bind fun A1 => (aW.l0 H2 A1 A1 (A1.length : Int) 0))) = some r := by rw [if_neg (show ¬ (false = true) by decide)] at H; exact H
     clear H
     have H := H1
     clear H1
     obtain ⟨H3, E4⟩ : ∃ y_ : List (List Int), y_ = (([l0_2, l0_3] : List (List Int))) := ⟨_, rfl⟩
     replace H : ((au.f H2 H3).bind fun D8 => ((fD.f D8).bind fun A1 => (aW.l0 H2 A1 A1 (A1.length : Int) 0))) = some r := rh_ E4 H
     have F9 := a_ E4
     clear E4
     replace H := bo_ H; obtain ⟨D8, O9, H⟩ := H; (try dsimp only at H)
     replace H := bo_ H; obtain ⟨A1, P0, H⟩ := H; (try dsimp only at H)
     have H' := a_ H
     clear H
     obtain ⟨E9, F0, F1, F2, F3, F4, F5, F6, F7, F8⟩ := eU (w := wc) BK111.out
     go_wp2_with (first | ((with_reducible refine bn (N := 47) rfl ?_); refine Kd.BP (Kd.slice 2 (Kd.int .i64)) _ 22 ?hg (N' := 47) ?hd (xs := ([l0_2, l0_3] : List (List Int))) (inner := [.slice A6 l0_2.length A8, .slice B7 l0_3.length C0]) (ok := (fun k_ => ((P0_2_ k_ ∨ P0_3_ k_) ∨ w.heap.size ≤ k_) ∧ k_ ≠ A3)) (okp := (fun k_ => ((P0_2_ k_ ∨ P0_3_ k_) ∨ w.heap.size ≤ k_) ∧ k_ ≠ A3)) ?hr ?hp (fun _ hk => hk) ((show ∀ k_, wc.heap.size ≤ k_ → (fun k_ => ((P0_2_ k_ ∨ P0_3_ k_) ∨ w.heap.size ≤ k_) ∧ k_ ≠ A3) k_ from fun k_ hk => ⟨(.inr (Nat.le_trans (ai lm) hk)), Kd.ll (g := A3) (rb_ BK111.out) k_ hk⟩) _ (Nat.le_refl _)) (Below.refl _ _) (Nat.le_refl _) (by simp) ?_; (case hd => rfl); (case hg => rfl); (case hr => first | (go_simp; done) | (go_simp; rfl)); (case hp => exact (dG.one (show Kd.FK (Kd.slice 2 (Kd.int .i64)) _ _ l0_2 [.slice A6 l0_2.length A8] from (Kd.pF (Kd.jm (Kd.mF (ok' := (fun k_ => ((P0_2_ k_ ∨ P0_3_ k_) ∨ w.heap.size ≤ k_) ∧ k_ ≠ A3)) (HO_112002.out) (fun k_ hk => ⟨hk.1, hk.2⟩))).2.1 (Kd.V_F (Kd.mF (ok' := (fun k_ => ((P0_2_ k_ ∨ P0_3_ k_) ∨ w.heap.size ≤ k_) ∧ k_ ≠ A3)) (HO_112002.out) (fun k_ hk => ⟨hk.1, hk.2⟩))))) (dG.one (show Kd.FK (Kd.slice 2 (Kd.int .i64)) _ _ l0_3 [.slice B7 l0_3.length C0] from (Kd.pF (Kd.jm (Kd.mF (ok' := (fun k_ => ((P0_2_ k_ ∨ P0_3_ k_) ∨ w.heap.size ≤ k_) ∧ k_ ≠ A3)) (HO_112003.out) (fun k_ hk => ⟨hk.1, hk.2⟩))).2.1 (Kd.V_F (Kd.mF (ok' := (fun k_ => ((P0_2_ k_ ∨ P0_3_ k_) ∨ w.heap.size ≤ k_) ∧ k_ ≠ A3)) (HO_112003.out) (fun k_ hk => ⟨hk.1, hk.2⟩))))) (dG.none _ _)))); intro P1 P8 ho24 hb hg_ hnew_; clear hg_ hnew_; (first | rw [← F9.out] at ho24 | (simp only [Int.reduceToNat] at ho24; rw [← F9.out] at ho24)); replace HO_112002 := a_ (Kd.lI z8 (Kd.xV ho24) hb); replace HO_112003 := a_ (Kd.lI zB (Kd.xV ho24) hb); have C2 := a_ (Kd.zT ho24 (ai lm)); replace BK111 := bb_ A3 BK111 hb; replace HB := cK lm hb; clear hb ho24; obtain ⟨N5, N6, N7⟩ := Kd.zY C2.out; subst N7) | ((with_reducible refine av (f := 65) rfl ?_); refine bJ (some 48) rfl rfl Tryz.func65 (by kernel_rfl) rfl #[.slice N5 H3.length N6] rfl dN ?_; (with_reducible refine (au.calls H2 _ _ H3 D8 _ ?side1 ?side2 O9.out).mono ?_); (case side1 => exact (by (repeat (first | exact (Kd.uQ C2.out).2.2 | (with_reducible refine Kd.dD ?_ _) | (with_reducible refine Kd.dH ?_ _) | (with_reducible refine Kd.dZ ?_))); first | done | fail)); (case side2 => exact (Kd.uQ C2.out).2.1); rintro e P9 ⟨P2, rfl, ho0, hb⟩; refine ⟨_, rfl, ?_⟩; replace HO_112002 := a_ (Kd.lI z8 (Kd.aH ho0) hb); replace HO_112003 := a_ (Kd.lI zB (Kd.aH ho0) hb); replace C2 := a_ (Kd.uA (by (with_reducible repeat (first | apply Kd.wP | apply Kd.wL | apply Kd.yG)); exact C2.out) (Kd.aH ho0) hb); have C8 := a_ (Kd.bE (Kd.za (M := fun k_ => (w.heap.size ≤ k_)) ho0 (ai lm) (fun k_ h_ => h_)) (ai lm)); replace BK111 := bb_ A3 BK111 hb; replace HB := cK lm hb; (try clear hb); (try clear ho0); obtain ⟨P3, P4, N8⟩ := Kd.bg C8.out; subst N8) | (go_at_call 64; refine (vs.valuesOf _ _ _ _).mono ?_; rintro e w' ⟨rfl, rfl⟩) | (go_at_call 63; (with_reducible refine (fD.calls _ _ D8 A1 _ ?side1 ?side2 P0.out).mono ?_); (case side1 => exact (by (repeat (first | exact (Kd.aI C8.out).2.2 | (with_reducible refine Kd.dD ?_ _) | (with_reducible refine Kd.dH ?_ _) | (with_reducible refine Kd.dZ ?_))); first | done | fail)); (case side2 => exact (Kd.aI C8.out).2.1); rintro e Q0 ⟨P5, rfl, ho0, hb⟩; replace HO_112002 := a_ (Kd.lI z8 (Kd.aH ho0) hb); replace HO_112003 := a_ (Kd.lI zB (Kd.aH ho0) hb); replace C2 := a_ (Kd.uA (by (with_reducible repeat (first | apply Kd.wP | apply Kd.wL | apply Kd.yG)); exact C2.out) (Kd.aH ho0) hb); have E5 := a_ (Kd.bE (Kd.bq (Kd.za (M := fun k_ => (w.heap.size ≤ k_)) ho0 (ai lm) (fun k_ h_ => h_)) (Kd.df (ra_ C8.out))) (ai lm)); replace C8 := a_ (Kd.bC (ra_ C8.out) (Kd.aH ho0) hb); replace BK111 := bb_ A3 BK111 hb; replace HB := cK lm hb; (try clear hb); (try clear ho0); obtain ⟨D9, E0, N9⟩ := Kd.bg E5.out; subst N9))
     go_loopg [53] H2 (fun kq v53 w' => ∃ (A4 : Int), v53 = .int .i64 A4 ∧ af (aW.l0 kq A1 A1 (A1.length : Int) A4 = some r) ∧ af (kq ≤ H2) ∧ af (Kd.R (Kd.int .i64) 2 w' w.heap.size (fun k_ => (w.heap.size ≤ k_)) (.slice D9 A1.length E0) A1) ∧ af (Kd.R (Kd.int .i64) 2 w' w.heap.size (fun k_ => (w.heap.size ≤ k_)) (.slice D9 A1.length E0) A1) ∧ af (Kd.V (Kd.int .i64) 2 w' w.heap.size (fun k_ => ((P0_2_ k_ ∨ P0_3_ k_) ∨ w.heap.size ≤ k_) ∧ nb_ k_ D9 A1.length E0 ∧ nb_ k_ D9 A1.length E0 ∧ k_ ≠ A3) (.slice A6 l0_2.length A8) l0_2) ∧ af (Kd.V (Kd.int .i64) 2 w' w.heap.size (fun k_ => ((P0_2_ k_ ∨ P0_3_ k_) ∨ w.heap.size ≤ k_) ∧ nb_ k_ D9 A1.length E0 ∧ nb_ k_ D9 A1.length E0 ∧ k_ ≠ A3) (.slice B7 l0_3.length C0) l0_3) ∧ af (w'.heap[A3]? = some (.cells #[.int .i64 a0_0, .int .i64 a0_1, (.slice A6 l0_2.length A8), (.slice B7 l0_3.length C0), (.slice D5 l0_4.length D6)] 28 (0, 0))) ∧ af (Below w.heap.size w w'))
     case atStart => exact ⟨(0), cz, H', ⟨Nat.le_refl _⟩, ⟨by (with_reducible repeat (first | apply Kd.aC | apply Kd.aA | apply Kd.ay)); exact Kd.ae E5.out (fun _ hk => hk.1.1)⟩, ⟨by (with_reducible repeat (first | apply Kd.aC | apply Kd.aA | apply Kd.ay)); exact Kd.ae E5.out (fun _ hk => hk.1.1)⟩, ⟨by (with_reducible repeat (first | apply Kd.mQ | apply Kd.nu | apply Kd.oL)); exact Kd.mF HO_112002.out (fun _ hk => ⟨hk.1.1.1.1, ⟨hk.2, ⟨hk.2, hk.1.1.1.2⟩⟩⟩)⟩, ⟨by (with_reducible repeat (first | apply Kd.mQ | apply Kd.nu | apply Kd.oL)); exact Kd.mF HO_112003.out (fun _ hk => ⟨hk.1.1.1.1, ⟨hk.2, ⟨hk.2, hk.1.1.1.2⟩⟩⟩)⟩, ⟨xz⟩, ⟨lm⟩⟩
     case round =>
      clear H'
      try clear c19; try clear E9 F0 F1 F2 F3; try clear F4 F5 F6 F7 F8
      obtain ⟨A4, rfl, HA, HK2, E1, D3, HO_112002, HO_112003, BK111, HB⟩ := hrel
      cases gk with
      | zero => exact absurd HA.out (by simp [aW.l0])
      | succ k2 =>
       have H := HA.out
       clear HA
       simp only [aW.l0] at H
       by_cases c30 : A4 < (A1.length : Int)
       ·rw [if_pos c30] at H
        have I0 := decide_eq_true c30
        clear c30
        replace H := ig_ H; obtain ⟨c31, H⟩ := H
        have O4 := decide_eq_true c31
        clear c31
        replace H := ig_ H; obtain ⟨c32, H⟩ := H
        have O5 := decide_eq_true c32
        clear c32
        replace H := ig_ H; obtain ⟨c33, H⟩ := H
        have O6 := decide_eq_true c33
        have O7 : decide (0 < A1.length) = true := decide_eq_true (by omega)
        clear c33
        replace H := bo_ H; obtain ⟨O0, O1, H⟩ := H; (try dsimp only at H)
        by_cases c35 : O0 = true
        ·subst c35
         have H1 : (if (rd A1 A4) = (wrap64 ((rd A1 0) + A4)) then (aW.l0 k2 A1 A1 (A1.length : Int) (wrap64 (A4 + 1))) else (some false)) = some r := by rw [if_pos rfl] at H; exact H
         clear H
         have H := H1
         clear H1
         by_cases c36 : (rd A1 A4) = (wrap64 ((rd A1 0) + A4))
         ·rw [if_pos c36] at H
          have I1 : ((rd A1 A4) == (wrap64 ((rd A1 0) + A4))) = true := beq_iff_eq.mpr c36
          have I2 : ((rd A1 A4) != (wrap64 ((rd A1 0) + A4))) = false := bne_eq_false_iff_eq.mpr c36
          clear c36
          have H' := a_ H
          clear H
          have C3 : 0 ≤ (A4 : Int) := of_decide_eq_true aX
          have C4 : A4 < (A1.length : Int) := of_decide_eq_true aX
          obtain ⟨C5, E6, D4⟩ := Kd.eF (Kd.aI D3.out).2.2 A4 C3 C4
          cases E6
          replace C3 := eq_true C3
          replace C4 := eq_true C4
          have C6 : 0 ≤ (0 : Int) := (by omega)
          have C7 : 0 < (A1.length : Int) := of_decide_eq_true aX
          obtain ⟨C9, E7, A5⟩ := Kd.eF (Kd.aI E1.out).2.2 0 C6 C7
          obtain rfl : C5 = C9 := (by injection E7)
          have qi127 : (0 < A1.length) = True := eq_true (by omega)
          (try rw [show ((0 : Int)).toNat = 0 from rfl] at A5)
          (try rw [Addr.add_zero'] at A5)
          replace C6 := eq_true C6
          replace C7 := eq_true C7
          go_wp2_with (first | ((with_reducible refine av (f := 54) rfl ?_); refine bJ (some 61) rfl rfl Tryz.func54 (by kernel_rfl) rfl #[.int .i64 (rd A1 0), .int .i64 1, .int .i64 1000000000] rfl dN ?_; (with_reducible refine (fE.calls (rd A1 0) 1 1000000000 true _ O1.out).mono ?_); rintro e w' ⟨rfl, ⟨nd, rfl⟩⟩; refine ⟨_, rfl, ?_⟩; have D0 : 0 ≤ (0 : Int) := (by omega); have D1 : 0 < (A1.length : Int) := of_decide_eq_true aX; obtain ⟨E8, H4, B0⟩ := Kd.eF (Kd.aI E1.out).2.2 0 D0 D1; obtain rfl : C5 = E8 := (by injection H4); have qi129 : (0 < A1.length) = True := eq_true (by omega); (try rw [show ((0 : Int)).toNat = 0 from rfl] at B0); (try rw [Addr.add_zero'] at B0); replace D0 := eq_true D0; replace D1 := eq_true D1))
          go_roundg k2
          case measure => have := O3.out; have := HK2.out; omega
          case rel => exact ⟨(wrap64 (A4 + 1)), cz, H', ⟨by have := O3.out; have := HK2.out; omega⟩, ⟨by (with_reducible repeat (first | apply Kd.aC | apply Kd.aA | apply Kd.ay)); exact E1.out⟩, ⟨by (with_reducible repeat (first | apply Kd.aC | apply Kd.aA | apply Kd.ay)); exact D3.out⟩, ⟨z8⟩, ⟨zB⟩, ⟨xz⟩, ⟨lm⟩⟩
         rw [if_neg c36] at H
         have I1 : ((rd A1 A4) == (wrap64 ((rd A1 0) + A4))) = false := beq_eq_false_iff_ne.mpr c36
         have I2 : ((rd A1 A4) != (wrap64 ((rd A1 0) + A4))) = true := bne_iff_ne.mpr c36
         obtain rfl := Option.some.inj H
         have C3 : 0 ≤ (A4 : Int) := of_decide_eq_true aX
         have C4 : A4 < (A1.length : Int) := of_decide_eq_true aX
         obtain ⟨C5, E6, D4⟩ := Kd.eF (Kd.aI D3.out).2.2 A4 C3 C4
         cases E6
         replace C3 := eq_true C3
         replace C4 := eq_true C4
         have C6 : 0 ≤ (0 : Int) := (by omega)
         have C7 : 0 < (A1.length : Int) := of_decide_eq_true aX
         obtain ⟨C9, E7, A5⟩ := Kd.eF (Kd.aI E1.out).2.2 0 C6 C7
         obtain rfl : C5 = C9 := (by injection E7)
         have qi127 : (0 < A1.length) = True := eq_true (by omega)
         (try rw [show ((0 : Int)).toNat = 0 from rfl] at A5)
         (try rw [Addr.add_zero'] at A5)
         replace C6 := eq_true C6
         replace C7 := eq_true C7
         go_wp2_with (first | ((with_reducible refine av (f := 54) rfl ?_); refine bJ (some 61) rfl rfl Tryz.func54 (by kernel_rfl) rfl #[.int .i64 (rd A1 0), .int .i64 1, .int .i64 1000000000] rfl dN ?_; (with_reducible refine (fE.calls (rd A1 0) 1 1000000000 true _ O1.out).mono ?_); rintro e w' ⟨rfl, ⟨nd, rfl⟩⟩; refine ⟨_, rfl, ?_⟩; have D0 : 0 ≤ (0 : Int) := (by omega); have D1 : 0 < (A1.length : Int) := of_decide_eq_true aX; obtain ⟨E8, H4, B0⟩ := Kd.eF (Kd.aI E1.out).2.2 0 D0 D1; obtain rfl : C5 = E8 := (by injection H4); have qi129 : (0 < A1.length) = True := eq_true (by omega); (try rw [show ((0 : Int)).toNat = 0 from rfl] at B0); (try rw [Addr.add_zero'] at B0); replace D0 := eq_true D0; replace D1 := eq_true D1))
         go_ret
         exact ⟨gy, lm⟩
        ·replace c35 := Bool.eq_false_iff.mpr c35
         subst c35
         have H1 : (some false) = some r := by rw [if_neg (show ¬ (false = true) by decide)] at H; exact H
         clear H
         have H := H1
         clear H1
         obtain rfl := Option.some.inj H
         have C3 : 0 ≤ (A4 : Int) := of_decide_eq_true aX
         have C4 : A4 < (A1.length : Int) := of_decide_eq_true aX
         obtain ⟨C5, E6, D4⟩ := Kd.eF (Kd.aI D3.out).2.2 A4 C3 C4
         cases E6
         replace C3 := eq_true C3
         replace C4 := eq_true C4
         have C6 : 0 ≤ (0 : Int) := (by omega)
         have C7 : 0 < (A1.length : Int) := of_decide_eq_true aX
         obtain ⟨C9, E7, A5⟩ := Kd.eF (Kd.aI E1.out).2.2 0 C6 C7
         obtain rfl : C5 = C9 := (by injection E7)
         have qi127 : (0 < A1.length) = True := eq_true (by omega)
         (try rw [show ((0 : Int)).toNat = 0 from rfl] at A5)
         (try rw [Addr.add_zero'] at A5)
         replace C6 := eq_true C6
         replace C7 := eq_true C7
         go_wp2_with (first | ((with_reducible refine av (f := 54) rfl ?_); refine bJ (some 61) rfl rfl Tryz.func54 (by kernel_rfl) rfl #[.int .i64 (rd A1 0), .int .i64 1, .int .i64 1000000000] rfl dN ?_; (with_reducible refine (fE.calls (rd A1 0) 1 1000000000 false _ O1.out).mono ?_); rintro e w' ⟨rfl, ⟨nd, rfl⟩⟩; refine ⟨_, rfl, ?_⟩))
         go_ret
         exact ⟨gy, lm⟩
       rw [if_neg c30] at H
       have I0 := decide_eq_false c30
       clear c30
       obtain rfl := Option.some.inj H
       go_wp2
       go_ret
       exact ⟨gy, lm⟩
 ·replace c3 := Bool.eq_false_iff.mpr c3
  subst c3
  have H1 : (some false) = some r := by rw [if_neg (show ¬ (false = true) by decide)] at H; exact H
  clear H
  have H := H1
  clear H1
  obtain rfl := Option.some.inj H
  go_enter Tryz.func20, Tryz.ntmps20
  go_wp2_with (first | ((with_reducible refine bn (N := 1) rfl ?_); refine bG ?hg (N := 1) ?hd (cs := #[.int .i64 a0_0, .int .i64 a0_1, .slice A6 l0_2.length A8, .slice B7 l0_3.length C0, .slice D5 l0_4.length D6]) (t := 28) ?hr ?_; (case hd => rfl); (case hg => rfl); (case hr => first | (go_simp; done) | (go_simp; rfl)); intro A3 hg P6 hbox hb; replace HO0_2 := a_ (Kd.mV (Kd.oH qO A3 (Nat.le_of_eq hg.symm)) hb); replace HO0_3 := a_ (Kd.mV (Kd.oH qY A3 (Nat.le_of_eq hg.symm)) hb); have BK111 := a_ (hbox); have H5 := a_ ((fO : w.heap.size ≤ A3)); have GE111 := a_ ((fO : w.heap.size ≤ A3)); replace HB := cK bX hb; clear hb hbox hg; obtain ⟨M3, M4, M5, M6, M7, M8, M9, N0, N1, N2⟩ := eU (w := P6) BK111.out) | ((with_reducible refine av (f := 60) rfl ?_); refine bJ (some 11) rfl rfl Tryz.func60 (by kernel_rfl) rfl #[.int .i64 a0_0, .int .i64 a0_1] rfl dN ?_; (with_reducible refine (dn.calls a0_0 a0_1 false _ A2.out).mono ?_); rintro e w' ⟨rfl, ⟨nd, rfl⟩⟩; refine ⟨_, rfl, ?_⟩))
  go_ret
  exact ⟨gy, lm⟩
def bY.l0 : Nat → Int → Int → Option (Int)
 | 0, _, _ => none
 | k + 1, x0, x3 => if x0 > 1 then (bY.l0 k (wrap64 (Int.tdiv x0 2)) (wrap64 (x3 + 1))) else (some x3)
def bY.f (k : Nat) (a0 : Int) : Option (Int) := bY.l0 k a0 0
theorem bY.dC : ∀ k, (∀ y0 y1, LeO (bY.l0 k y0 y1) (bY.l0 (k + 1) y0 y1))
 | 0 => fun _ _ r h => by simp [bY.l0] at h
 | k + 1 => by
  have ih0 := bY.dC k
  ·intro y0 y1
   unfold bY.l0
   repeat' first | (with_reducible first | exact ih0 .. | exact LeO.refl .. | exact LeO.none .. | refine LeO.ite ?_ ?_ | refine LeO.bind ?_ (fun _ => ?_))
theorem bY.mono : ∀ a0 k, LeO (bY.f k a0) (bY.f (k + 1) a0) := by
 intro a0 k
 have ih0 := bY.dC k
 unfold bY.f
 repeat' first | (with_reducible first | exact ih0 .. | exact LeO.refl .. | exact LeO.none .. | refine LeO.ite ?_ ?_ | refine LeO.bind ?_ (fun _ => ?_))
theorem bY.calls (k : Nat) (a0 : Int) (r : Int) (w : World) (h : bY.f k a0 = some r) :
  Calls Tryz.prog 74 #[.int .i64 a0] w fun e w' => e = .returned (.int .i64 r) ∧ fJ w w' := by
 have H : (bY.l0 k a0 0) = some r := h
 clear h
 have H' := a_ H
 clear H
 go_enter Tryz.func74, Tryz.ntmps74
 go_wp2
 go_loopg [0, 3] k (fun kq v0 v3 w' => ∃ (A1 : Int) (A2 : Int), v0 = .int .i64 A1 ∧ v3 = .int .i64 A2 ∧ af (bY.l0 kq A1 A2 = some r) ∧ af (kq ≤ k) ∧ fJ w w')
 case atStart => exact ⟨(a0), (0), cz, cz, H', ⟨Nat.le_refl _⟩, fI⟩
 case round =>
  clear H'
  obtain ⟨A1, A2, rfl, rfl, HA, HK1, ⟨m1, rfl⟩⟩ := hrel
  cases gk with
  | zero => exact absurd HA.out (by simp [bY.l0])
  | succ k1 =>
   have H := HA.out
   clear HA
   simp only [bY.l0] at H
   by_cases c2 : A1 > 1
   ·rw [if_pos c2] at H
    have A3 := decide_eq_true c2
    clear c2
    have H' := a_ H
    clear H
    go_wp2
    go_roundg k1
    case measure => have := HK1.out; omega
    case rel => exact ⟨(wrap64 (Int.tdiv A1 2)), (wrap64 (A2 + 1)), cz, cz, H', ⟨kW⟩, fI⟩
   rw [if_neg c2] at H
   have A3 := decide_eq_false c2
   clear c2
   obtain rfl := Option.some.inj H
   go_wp2
   go_ret
   exact ⟨gT, fI⟩
def uj : Go.Shelf.Ren := ⟨fun | 160 => 92 | 232 => 105 | 231 => 104 | 227 => 106 | 234 => 108 | 233 => 107 | 236 => 110 | 235 => 109 | 228 => 127 | 271 => 130 | 151 => 129 | 197 => 128 | 120 => 140 | 152 => 139 | 260 => 138 | 137 => 146 | 119 => 147 | 224 => 143 | 225 => 142 | 217 => 141 | 266 => 148 | n => n, fun | 9 => 9 | 4 => 4 | 3 => 3 | 5 => 5 | 117 => 119 | 116 => 118 | 0 => 0 | 124 => 122 | 21 => 21 | 105 => 139 | 46 => 115 | 119 => 153 | 139 => 156 | 138 => 155 | n => n, fun | 3 => 1 | 4 => 2 | n => n⟩
theorem yt : Go.Proofs.Lays.n160 Tryz.prog uj := {
 mixed := by kernel_rfl
 f119 := Tryz.func147.trans (congrArg some (by kernel_rfl))
 f120 := Tryz.func140.trans (congrArg some (by kernel_rfl))
 f137 := Tryz.func146.trans (congrArg some (by kernel_rfl))
 f151 := Tryz.func129.trans (congrArg some (by kernel_rfl))
 f152 := Tryz.func139.trans (congrArg some (by kernel_rfl))
 f160 := Tryz.func92.trans (congrArg some (by kernel_rfl))
 f197 := Tryz.func128.trans (congrArg some (by kernel_rfl))
 f217 := Tryz.func141.trans (congrArg some (by kernel_rfl))
 f224 := Tryz.func143.trans (congrArg some (by kernel_rfl))
 f225 := Tryz.func142.trans (congrArg some (by kernel_rfl))
 f227 := Tryz.func106.trans (congrArg some (by kernel_rfl))
 f228 := Tryz.func127.trans (congrArg some (by kernel_rfl))
 f231 := Tryz.func104.trans (congrArg some (by kernel_rfl))
 f232 := Tryz.func105.trans (congrArg some (by kernel_rfl))
 f233 := Tryz.func107.trans (congrArg some (by kernel_rfl))
 f234 := Tryz.func108.trans (congrArg some (by kernel_rfl))
 f235 := Tryz.func109.trans (congrArg some (by kernel_rfl))
 f236 := Tryz.func110.trans (congrArg some (by kernel_rfl))
 f260 := Tryz.func138.trans (congrArg some (by kernel_rfl))
 f266 := Tryz.func148.trans (congrArg some (by kernel_rfl))
 f271 := Tryz.func130.trans (congrArg some (by kernel_rfl))
 t0 := Tryz.underlying0
 a0 := Tryz.isAgg0
 z0 := Tryz.sizeOf0
 v0 := Tryz.zeroValue0
 t3 := Tryz.underlying3
 a3 := Tryz.isAgg3
 z3 := Tryz.sizeOf3
 v3 := Tryz.zeroValue3
 t4 := Tryz.underlying4
 a4 := Tryz.isAgg4
 z4 := Tryz.sizeOf4
 v4 := Tryz.zeroValue4
 t5 := Tryz.underlying5
 a5 := Tryz.isAgg5
 z5 := Tryz.sizeOf5
 v5 := Tryz.zeroValue5
 t9 := Tryz.underlying9
 a9 := Tryz.isAgg9
 z9 := Tryz.sizeOf9
 v9 := Tryz.zeroValue9
 t21 := Tryz.underlying21
 a21 := Tryz.isAgg21
 z21 := Tryz.sizeOf21
 v21 := Tryz.zeroValue21
 t46 := Tryz.underlying115
 a46 := Tryz.isAgg115
 z46 := Tryz.sizeOf115
 v46 := Tryz.zeroValue115
 t105 := Tryz.underlying139
 a105 := Tryz.isAgg139
 z105 := Tryz.sizeOf139
 v105 := Tryz.zeroValue139
 t116 := Tryz.underlying118
 a116 := Tryz.isAgg118
 z116 := Tryz.sizeOf118
 t117 := Tryz.underlying119
 a117 := Tryz.isAgg119
 z117 := Tryz.sizeOf119
 v117 := Tryz.zeroValue119
 t119 := Tryz.underlying153
 a119 := Tryz.isAgg153
 z119 := Tryz.sizeOf153
 t124 := Tryz.underlying122
 a124 := Tryz.isAgg122
 z124 := Tryz.sizeOf122
 v124 := Tryz.zeroValue122
 t138 := Tryz.underlying155
 a138 := Tryz.isAgg155
 z138 := Tryz.sizeOf155
 v138 := Tryz.zeroValue155
 t139 := Tryz.underlying156
 a139 := Tryz.isAgg156
 z139 := Tryz.sizeOf156
 v139 := Tryz.zeroValue156
 g3 := by kernel_rfl
 g4 := by kernel_rfl }
def rz : Go.Shelf.Ren := ⟨fun | 138 => 93 | 195 => 111 | 218 => 112 | 143 => 113 | 219 => 131 | 217 => 141 | 225 => 142 | 224 => 143 | 267 => 144 | 266 => 148 | 314 => 149 | n => n, fun | 9 => 9 | 3 => 3 | 4 => 4 | 5 => 5 | 0 => 0 | 46 => 115 | 146 => 158 | 51 => 135 | n => n, fun | 1 => 0 | n => n⟩
theorem sM : Go.Proofs.Lays.n138 Tryz.prog rz := {
 mixed := by kernel_rfl
 f138 := Tryz.func93.trans (congrArg some (by kernel_rfl))
 f143 := Tryz.func113.trans (congrArg some (by kernel_rfl))
 f195 := Tryz.func111.trans (congrArg some (by kernel_rfl))
 f217 := Tryz.func141.trans (congrArg some (by kernel_rfl))
 f218 := Tryz.func112.trans (congrArg some (by kernel_rfl))
 f219 := Tryz.func131.trans (congrArg some (by kernel_rfl))
 f224 := Tryz.func143.trans (congrArg some (by kernel_rfl))
 f225 := Tryz.func142.trans (congrArg some (by kernel_rfl))
 f266 := Tryz.func148.trans (congrArg some (by kernel_rfl))
 f267 := Tryz.func144.trans (congrArg some (by kernel_rfl))
 f314 := Tryz.func149.trans (congrArg some (by kernel_rfl))
 t0 := Tryz.underlying0
 a0 := Tryz.isAgg0
 z0 := Tryz.sizeOf0
 v0 := Tryz.zeroValue0
 t3 := Tryz.underlying3
 a3 := Tryz.isAgg3
 z3 := Tryz.sizeOf3
 v3 := Tryz.zeroValue3
 t4 := Tryz.underlying4
 a4 := Tryz.isAgg4
 z4 := Tryz.sizeOf4
 v4 := Tryz.zeroValue4
 t5 := Tryz.underlying5
 a5 := Tryz.isAgg5
 z5 := Tryz.sizeOf5
 v5 := Tryz.zeroValue5
 t9 := Tryz.underlying9
 a9 := Tryz.isAgg9
 z9 := Tryz.sizeOf9
 v9 := Tryz.zeroValue9
 t46 := Tryz.underlying115
 a46 := Tryz.isAgg115
 z46 := Tryz.sizeOf115
 v46 := Tryz.zeroValue115
 t51 := Tryz.underlying135
 a51 := Tryz.isAgg135
 z51 := Tryz.sizeOf135
 v51 := Tryz.zeroValue135
 t146 := Tryz.underlying158
 a146 := Tryz.isAgg158
 z146 := Tryz.sizeOf158
 v146 := Tryz.zeroValue158
 g1 := by kernel_rfl }
def kS (s : ByteArray) : Nat := Go.Lib.countByte s.data.toList 76 + Go.Lib.countByte s.data.toList 82
def dK.f (k : Nat) (a0 a1 : Int) (a2 : ByteArray) : Option Bool := (dn.f a0 a1).bind fun b => if b = true then (if a2.size ≤ 1048576 then (if Go.Lib.trimS a2.data.toList [76, 82, 84, 66] = [] then ((bY.f k a0).bind fun x => if (kS a2 : Int) = x then ((bY.f k a1).bind fun y => some (decide ((a2.size : Int) - (kS a2 : Int) = y))) else some false) else some false) else none) else some false
theorem dK.mono : ∀ a0 a1 a2 k, LeO (dK.f k a0 a1 a2) (dK.f (k + 1) a0 a1 a2) := by
 intro a0 a1 a2 k
 unfold dK.f
 exact LeO.bind (LeO.refl _) (fun _ => LeO.ite (LeO.ite (LeO.ite (LeO.bind (bY.mono _ _) (fun _ => LeO.ite (LeO.bind (bY.mono _ _) (fun _ => LeO.refl _)) (LeO.refl _))) (LeO.refl _)) (LeO.none _)) (LeO.refl _))
theorem dK.calls (k : Nat) (a0 a1 : Int) (a2 : ByteArray) (r : Bool) (w : World) (h : dK.f k a0 a1 a2 = some r) :
  Calls Tryz.prog 77 #[.int .i64 a0, .int .i64 a1, .string a2] w fun e w' => e = .returned (.bool r) ∧ Below w.heap.size w w' := by
 unfold dK.f at h
 obtain ⟨b, hb, h0⟩ := Option.bind_eq_some_iff.1 h
 clear h
 have HB := a_ hb
 clear hb
 cases b with
 | false =>
  rw [if_neg (by simp)] at h0
  injection h0 with e1
  subst e1
  go_enter Tryz.func77, Tryz.ntmps77
  go_wp2_with (go_at_call 60; (with_reducible refine (dn.calls a0 a1 false _ HB.out).mono ?_); rintro e w1 ⟨rfl, ⟨nd, rfl⟩⟩)
  go_ret
  exact ⟨rfl, aD (Below.refl _ _) _⟩
 | true =>
  rw [if_pos rfl] at h0
  by_cases hs : a2.size ≤ 1048576
  ·rw [if_pos hs] at h0
   have hcon := fun W => Go.Proofs.Any.strings_Trim_laid yt (by kernel_rfl) a2 ⟨#[76, 82, 84, 66]⟩ W (by omega) (by decide) (Go.Proofs.ascii_of_all (by decide))
   change ∀ W, Calls Tryz.prog 92 #[.string a2, .string ⟨#[76, 82, 84, 66]⟩] W (fun e w' => e = .returned (.string ⟨(Go.Lib.trimS a2.data.toList [76, 82, 84, 66]).toArray⟩) ∧ Below W.heap.size W w') at hcon
   have hc1 := fun W => Go.Proofs.Any.strings_Count_one sM a2 76 W
   have hc2 := fun W => Go.Proofs.Any.strings_Count_one sM a2 82 W
   change ∀ W, Calls Tryz.prog 93 #[.string a2, .string ⟨#[76]⟩] W (fun e w' => e = .returned (.int .i64 (Go.Lib.countByte a2.data.toList 76)) ∧ w' = W) at hc1
   change ∀ W, Calls Tryz.prog 93 #[.string a2, .string ⟨#[82]⟩] W (fun e w' => e = .returned (.int .i64 (Go.Lib.countByte a2.data.toList 82)) ∧ w' = W) at hc2
   generalize Go.Lib.trimS a2.data.toList [76, 82, 84, 66] = t at hcon h0
   have hn1 : Go.Lib.countByte a2.data.toList 76 ≤ 1048576 := Nat.le_trans List.count_le_length (by simpa using hs)
   have hn2 : Go.Lib.countByte a2.data.toList 82 ≤ 1048576 := Nat.le_trans List.count_le_length (by simpa using hs)
   unfold kS at h0
   generalize Go.Lib.countByte a2.data.toList 76 = n1 at hc1 hn1 h0
   generalize Go.Lib.countByte a2.data.toList 82 = n2 at hc2 hn2 h0
   have e1 : wrap64 ((n1 : Int) + (n2 : Int)) = (n1 : Int) + (n2 : Int) := by unfold wrap64; omega
   have e2 : wrap64 ((a2.size : Int) - ((n1 : Int) + (n2 : Int))) = (a2.size : Int) - ((n1 : Int) + (n2 : Int)) := by unfold wrap64; omega
   rw [show ((n1 + n2 : Nat) : Int) = (n1 : Int) + (n2 : Int) from Int.natCast_add _ _] at h0
   cases t with
   | cons c t =>
    rw [if_neg (by simp)] at h0
    injection h0 with e3
    subst e3
    obtain ⟨S, hS⟩ : ∃ S : ByteArray, (⟨(c :: t).toArray⟩ : ByteArray) = S := ⟨_, rfl⟩
    rw [hS] at hcon
    have z1 : S.toList.isEmpty = false := by rw [← hS, ByteArray.toList_eq]; rfl
    clear hS hn1 hn2 hc1 hc2 hs
    go_enter Tryz.func77, Tryz.ntmps77
    go_wp2_with (first | (go_at_call 60; (with_reducible refine (dn.calls a0 a1 true _ HB.out).mono ?_); rintro e w1 ⟨rfl, ⟨nd, rfl⟩⟩) | (go_at_call 92; (with_reducible refine (hcon _).mono ?_); rintro e w2 ⟨rfl, hb2⟩; have HB2 := a_ hb2; clear hb2))
    go_ret
    exact ⟨rfl, (aD (Below.refl _ _) nd).trans (HB2.out.mono (ai (aD (Below.refl w.heap.size w) nd)))⟩
   | nil =>
    rw [if_pos rfl] at h0
    obtain ⟨x, hx, h1⟩ := Option.bind_eq_some_iff.1 h0
    clear h0
    have HX := a_ hx
    have hcon2 : ∀ W, Calls Tryz.prog 92 #[.string a2, .string ⟨#[76, 82, 84, 66]⟩] W (fun e w' => e = .returned (.string ⟨#[]⟩) ∧ Below W.heap.size W w') := hcon
    clear hx hcon hn1 hn2 hs
    by_cases hc : (n1 : Int) + (n2 : Int) = x
    ·rw [if_pos hc] at h1
     obtain ⟨y, hy, h2⟩ := Option.bind_eq_some_iff.1 h1
     clear h1
     injection h2 with e3
     subst e3
     have HY := a_ hy
     clear hy
     have d1 : (((n1 : Int) + (n2 : Int)) == x) = true := by rw [hc]; exact beq_self_eq_true _
     have d2 : ∀ q : Int, (q == y) = decide (q = y) := fun q => rfl
     have HC := a_ hc
     clear hc
     go_enter Tryz.func77, Tryz.ntmps77
     go_wp2_with (first | (go_at_call 60; (with_reducible refine (dn.calls a0 a1 true _ HB.out).mono ?_); rintro e w1 ⟨rfl, ⟨nd, rfl⟩⟩) | (go_at_call 92; (with_reducible refine (hcon2 _).mono ?_); rintro e w2 ⟨rfl, hb2⟩; have HB2 := a_ hb2; clear hb2) | (go_at_call 93; (with_reducible refine (hc1 _).mono ?_); rintro e w3 ⟨rfl, rfl⟩) | (go_at_call 93; (with_reducible refine (hc2 _).mono ?_); rintro e w3 ⟨rfl, rfl⟩) | (go_at_call 74; (with_reducible refine (bY.calls k a0 x _ HX.out).mono ?_); rintro e w4 ⟨rfl, ⟨nd4, rfl⟩⟩) | (go_at_call 74; (with_reducible refine (bY.calls k a1 y _ HY.out).mono ?_); rintro e w5 ⟨rfl, ⟨nd5, rfl⟩⟩))
     go_ret
     have hb3 : Below w.heap.size w w3 := (aD (Below.refl _ _) nd).trans (HB2.out.mono (ai (aD (Below.refl w.heap.size w) nd)))
     exact ⟨rfl, aD hb3 _⟩
    ·rw [if_neg hc] at h1
     injection h1 with e3
     subst e3
     have d1 : (((n1 : Int) + (n2 : Int)) == x) = false := beq_false_of_ne hc
     have HC := a_ hc
     clear hc
     go_enter Tryz.func77, Tryz.ntmps77
     go_wp2_with (first | (go_at_call 60; (with_reducible refine (dn.calls a0 a1 true _ HB.out).mono ?_); rintro e w1 ⟨rfl, ⟨nd, rfl⟩⟩) | (go_at_call 92; (with_reducible refine (hcon2 _).mono ?_); rintro e w2 ⟨rfl, hb2⟩; have HB2 := a_ hb2; clear hb2) | (go_at_call 93; (with_reducible refine (hc1 _).mono ?_); rintro e w3 ⟨rfl, rfl⟩) | (go_at_call 93; (with_reducible refine (hc2 _).mono ?_); rintro e w3 ⟨rfl, rfl⟩) | (go_at_call 74; (with_reducible refine (bY.calls k a0 x _ HX.out).mono ?_); rintro e w4 ⟨rfl, ⟨nd4, rfl⟩⟩))
     go_ret
     have hb3 : Below w.heap.size w w3 := (aD (Below.refl _ _) nd).trans (HB2.out.mono (ai (aD (Below.refl w.heap.size w) nd)))
     exact ⟨rfl, aD hb3 _⟩
  ·rw [if_neg hs] at h0; cases h0
def ed.f (k : Nat) (a0_0 : Int) (a0_1 : Int) (l0_2 : List Int) (l0_3 : List Int) (l0_4 : List Int) (a1 : ByteArray) : Option (Int) := (aW.f k a0_0 a0_1 l0_2 l0_3 l0_4).bind fun t131 => (if t131 = true then ((dK.f k a0_0 a0_1 a1).bind fun t132 => (if t132 = true then (some 0) else (some 2))) else (some 1))
theorem ed.mono : ∀ a0 a1 a2 a3 a4 a5 k, LeO (ed.f k a0 a1 a2 a3 a4 a5) (ed.f (k + 1) a0 a1 a2 a3 a4 a5) := by
 intro a0 a1 a2 a3 a4 a5 k
 unfold ed.f
 repeat' first | (with_reducible first | exact aW.mono .. | exact dK.mono .. | exact LeO.refl .. | exact LeO.none .. | refine LeO.ite ?_ ?_ | refine LeO.bind ?_ (fun _ => ?_))
theorem ed.calls (k : Nat) (a0_0 : Int) (a0_1 : Int) (A4 : Option Addr) (A6 : Nat) (l0_2 : List Int) (A7 : Option Addr) (A8 : Nat) (l0_3 : List Int) (A9 : Option Addr) (B0 : Nat) (l0_4 : List Int) (a1 : ByteArray) (r : Int) (w : World) (hr0_2 : Kd.C (Kd.int .i64) w A4 l0_2.length l0_2) (hc0_2 : l0_2.length ≤ A6) (hr0_3 : Kd.C (Kd.int .i64) w A7 l0_3.length l0_3) (hc0_3 : l0_3.length ≤ A8) (hr0_4 : Kd.C (Kd.int .i64) w A9 l0_4.length l0_4) (hc0_4 : l0_4.length ≤ B0) (h : ed.f k a0_0 a0_1 l0_2 l0_3 l0_4 a1 = some r) :
  Calls Tryz.prog 39 #[.agg #[.int .i64 a0_0, .int .i64 a0_1, .slice A4 l0_2.length A6, .slice A7 l0_3.length A8, .slice A9 l0_4.length B0], .string a1] w fun e w' => e = .returned (.int .i64 r) ∧ Below w.heap.size w w' := by
 have hu28 := Tryz.underlying28
 have B3 := a_ hr0_2
 have B4 := a_ hc0_2
 clear hr0_2 hc0_2
 have B7 := a_ hr0_3
 have C0 := a_ hc0_3
 clear hr0_3 hc0_3
 have HR0_4 := a_ hr0_4
 have C1 := a_ hc0_4
 clear hr0_4 hc0_4
 have HB := a_ (Below.refl w.heap.size w)
 have H : ((aW.f k a0_0 a0_1 l0_2 l0_3 l0_4).bind fun C4 => (if C4 = true then ((dK.f k a0_0 a0_1 a1).bind fun C2 => (if C2 = true then (some 0) else (some 2))) else (some 1))) = some r := h
 clear h
 replace H := bo_ H; obtain ⟨C4, A3, H⟩ := H; (try dsimp only at H)
 by_cases c4 : C4 = true
 ·subst c4
  have H1 : ((dK.f k a0_0 a0_1 a1).bind fun C2 => (if C2 = true then (some 0) else (some 2))) = some r := by rw [if_pos rfl] at H; exact H
  clear H
  have H := H1
  clear H1
  replace H := bo_ H; obtain ⟨C2, A5, H⟩ := H; (try dsimp only at H)
  by_cases c6 : C2 = true
  ·subst c6
   have H1 : (some 0) = some r := by rw [if_pos rfl] at H; exact H
   clear H
   have H := H1
   clear H1
   obtain rfl := Option.some.inj H
   go_enter Tryz.func39, Tryz.ntmps39
   go_wp2_with (first | ((with_reducible refine bn (N := 2) rfl ?_); refine bG ?hg (N := 2) ?hd (cs := #[.int .i64 a0_0, .int .i64 a0_1, .slice A4 l0_2.length A6, .slice A7 l0_3.length A8, .slice A9 l0_4.length B0]) (t := 28) ?hr ?_; (case hd => rfl); (case hg => rfl); (case hr => first | (go_simp; done) | (go_simp; rfl)); intro A2 hg w7 hbox hb; have A1 := a_ (hbox); have C3 := a_ ((fO : w.heap.size ≤ A2)); have GE130 := a_ ((fO : w.heap.size ≤ A2)); replace HB := cK bX hb; clear hb hbox hg; obtain ⟨G5, G6, G7, G8, G9, H0, H2, H3, H4, H5⟩ := eU (w := w7) A1.out) | ((with_reducible refine av (f := 20) rfl ?_); refine bJ (some 7) rfl rfl Tryz.func20 (by kernel_rfl) rfl #[.agg #[.int .i64 a0_0, .int .i64 a0_1, .slice A4 l0_2.length A6, .slice A7 l0_3.length A8, .slice A9 l0_4.length B0]] rfl dN ?_; (with_reducible refine (aW.calls k a0_0 a0_1 (fun k_ => k_ < w.heap.size) _ _ l0_2 (fun k_ => k_ < w.heap.size) _ _ l0_3 _ _ l0_4 true _ ?side1 ?side2 ?side3 ?side4 A3.out).mono ?_); (case side1 => exact Kd.pY B4.out (Kd.iY (Kd.C_F (Kd.iR .i64) B3.out) oI)); (case side2 => exact Kd.pY C0.out (Kd.iY (Kd.C_F (Kd.iR .i64) B7.out) oI)); (case side3 => exact kc_ (Kd.bT HR0_4.out HB.out)); (case side4 => exact C1.out); rintro e w9 ⟨rfl, hb⟩; refine ⟨_, rfl, ?_⟩; replace A1 := bb_ A2 A1 hb; replace HB := cK oI hb; (try clear hb); obtain ⟨C5, C6, C7, C8, C9, D0, D1, D2, D3, D4⟩ := eU (w := w9) A1.out) | ((with_reducible refine av (f := 77) rfl ?_); refine bJ (some 15) rfl rfl Tryz.func77 (by kernel_rfl) rfl #[.int .i64 a0_0, .int .i64 a0_1, .string a1] rfl dN ?_; (with_reducible refine (dK.calls k a0_0 a0_1 a1 true _ A5.out).mono ?_); rintro e H9 ⟨rfl, hb⟩; refine ⟨_, rfl, ?_⟩; replace A1 := bb_ A2 A1 hb; replace HB := cK oI hb; (try clear hb)))
   go_ret
   exact ⟨gy, oI⟩
  ·replace c6 := Bool.eq_false_iff.mpr c6
   subst c6
   have H1 : (some 2) = some r := by rw [if_neg (show ¬ (false = true) by decide)] at H; exact H
   clear H
   have H := H1
   clear H1
   obtain rfl := Option.some.inj H
   go_enter Tryz.func39, Tryz.ntmps39
   go_wp2_with (first | ((with_reducible refine bn (N := 2) rfl ?_); refine bG ?hg (N := 2) ?hd (cs := #[.int .i64 a0_0, .int .i64 a0_1, .slice A4 l0_2.length A6, .slice A7 l0_3.length A8, .slice A9 l0_4.length B0]) (t := 28) ?hr ?_; (case hd => rfl); (case hg => rfl); (case hr => first | (go_simp; done) | (go_simp; rfl)); intro A2 hg H6 hbox hb; have A1 := a_ (hbox); have C3 := a_ ((fO : w.heap.size ≤ A2)); have GE130 := a_ ((fO : w.heap.size ≤ A2)); replace HB := cK bX hb; clear hb hbox hg; obtain ⟨D5, D6, D7, D8, D9, E0, E1, E2, E3, E4⟩ := eU (w := H6) A1.out) | ((with_reducible refine av (f := 20) rfl ?_); refine bJ (some 7) rfl rfl Tryz.func20 (by kernel_rfl) rfl #[.agg #[.int .i64 a0_0, .int .i64 a0_1, .slice A4 l0_2.length A6, .slice A7 l0_3.length A8, .slice A9 l0_4.length B0]] rfl dN ?_; (with_reducible refine (aW.calls k a0_0 a0_1 (fun k_ => k_ < w.heap.size) _ _ l0_2 (fun k_ => k_ < w.heap.size) _ _ l0_3 _ _ l0_4 true _ ?side1 ?side2 ?side3 ?side4 A3.out).mono ?_); (case side1 => exact Kd.pY B4.out (Kd.iY (Kd.C_F (Kd.iR .i64) B3.out) oI)); (case side2 => exact Kd.pY C0.out (Kd.iY (Kd.C_F (Kd.iR .i64) B7.out) oI)); (case side3 => exact kc_ (Kd.bT HR0_4.out HB.out)); (case side4 => exact C1.out); rintro e H7 ⟨rfl, hb⟩; refine ⟨_, rfl, ?_⟩; replace A1 := bb_ A2 A1 hb; replace HB := cK oI hb; (try clear hb); obtain ⟨E5, E6, E7, E8, E9, F0, F1, F2, F3, F4⟩ := eU (w := H7) A1.out) | ((with_reducible refine av (f := 77) rfl ?_); refine bJ (some 15) rfl rfl Tryz.func77 (by kernel_rfl) rfl #[.int .i64 a0_0, .int .i64 a0_1, .string a1] rfl dN ?_; (with_reducible refine (dK.calls k a0_0 a0_1 a1 false _ A5.out).mono ?_); rintro e I0 ⟨rfl, hb⟩; refine ⟨_, rfl, ?_⟩; replace A1 := bb_ A2 A1 hb; replace HB := cK oI hb; (try clear hb)))
   go_ret
   exact ⟨gy, oI⟩
 ·replace c4 := Bool.eq_false_iff.mpr c4
  subst c4
  have H1 : (some 1) = some r := by rw [if_neg (show ¬ (false = true) by decide)] at H; exact H
  clear H
  have H := H1
  clear H1
  obtain rfl := Option.some.inj H
  go_enter Tryz.func39, Tryz.ntmps39
  go_wp2_with (first | ((with_reducible refine bn (N := 2) rfl ?_); refine bG ?hg (N := 2) ?hd (cs := #[.int .i64 a0_0, .int .i64 a0_1, .slice A4 l0_2.length A6, .slice A7 l0_3.length A8, .slice A9 l0_4.length B0]) (t := 28) ?hr ?_; (case hd => rfl); (case hg => rfl); (case hr => first | (go_simp; done) | (go_simp; rfl)); intro A2 hg H8 hbox hb; have A1 := a_ (hbox); have C3 := a_ ((fO : w.heap.size ≤ A2)); have GE130 := a_ ((fO : w.heap.size ≤ A2)); replace HB := cK bX hb; clear hb hbox hg; obtain ⟨F5, F6, F7, F8, F9, G0, G1, G2, G3, G4⟩ := eU (w := H8) A1.out) | ((with_reducible refine av (f := 20) rfl ?_); refine bJ (some 7) rfl rfl Tryz.func20 (by kernel_rfl) rfl #[.agg #[.int .i64 a0_0, .int .i64 a0_1, .slice A4 l0_2.length A6, .slice A7 l0_3.length A8, .slice A9 l0_4.length B0]] rfl dN ?_; (with_reducible refine (aW.calls k a0_0 a0_1 (fun k_ => k_ < w.heap.size) _ _ l0_2 (fun k_ => k_ < w.heap.size) _ _ l0_3 _ _ l0_4 false _ ?side1 ?side2 ?side3 ?side4 A3.out).mono ?_); (case side1 => exact Kd.pY B4.out (Kd.iY (Kd.C_F (Kd.iR .i64) B3.out) oI)); (case side2 => exact Kd.pY C0.out (Kd.iY (Kd.C_F (Kd.iR .i64) B7.out) oI)); (case side3 => exact kc_ (Kd.bT HR0_4.out HB.out)); (case side4 => exact C1.out); rintro e I1 ⟨rfl, hb⟩; refine ⟨_, rfl, ?_⟩; replace A1 := bb_ A2 A1 hb; replace HB := cK oI hb; (try clear hb)))
  go_ret
  exact ⟨gy, oI⟩
def nW : Go.Shelf.Ren := ⟨fun | 4 => 114 | n => n, fun | 22 => 61 | 25 => 64 | 3 => 3 | 4 => 4 | 9 => 9 | 20 => 20 | 0 => 0 | n => n, fun | n => n⟩
theorem nG : Go.Proofs.Lays8.n4 Tryz.prog nW := {
 mixed := by kernel_rfl
 f4 := ⟨Tryz.f114.name, by decide, Tryz.func114.trans (congrArg some (by kernel_rfl))⟩
 t0 := Tryz.underlying0
 a0 := Tryz.isAgg0
 z0 := Tryz.sizeOf0
 v0 := Tryz.zeroValue0
 t3 := Tryz.underlying3
 a3 := Tryz.isAgg3
 z3 := Tryz.sizeOf3
 v3 := Tryz.zeroValue3
 t4 := Tryz.underlying4
 a4 := Tryz.isAgg4
 z4 := Tryz.sizeOf4
 v4 := Tryz.zeroValue4
 t9 := Tryz.underlying9
 a9 := Tryz.isAgg9
 z9 := Tryz.sizeOf9
 v9 := Tryz.zeroValue9
 t20 := Tryz.underlying20
 a20 := Tryz.isAgg20
 z20 := Tryz.sizeOf20
 v20 := Tryz.zeroValue20
 t22 := Tryz.underlying61
 a22 := Tryz.isAgg61
 z22 := Tryz.sizeOf61
 v22 := Tryz.zeroValue61 }
def iV.f (l0 : List S64) (a1 : Int) : Option (List S64) := if l0 = [] then (if 0 ≤ a1 then (if a1 ≤ 1000000 then some [] else none) else none) else none
theorem iV.calls (P0_ : Nat → Prop) (u_ : Value) (l0 : List S64) (a1 : Int) (r : List S64) (w0 w : World) (hB : Below w0.heap.size w0 w) (ho0 : Kd.R k64 64 w w0.heap.size P0_ u_ l0) (h : iV.f l0 a1 = some r) :
  Calls Tryz.prog 114 #[u_, .int .i64 a1] w fun e w' => ∃ v0_ : Value, e = .returned (v0_) ∧ Kd.R k64 64 w' w0.heap.size (fun k_ => (P0_ k_ ∨ w.heap.size ≤ k_)) v0_ r ∧ Below w0.heap.size w0 w' ∧ Kept w w' (fun k_ => P0_ k_) := by
 unfold iV.f at h
 by_cases c1 : l0 = []
 ·rw [if_pos c1] at h
  by_cases c2 : 0 ≤ a1
  ·rw [if_pos c2] at h
   by_cases c3 : a1 ≤ 1000000
   ·rw [if_pos c3] at h
    subst c1
    obtain rfl := Option.some.inj h
    clear h
    obtain ⟨n, rfl⟩ := Int.eq_ofNat_of_zero_le c2
    have hw := hB.size
    obtain ⟨i0, hi0, hz0, hz1, hz2⟩ := info_parts (show (Tryz.prog.info? 64).map (fun i => (i.zero, i.size, i.bytes)) = some (some (.agg #[.int .i64 0, .int .i64 0, .bool false, .bool false]), 4, 24) by kernel_rfl)
    have key : ∀ (base : Option Addr) (c : Nat) (cs : List Value), u_ = .slice base 0 c → c ≤ maxLen → cs.length = c * 4 → (base = none → c = 0) → (∀ a, base = some a → ∀ j v, cs[j]? = some v → w.cell? (a.add j) = some v) → Calls Tryz.prog 114 #[u_, .int .i64 (n : Int)] w fun e w' => ∃ v0_ : Value, e = .returned (v0_) ∧ Kd.R k64 64 w' w0.heap.size (fun k_ => (P0_ k_ ∨ w.heap.size ≤ k_)) v0_ [] ∧ Below w0.heap.size w0 w' ∧ Kept w w' (fun k_ => P0_ k_) := by
     intro base c cs hu hmx hcl hnil hcs
     subst hu
     by_cases hr : 0 + n ≤ c
     ·have hcon := Go.Proofs.Any8.slices_Grow_room nG base 0 c n w (Nat.zero_le _) (by simpa [maxLen] using hmx) (by omega) hr
      change Calls Tryz.prog 114 _ _ _ at hcon
      refine hcon.mono ?_
      rintro e w' ⟨rfl, rfl⟩
      exact ⟨_, rfl, Kd.ae ho0 (fun _ hk => .inl hk), hB, Kept.refl _ _⟩
     ·have hcon := Go.Proofs.Any8.slices_Grow_grow nG i0 (.agg #[.int .i64 0, .int .i64 0, .bool false, .bool false]) hi0 hz0 (by omega) base 0 c n cs w (Nat.zero_le _) (by omega) (by rw [hz2]; omega) (by omega) (by rw [hz1, hcl]) hnil hcs
      change Calls Tryz.prog 114 _ _ _ at hcon
      refine hcon.mono ?_
      rintro e w' ⟨rfl, rfl⟩
      have hge := grownCap_ge w (0 + n) c 64
      have hle := grownCap_le_maxLen w (0 + n) c 64 (by unfold maxLen; omega)
      refine ⟨_, rfl, ⟨fun k hk => .inr ?_, [], ⟨by rfl, .inr ⟨w.heap.size, _, _, rfl, hw, heap_alloc_new _ _, Nat.zero_le _, hle, ?_, by rfl⟩⟩, dG.none _ _⟩, (hB.drew).alloc hw _, (Kept.refl w _).below (((Below.refl _ _).drew).alloc (Nat.le_refl _) _)⟩
      ·simp [Value.ownBlock] at hk
       omega
      ·rw [Array.size_append, Array.size_append, size_zeroCells, size_zeroCells, List.size_toArray, hcl]
       show c * 4 + (0 + n - c) * 4 + (grownCap w (0 + n) c 64 - (0 + n)) * 4 = grownCap w (0 + n) c 64 * 4
       omega
    obtain ⟨vJ, ho_⟩ := Kd.sI ho0
    obtain ⟨_, ho⟩ := ho_
    rcases ho with ⟨hv, _⟩ | ⟨g, cap, cur, hv, hg, hh, hn, hm, hsz, _⟩
    ·exact key none 0 [] hv (Nat.zero_le _) rfl (fun _ => rfl) (fun a ha => by cases ha)
    ·refine key (some ⟨g, 0, none⟩) cap cur.toList hv hm (by rw [Array.length_toList, hsz]; rfl) (fun ha => by cases ha) ?_
     intro a ha j v hj
     injection ha with ha
     subst ha
     have e : (⟨g, 0, none⟩ : Addr).add j = ⟨g, j, none⟩ := by
      unfold Addr.add
      split
      ·rename_i h0
       rw [h0]
      ·simp
     rw [e]
     simp only [World.cell?, hh]
     simpa using hj
   ·rw [if_neg c3] at h
    exact absurd h (by simp)
  ·rw [if_neg c2] at h
   exact absurd h (by simp)
 ·rw [if_neg c1] at h
  exact absurd h (by simp)
mutual
def bK.l0 : Nat → List (List (S64)) → Int → List (List (S64)) → Int → Int → Option ((List (S64)))
 | 0, _, _, _, _, _ => none
 | k + 1, x0, x3, x9, x10, x11 => if x11 < x10 then (if 0 ≤ x11 then (if x11 < (x9.length : Int) then (if (wrap64 (x3 + ((ek x9 x11).length : Int))) < 0 then (none) else (bK.l0 k x0 (wrap64 (x3 + ((ek x9 x11).length : Int))) x9 x10 (wrap64 (x11 + 1)))) else (none)) else (none)) else ((iV.f ([] : List (S64)) x3).bind fun t134 => (bK.l1 k t134 x0 (x0.length : Int) 0))
def bK.l1 : Nat → List (S64) → List (List (S64)) → Int → Int → Option ((List (S64)))
 | 0, _, _, _, _ => none
 | k + 1, x6, x25, x26, x27 => if x27 < x26 then (if 0 ≤ x27 then (if x27 < (x25.length : Int) then (if x6.length + (ek x25 x27).length < 5864062014805 then (bK.l1 k (x6 ++ (ek x25 x27)) x25 x26 (wrap64 (x27 + 1))) else (none)) else (none)) else (none)) else (some x6)
end
def bK.f (k : Nat) (l0 : List (List (S64))) : Option ((List (S64))) := bK.l0 k l0 0 l0 (l0.length : Int) 0
theorem bK.dC : ∀ k, (∀ y0 y1 y2 y3 y4, LeO (bK.l0 k y0 y1 y2 y3 y4) (bK.l0 (k + 1) y0 y1 y2 y3 y4)) ∧ (∀ y0 y1 y2 y3, LeO (bK.l1 k y0 y1 y2 y3) (bK.l1 (k + 1) y0 y1 y2 y3))
 | 0 => ⟨fun _ _ _ _ _ r h => by simp [bK.l0] at h, fun _ _ _ _ r h => by simp [bK.l1] at h⟩
 | k + 1 => by
  obtain ⟨ih0, ih1⟩ := bK.dC k
  refine ⟨?_, ?_⟩ <;> intros <;> (first | unfold bK.l0 | unfold bK.l1) <;> (repeat' first | (with_reducible first | exact ih0 .. | exact ih1 .. | exact LeO.refl .. | exact LeO.none .. | refine LeO.ite ?_ ?_ | refine LeO.bind ?_ (fun _ => ?_)))
theorem bK.mono : ∀ a0 k, LeO (bK.f k a0) (bK.f (k + 1) a0) := by
 intro a0 k
 obtain ⟨ih0, ih1⟩ := bK.dC k
 unfold bK.f
 repeat' first | (with_reducible first | exact ih0 .. | exact ih1 .. | exact LeO.refl .. | exact LeO.none .. | refine LeO.ite ?_ ?_ | refine LeO.bind ?_ (fun _ => ?_))
theorem bK.calls (k : Nat) (A0 : Option Addr) (c0 : Nat) (l0 : List (List (S64))) (r : List (S64)) (w : World) (hr0 : Kd.C (Kd.slice 64 k64) w A0 l0.length l0) (hc0 : l0.length ≤ c0) (h : bK.f k l0 = some r) :
  Calls Tryz.prog 95 #[.slice A0 l0.length c0] w fun e w' => ∃ v0_ : Value, e = .returned (v0_) ∧ Kd.R k64 64 w' w.heap.size (fun _ => True) v0_ r ∧ Below w.heap.size w w' := by
 have HR0 := a_ hr0
 have E9 := a_ hc0
 clear hr0 hc0
 have HB := a_ (Below.refl w.heap.size w)
 have H : (bK.l0 k l0 0 l0 (l0.length : Int) 0) = some r := h
 clear h
 have H' := a_ H
 clear H
 go_enter Tryz.func95, Tryz.ntmps95
 go_wp2
 go_loopg [3, 11] k (fun kq v3 v11 w' => ∃ (B0 : Int) (A2 : Int), v3 = .int .i64 B0 ∧ v11 = .int .i64 A2 ∧ af (bK.l0 kq l0 B0 l0 (l0.length : Int) A2 = some r) ∧ af (kq ≤ k) ∧ af (Below w.heap.size w w'))
 case atStart => exact ⟨(0), (0), cz, cz, H', ⟨Nat.le_refl _⟩, ⟨bX⟩⟩
 case round =>
  clear H'
  obtain ⟨B0, A2, rfl, rfl, HA, HK1, HB⟩ := hrel
  cases gk with
  | zero => exact absurd HA.out (by simp [bK.l0])
  | succ k1 =>
   have H := HA.out
   clear HA
   simp only [bK.l0] at H
   by_cases c2 : A2 < (l0.length : Int)
   ·rw [if_pos c2] at H
    have C4 := decide_eq_true c2
    clear c2
    replace H := ig_ H; obtain ⟨c3, H⟩ := H
    have E3 := decide_eq_true c3
    clear c3
    replace H := ig_ H; obtain ⟨c4, H⟩ := H
    have E4 := decide_eq_true c4
    clear c4
    replace H := in_ H; obtain ⟨c5, H⟩ := H
    have E5 := decide_eq_false c5
    clear c5
    have H' := a_ H
    clear H
    have C0 : 0 ≤ (A2 : Int) := of_decide_eq_true aX
    have C1 : A2 < (l0.length : Int) := of_decide_eq_true aX
    obtain ⟨E0, D3, D4, D5, A3, A5, A7⟩ := kV HR0.out A2 C0 C1
    cases D5
    replace A3 := (HB.out.cell (World.block_lt_of_cell? _ _ A3)).trans A3
    have D0 := a_ A7
    have D1 := a_ A5
    clear A7 A5
    replace C0 := eq_true C0
    replace C1 := eq_true C1
    go_wp2
    go_roundg k1
    case measure => have := HK1.out; omega
    case rel => exact ⟨(wrap64 (B0 + ((ek l0 A2).length : Int))), (wrap64 (A2 + 1)), cz, cz, H', ⟨kW⟩, ⟨bX⟩⟩
   rw [if_neg c2] at H
   have C4 := decide_eq_false c2
   clear c2
   replace H := bo_ H; obtain ⟨C5, A6, H⟩ := H; (try dsimp only at H)
   have H' := a_ H
   clear H
   go_wp2_with (first | ((with_reducible refine av (f := 114) rfl ?_); refine bJ (some 24) rfl rfl Tryz.func114 (by kernel_rfl) rfl #[.slice none 0 0, .int .i64 B0] rfl dN ?_; (refine (iV.calls (fun k_ => some k_ = (.slice none 0 0 : Value).ownBlock) (.slice none 0 0) ([] : List (S64)) B0 C5 w _ ?side1 ?side2 A6.out).mono ?_); (case side1 => exact bX); (case side2 => exact Kd.sP _ _ _ _ _); rintro e w7 ⟨E6, rfl, ho0, hb, hkp⟩; refine ⟨_, rfl, ?_⟩; have C6 := a_ (Kd.ae (ok' := fun k_ => True) ho0 (fun k_ hk_ => trivial)); replace HB := a_ (hb); (try clear hb); (try clear hkp); (try clear ho0)))
   go_loopg [6, 27] k1 (fun kq v6 v27 w' => ∃ (B3 : List (S64)) (A1 : Int), v27 = .int .i64 A1 ∧ af (bK.l1 kq B3 l0 (l0.length : Int) A1 = some r) ∧ af (kq ≤ k1) ∧ af (Kd.R k64 64 w' w.heap.size (fun _ => True) v6 B3) ∧ af (Below w.heap.size w w'))
   case atStart => exact ⟨(C5), (0), cz, H', ⟨Nat.le_refl _⟩, ⟨by (with_reducible repeat (first | apply Kd.aC | apply Kd.aA | apply Kd.ay)); exact C6.out⟩, ⟨bX⟩⟩
   case round =>
    clear H'
    try clear C4
    obtain ⟨B3, A1, rfl, HA, HK2, HO_6, HB⟩ := hrel
    cases gk with
    | zero => exact absurd HA.out (by simp [bK.l1])
    | succ k2 =>
     have H := HA.out
     clear HA
     simp only [bK.l1] at H
     by_cases c8 : A1 < (l0.length : Int)
     ·rw [if_pos c8] at H
      have D6 := decide_eq_true c8
      clear c8
      replace H := ig_ H; obtain ⟨c9, H⟩ := H
      have E7 := decide_eq_true c9
      clear c9
      replace H := ig_ H; obtain ⟨c10, H⟩ := H
      have E1 := decide_eq_true c10
      clear c10
      replace H := ig_ H; obtain ⟨c11, H⟩ := H
      have LMc11 := a_ c11
      clear c11
      obtain ⟨C7, B4⟩ : ∃ y_ : List (S64), y_ = (B3 ++ (ek l0 A1)) := ⟨_, rfl⟩
      replace H : (bK.l1 k2 C7 l0 (l0.length : Int) (wrap64 (A1 + 1))) = some r := rh_ B4 H
      have C8 := a_ B4
      clear B4
      have H' := a_ H
      clear H
      have C2 : 0 ≤ (A1 : Int) := of_decide_eq_true aX
      have C3 : A1 < (l0.length : Int) := of_decide_eq_true aX
      obtain ⟨E2, D7, D8, D9, A4, A8, A9⟩ := kV HR0.out A1 C2 C3
      cases D9
      replace A4 := (HB.out.cell (World.block_lt_of_cell? _ _ A4)).trans A4
      have B7 := a_ A9
      have D2 := a_ A8
      clear A9 A8
      replace C2 := eq_true C2
      replace C3 := eq_true C3
      go_wp2_with (first | ((with_reducible refine di (b := .append) (xs := #[.tmp 31, .tmp 32]) rfl ?_); at_builtin; refine Kd.il k64 (w0 := w) w.heap.size rfl (.tmp 31) (.tmp 32) 61 64 (.agg #[(.int .i64 0), (.int .i64 0), (.bool false), (.bool false)]) 24 rfl Tryz.underlying61 lQ rfl (by decide) (by omega) u6 B3 (ek l0 A1) _ _ _ (fun _ => True) (fun _ => False) rfl rfl ?aO ?aR (fun _ _ h => h) (fun _ h => h.elim) ?aF ?aB ?aS ?aL ?_; (case aR => exact kc_ (Kd.bT B7.out HB.out)); (case aB => exact bX); (case aF => exact (fun _ _ => trivial)); (case aO => exact (ra_ HO_6.out)); (case aS => exact (ai bX)); (case aL => have := LMc11.out; omega); intro E8 F0 ho hb hg hat; rw [← C8.out] at ho; replace HB := a_ (hb); have C9 := a_ (ho); clear HO_6; clear ho hb hg hat))
      go_roundg k2
      case measure => have := HK1.out; have := HK2.out; omega
      case rel => exact ⟨(C7), (wrap64 (A1 + 1)), cz, H', ⟨jW⟩, ⟨by (with_reducible repeat (first | apply Kd.aC | apply Kd.aA | apply Kd.ay)); exact C9.out⟩, ⟨bX⟩⟩
     rw [if_neg c8] at H
     have D6 := decide_eq_false c8
     clear c8
     obtain rfl := Option.some.inj H
     go_wp2
     go_ret
     exact ⟨_, gy, by (with_reducible repeat (first | apply Kd.aC | apply Kd.aA | apply Kd.ay)); exact HO_6.out, bX⟩
def dS.jy (a : Bool) (x : S64) : S64 := if a = true then ⟨x.f0, x.f1, x.f2, !x.f3⟩ else ⟨x.f0, x.f1, !x.f2, x.f3⟩
def dS.f (l0 : List S64) (a1 : Bool) : Option (List S64) := if l0.length ≤ 1000000 then some (l0.reverse.map (dS.jy a1)) else none
theorem dS.oN (l : List S64) (a : Bool) (j m : Nat) (h : m + 1 + j = l.length) : (l.reverse.take (j + 1)).map (dS.jy a) = (l.reverse.take j).map (dS.jy a) ++ [dS.jy a (l.getD m z64)] := by
 have hj : j < l.reverse.length := by rw [List.length_reverse]; omega
 rw [List.take_succ_eq_append_getElem hj, List.map_append, List.map_cons, List.map_nil, List.getElem_reverse]
 congr 2
 rw [List.getD_eq_getElem?_getD, List.getElem?_eq_getElem (by omega), Option.getD_some]
 congr 2
 omega
theorem dS.nO (a : Bool) (w : World) (base : Nat) (ok : Nat → Prop) (x : S64) : k64.M w base ok (dS.jy a x) [.int .i64 x.f0, .int .i64 x.f1, .bool (if a = true then x.f2 else !x.f2), .bool (if a = true then !x.f3 else x.f3)] := by
 cases a
 ·exact mZ w base ok ⟨x.f0, x.f1, !x.f2, x.f3⟩
 ·exact mZ w base ok ⟨x.f0, x.f1, x.f2, !x.f3⟩
theorem dS.calls (A0 : Option Addr) (c0 : Nat) (l0 : List (S64)) (a1 : Bool) (r : List (S64)) (w : World) (hr0 : Kd.C k64 w A0 l0.length l0) (hc0 : l0.length ≤ c0) (h : dS.f l0 a1 = some r) :
  Calls Tryz.prog 96 #[.slice A0 l0.length c0, .bool a1] w fun e w' => ∃ v0_ : Value, e = .returned (v0_) ∧ Kd.R k64 64 w' w.heap.size (fun _ => True) v0_ r ∧ Below w.heap.size w w' := by
 unfold dS.f at h
 by_cases hl : l0.length ≤ 1000000
 ·rw [if_pos hl] at h
  injection h with h
  obtain ⟨n, hn⟩ : ∃ n : Nat, l0.length = n := ⟨_, rfl⟩
  rw [hn] at hl
  have HR := a_ hr0
  have HE := a_ h
  have HN := a_ hn
  have HL := a_ hl
  have e1 : wrap64 ((n : Int) - 1) = (n : Int) - 1 := by unfold wrap64; omega
  have f1 : IntKind.i64.wrap ((n : Int) - 1) = (n : Int) - 1 := (eX _).trans e1
  obtain ⟨i0, hi0⟩ : ∃ i0 : Int, (n : Int) - 1 = i0 := ⟨_, rfl⟩
  have HI0 := a_ hi0
  rw [hn]
  have HE1 := a_ (e1.trans hi0)
  clear e1 f1
  clear hr0 h hn hl hc0 hi0
  have HB := a_ (Below.refl w.heap.size w)
  go_enter Tryz.func96, Tryz.ntmps96
  go_wp2_with (first | ((with_reducible refine bn (N := 8) rfl ?_); refine Kd.iM k64 _ 64 ?hg (N := 8) ?hd (xs := ([] : List (S64))) (inner := []) (ok := fun _ => True) (okp := fun _ => True) ?hr ?hp (fun _ hk => hk) trivial (Below.refl _ _) (Nat.le_refl _) (by simp) ?_; (case hd => rfl); (case hg => rfl); (case hr => first | (go_simp; done) | (go_simp; rfl)); (case hp => exact (dG.none _ _)); intro A7 w3 ho4 hb hg_ hnew_; clear hg_ hnew_; have HO := a_ ho4; have HB1 := a_ hb; clear ho4 hb))
  go_loopg [5, 6] (n + 1) (fun kq v5 v6 w' => ∃ (i : Int) (j : Nat), v6 = .int .i64 i ∧ af (i = (n : Int) - 1 - (j : Int) ∧ j ≤ n ∧ j + kq = n + 1) ∧ af (Kd.R k64 64 w' w.heap.size (fun _ => True) v5 ((l0.reverse.take j).map (dS.jy a1))) ∧ af (Below w.heap.size w w'))
  case atStart => exact ⟨wrap64 ((n : Int) - 1), 0, rfl, ⟨by have := HE1.out; have := HI0.out; omega, by omega, by omega⟩, ⟨by simpa using HO.out⟩, HB1⟩
  case round =>
   clear HO HB1 HI0 HE1
   obtain ⟨i, j, rfl, HJ, HO, HB⟩ := hrel
   cases gk with
   | zero => exact absurd HJ.out (fun h => by omega)
   | succ k1 =>
    by_cases hj : j = n
    ·have hi : i < 0 := by have := HJ.out; omega
     have d1 : decide (i ≥ 0) = false := decide_eq_false (by omega)
     have d2 : decide (0 ≤ i) = false := decide_eq_false (by omega)
     clear hi
     have HJN := a_ hj
     clear hj
     go_wp2
     go_ret
     refine ⟨_, rfl, ?_, HB.out⟩
     have h := HO.out
     rw [← HE.out]
     have e : l0.reverse.take j = l0.reverse := List.take_of_length_le (by rw [List.length_reverse, HN.out, HJN.out]; exact Nat.le_refl _)
     rw [e] at h
     exact h
    ·obtain ⟨m, rfl⟩ : ∃ m : Nat, i = (m : Int) := ⟨i.toNat, by have := HJ.out; omega⟩
     have HM := a_ (show m + 1 + j = n by have := HJ.out; omega)
     have hml : m < l0.length := by have := HM.out; have := HN.out; omega
     obtain ⟨ad, eA, hx0, hx1, hx2, hx3⟩ := qP HR.out (m : Int) (by omega) (by omega)
     cases eA
     have hx : ag l0 (m : Int) = l0.getD m z64 := rfl
     rw [hx] at hx0 hx1 hx2 hx3
     clear hx
     have HT := a_ (dS.oN l0 a1 j m (by have := HM.out; have := HN.out; omega))
     have HC := a_ (dS.nO a1)
     generalize l0.getD m z64 = x at hx0 hx1 hx2 hx3 HT
     replace hx0 := (HB.out.cell (World.block_lt_of_cell? _ _ hx0)).trans hx0
     replace hx1 := (HB.out.cell (World.block_lt_of_cell? _ _ hx1)).trans hx1
     replace hx2 := (HB.out.cell (World.block_lt_of_cell? _ _ hx2)).trans hx2
     replace hx3 := (HB.out.cell (World.block_lt_of_cell? _ _ hx3)).trans hx3
     rw [show ((m : Int)).toNat = m from Int.toNat_natCast m] at hx0 hx1 hx2 hx3
     have hmn : m < n := by have := HM.out; omega
     have d1 : decide ((m : Int) ≥ 0) = true := decide_eq_true (by omega)
     have d2 : decide (0 ≤ (m : Int)) = true := decide_eq_true (by omega)
     have g1 := eq_true hmn
     have g2 := eq_true (show (m : Int) < (n : Int) by omega)
     have e1 : wrap64 ((m : Int) - 1) = (m : Int) - 1 := by have := HL.out; unfold wrap64; omega
     obtain ⟨i1, hi1⟩ : ∃ i1 : Int, (m : Int) - 1 = i1 := ⟨_, rfl⟩
     have HI1 := a_ hi1
     have HL2 := a_ (show ((l0.reverse.take j).map (dS.jy a1)).length = j by rw [List.length_map, List.length_take, List.length_reverse]; have := HM.out; have := HN.out; omega)
     replace e1 := e1.trans hi1
     have f1 : IntKind.i64.wrap ((m : Int) - 1) = i1 := (eX _).trans e1
     have A5 := a_ (show j + (k1 + 1) = n + 1 from HJ.out.2.2)
     clear hi1 hmn hj hml HJ
     obtain ⟨gb, hgb⟩ : ∃ gb : Nat, wr.heap.size = gb := ⟨_, rfl⟩
     cases a1
     all_goals
      go_upto_if 20 with ((with_reducible refine bn (N := 7) rfl ?_); refine bG ?hg (N := 7) ?hd (cs := #[.int .i64 0, .int .i64 0, .bool false, .bool false]) (t := 64) ?hr ?_; (case hd => rfl); (case hg => rfl); (case hr => first | (go_simp; done) | (go_simp; rfl)); intro A1 hg A4 hbox hb; have BK := a_ hbox; have HBX := a_ hb; have HG := a_ hg; have hcz0 : A4.cell? ⟨A1, 0, none⟩ = some (.int .i64 0) := (aa hbox 0).trans rfl; have hcz1 : A4.cell? ⟨A1, 1, none⟩ = some (.int .i64 0) := (aa hbox 1).trans rfl; have hcz2 : A4.cell? ⟨A1, 2, none⟩ = some (.bool false) := (aa hbox 2).trans rfl; have hcz3 : A4.cell? ⟨A1, 3, none⟩ = some (.bool false) := (aa hbox 3).trans rfl; have hfz0 := bi hbox 0; have hfz1 := bi hbox 1; have hfz2 := bi hbox 2; have hfz3 := bi hbox 3; clear hb hbox hg)
     all_goals
      have hw0 := ai HB.out
      have hgE := HG.out
      have HGE := a_ (show w.heap.size ≤ A1 by omega)
      clear hw0 hgE
      have hB1 := a_ (aG (j := 3) (v := .bool x.f3) (aG (j := 2) (v := .bool x.f2) (aG (j := 1) (v := .int .i64 x.f1) (aG (j := 0) (v := .int .i64 x.f0) (jg HB.out HBX.out) HGE.out) HGE.out) HGE.out) HGE.out)
      have hO1 := a_ (Kd.dW (p := ⟨A1, 3, none⟩) (Kd.dW (p := ⟨A1, 2, none⟩) (Kd.dW (p := ⟨A1, 1, none⟩) (Kd.dW (p := ⟨A1, 0, none⟩) (Kd.dF (Kd.kC HO.out A1 (Nat.le_of_eq HG.out.symm)) HBX.out) (fun _ hk => hk.2) (.int .i64 x.f0)) (fun _ hk => hk.2) (.int .i64 x.f1)) (fun _ hk => hk.2) (.bool x.f2)) (fun _ hk => hk.2) (.bool x.f3))
      have hK1 := a_ (gz (gz (gz (gz BK.out 0 (.int .i64 x.f0) rfl) 1 (.int .i64 x.f1) rfl) 2 (.bool x.f2) rfl) 3 (.bool x.f3) rfl)
      clear HO HB HBX HG BK hcz0 hcz1 hcz2 hcz3 hfz0 hfz1 hfz2 hfz3 hx0 hx1 hx2 hx3
      generalize (((A4.setCell ⟨A1, 0, none⟩ (.int .i64 x.f0)).setCell ⟨A1, 1, none⟩ (.int .i64 x.f1)).setCell ⟨A1, 2, none⟩ (.bool x.f2)).setCell ⟨A1, 3, none⟩ (.bool x.f3) = A3 at hB1 hO1 hK1 ⊢
      have hcz0 : A3.cell? ⟨A1, 0, none⟩ = some (.int .i64 x.f0) := (aa hK1.out 0).trans rfl
      have hcz1 : A3.cell? ⟨A1, 1, none⟩ = some (.int .i64 x.f1) := (aa hK1.out 1).trans rfl
      have hcz2 : A3.cell? ⟨A1, 2, none⟩ = some (.bool x.f2) := (aa hK1.out 2).trans rfl
      have hcz3 : A3.cell? ⟨A1, 3, none⟩ = some (.bool x.f3) := (aa hK1.out 3).trans rfl
      have hfz0 := bi hK1.out 0
      have hfz1 := bi hK1.out 1
      have hfz2 := bi hK1.out 2
      have hfz3 := bi hK1.out 3
     ·go_upto_region 9 with (fail)
      have hB2 := a_ (aG (j := 2) (v := .bool !x.f2) hB1.out HGE.out)
      have hO2 := a_ (Kd.dW (p := ⟨A1, 2, none⟩) (Kd.ae (ok' := fun k_ => k_ ≠ A1) hO1.out (fun _ hk => hk.2)) (fun _ hk => hk) (.bool !x.f2))
      have hK2 := a_ (gz hK1.out 2 (.bool !x.f2) rfl)
      clear hB1 hO1 hK1 hcz0 hcz1 hcz2 hcz3 hfz0 hfz1 hfz2 hfz3
      generalize A3.setCell ⟨A1, 2, none⟩ (.bool !x.f2) = A2 at hB2 hO2 hK2 ⊢
      have hM := a_ (fun w base ok => HC.out w base ok x)
      clear HC
      simp only [if_true, if_false, Bool.false_eq_true] at hM
      obtain ⟨y, hy⟩ : ∃ y : S64, dS.jy false x = y := ⟨_, rfl⟩
      obtain ⟨b, hb⟩ : ∃ b : Bool, (!x.f2) = b := ⟨_, rfl⟩
      rw [hy] at hM HT
      rw [hb] at hM hK2
      clear hy hb
      have hcz0 : A2.cell? ⟨A1, 0, none⟩ = some (.int .i64 x.f0) := (aa hK2.out 0).trans rfl
      have hcz1 : A2.cell? ⟨A1, 1, none⟩ = some (.int .i64 x.f1) := (aa hK2.out 1).trans rfl
      have hcz2 : A2.cell? ⟨A1, 2, none⟩ = some (.bool b) := (aa hK2.out 2).trans rfl
      have hcz3 : A2.cell? ⟨A1, 3, none⟩ = some (.bool x.f3) := (aa hK2.out 3).trans rfl
      go_wp2_with ((with_reducible refine di (b := .append) (xs := #[.tmp 29, .tmp 31]) rfl ?_); at_builtin; refine Kd.fZ k64 (w0 := w) w.heap.size rfl (.tmp 29) (.tmp 31) 61 64 (.agg #[(.int .i64 0), (.int .i64 0), (.bool false), (.bool false)]) 24 rfl Tryz.underlying61 lQ rfl (by decide) (by omega) u5 ((l0.reverse.take j).map (dS.jy false)) y [.int .i64 x.f0, .int .i64 x.f1, .bool b, .bool x.f3] (fun k_ => k_ ≠ A1) (fun _ => False) rfl (by first | (go_simp; done) | (go_simp; rfl)) ?aP (fun _ hk => hk.elim) ?aF ?aO ?aB ?aS ?aL ?_; (case aP => exact hM.out _ _ _); (case aB => first | exact hB2.out | exact aN hB2.out _); (case aF => first | exact (fun k_ hk => Kd.ll hK2.out k_ hk) | exact (fun k_ hk => Kd.ll hK2.out k_ (Nat.le_trans (by simp) hk))); (case aO => first | exact hO2.out | exact Kd.aC hO2.out _); (case aS => first | exact ai hB2.out | exact ai (aN hB2.out _)); (case aL => have := HL2.out; have := HL.out; have := HM.out; omega); intro v13 A8 ho hb hg hat; have A6 := a_ ho; have HB3 := a_ hb; clear ho hb hg hat)
      go_roundg k1
      case measure => omega
      case rel => exact ⟨_, j + 1, rfl, ⟨by have := HI1.out; have := HM.out; have := A5.out; omega, by have := HM.out; omega, by have := A5.out; omega⟩, ⟨by rw [HT.out]; exact Kd.ae A6.out (fun _ _ => trivial)⟩, HB3⟩
     ·go_upto_region 9 with (fail)
      have hB2 := a_ (aG (j := 3) (v := .bool !x.f3) hB1.out HGE.out)
      have hO2 := a_ (Kd.dW (p := ⟨A1, 3, none⟩) (Kd.ae (ok' := fun k_ => k_ ≠ A1) hO1.out (fun _ hk => hk.2)) (fun _ hk => hk) (.bool !x.f3))
      have hK2 := a_ (gz hK1.out 3 (.bool !x.f3) rfl)
      clear hB1 hO1 hK1 hcz0 hcz1 hcz2 hcz3 hfz0 hfz1 hfz2 hfz3
      generalize A3.setCell ⟨A1, 3, none⟩ (.bool !x.f3) = A2 at hB2 hO2 hK2 ⊢
      have hM := a_ (fun w base ok => HC.out w base ok x)
      clear HC
      simp only [if_true, if_false, Bool.false_eq_true] at hM
      obtain ⟨y, hy⟩ : ∃ y : S64, dS.jy true x = y := ⟨_, rfl⟩
      obtain ⟨b, hb⟩ : ∃ b : Bool, (!x.f3) = b := ⟨_, rfl⟩
      rw [hy] at hM HT
      rw [hb] at hM hK2
      clear hy hb
      have hcz0 : A2.cell? ⟨A1, 0, none⟩ = some (.int .i64 x.f0) := (aa hK2.out 0).trans rfl
      have hcz1 : A2.cell? ⟨A1, 1, none⟩ = some (.int .i64 x.f1) := (aa hK2.out 1).trans rfl
      have hcz2 : A2.cell? ⟨A1, 2, none⟩ = some (.bool x.f2) := (aa hK2.out 2).trans rfl
      have hcz3 : A2.cell? ⟨A1, 3, none⟩ = some (.bool b) := (aa hK2.out 3).trans rfl
      go_wp2_with ((with_reducible refine di (b := .append) (xs := #[.tmp 29, .tmp 31]) rfl ?_); at_builtin; refine Kd.fZ k64 (w0 := w) w.heap.size rfl (.tmp 29) (.tmp 31) 61 64 (.agg #[(.int .i64 0), (.int .i64 0), (.bool false), (.bool false)]) 24 rfl Tryz.underlying61 lQ rfl (by decide) (by omega) u5 ((l0.reverse.take j).map (dS.jy true)) y [.int .i64 x.f0, .int .i64 x.f1, .bool x.f2, .bool b] (fun k_ => k_ ≠ A1) (fun _ => False) rfl (by first | (go_simp; done) | (go_simp; rfl)) ?aP (fun _ hk => hk.elim) ?aF ?aO ?aB ?aS ?aL ?_; (case aP => exact hM.out _ _ _); (case aB => first | exact hB2.out | exact aN hB2.out _); (case aF => first | exact (fun k_ hk => Kd.ll hK2.out k_ hk) | exact (fun k_ hk => Kd.ll hK2.out k_ (Nat.le_trans (by simp) hk))); (case aO => first | exact hO2.out | exact Kd.aC hO2.out _); (case aS => first | exact ai hB2.out | exact ai (aN hB2.out _)); (case aL => have := HL2.out; have := HL.out; have := HM.out; omega); intro v13 A8 ho hb hg hat; have A6 := a_ ho; have HB3 := a_ hb; clear ho hb hg hat)
      go_roundg k1
      case measure => omega
      case rel => exact ⟨_, j + 1, rfl, ⟨by have := HI1.out; have := HM.out; have := A5.out; omega, by have := HM.out; omega, by have := A5.out; omega⟩, ⟨by rw [HT.out]; exact Kd.ae A6.out (fun _ _ => trivial)⟩, HB3⟩
 ·rw [if_neg hl] at h; cases h
end Go.Proofs.YtkpidjmhdagkfaaGreatDoor.QFnImposed
