-- Written by own_print.py of this session's repo over the kit's print (its output, turned at some places).
import Derived.Test.YtkpidjmhdagkfaaGreatDoorQFnReadFormsx0
import Derived.Test.YtkpidjmhdagkfaaGreatDoorQFnReadFormsx1
import Derived.Test.YtkpidjmhdagkfaaGreatDoorQFnReadFormsx3
namespace Go.Proofs.YtkpidjmhdagkfaaGreatDoor.QFnReadForms
open Go.RowKit Go.Proofs.YtkpidjmhdagkfaaGreatDoorW.PrintWords Go.Proofs.YtkpidjmhdagkfaaGreatDoorW.PrintLast Go.Proofs.YtkpidjmhdagkfaaGreatDoorW.PrintMore
attribute [local go_sem] ik iq iR iT gD gF il iw
set_option maxHeartbeats 8000000
set_option maxRecDepth 100000
set_option linter.unusedVariables false
set_option linter.unusedSimpArgs false
def bX.l0 : Nat → List Int → Int → Int → Option (Bool)
 | 0, _, _, _ => none
 | k + 1, x5, x6, x7 => if x7 < (x5.length : Int) then (if 0 ≤ x7 then (if (rd x5 x7) = (wrap64 (x6 + x7)) then (bX.l0 k x5 x6 (wrap64 (x7 + 1))) else (some false)) else (none)) else (some true)
def bX.f (k : Nat) (a0_0 : Int) (a0_1 : Int) (l0_2 : List Int) (l0_3 : List Int) (l0_4 : List Int) (a1 : ByteArray) : Option (Bool) := (bn.f k a0_0 a0_1 l0_2 l0_3 l0_4 a1).bind fun t273 => ((bT.f k a0_0 a0_1 l0_2 l0_3 l0_4).bind fun t276 => (bX.l0 k t273 t276 0))
theorem bX.di : ∀ k, (∀ y0 y1 y2, LeO (bX.l0 k y0 y1 y2) (bX.l0 (k + 1) y0 y1 y2))
 | 0 => fun _ _ _ r h => by simp [bX.l0] at h
 | k + 1 => by
  have ih0 := bX.di k
  ·intro y0 y1 y2
   unfold bX.l0
   repeat' first | (with_reducible first | exact ih0 .. | exact bT.mono .. | exact bn.mono .. | exact LeO.refl .. | exact LeO.none .. | refine LeO.ite ?_ ?_ | refine LeO.bind ?_ (fun _ => ?_))
theorem bX.mono : ∀ a0 a1 a2 a3 a4 a5 k, LeO (bX.f k a0 a1 a2 a3 a4 a5) (bX.f (k + 1) a0 a1 a2 a3 a4 a5) := by
 intro a0 a1 a2 a3 a4 a5 k
 have ih0 := bX.di k
 unfold bX.f
 repeat' first | (with_reducible first | exact ih0 .. | exact bT.mono .. | exact bn.mono .. | exact LeO.refl .. | exact LeO.none .. | refine LeO.ite ?_ ?_ | refine LeO.bind ?_ (fun _ => ?_))
theorem bX.calls (k : Nat) (a0_0 : Int) (a0_1 : Int) (B0 : Option Addr) (B3 : Nat) (l0_2 : List Int) (B4 : Option Addr) (B7 : Nat) (l0_3 : List Int) (C0 : Option Addr) (C1 : Nat) (l0_4 : List Int) (a1 : ByteArray) (r : Bool) (w : World) (hr0_2 : Kd.C (Kd.int .i64) w B0 l0_2.length l0_2) (hc0_2 : l0_2.length ≤ B3) (hr0_3 : Kd.C (Kd.int .i64) w B4 l0_3.length l0_3) (hc0_3 : l0_3.length ≤ B7) (hr0_4 : Kd.C (Kd.int .i64) w C0 l0_4.length l0_4) (hc0_4 : l0_4.length ≤ C1) (h : bX.f k a0_0 a0_1 l0_2 l0_3 l0_4 a1 = some r) :
  Calls Tryz.prog 37 #[.agg #[.int .i64 a0_0, .int .i64 a0_1, .slice B0 l0_2.length B3, .slice B4 l0_3.length B7, .slice C0 l0_4.length C1], .string a1] w fun e w' => e = .returned (.bool r) ∧ Below w.heap.size w w' := by
 have hu28 := Tryz.underlying28
 have C4 := a_ hr0_2
 have C5 := a_ hc0_2
 clear hr0_2 hc0_2
 have C6 := a_ hr0_3
 have C7 := a_ hc0_3
 clear hr0_3 hc0_3
 have HR0_4 := a_ hr0_4
 have C8 := a_ hc0_4
 clear hr0_4 hc0_4
 have HB := a_ (Below.refl w.heap.size w)
 have H : ((bn.f k a0_0 a0_1 l0_2 l0_3 l0_4 a1).bind fun A5 => ((bT.f k a0_0 a0_1 l0_2 l0_3 l0_4).bind fun A6 => (bX.l0 k A5 A6 0))) = some r := h
 clear h
 replace H := bo_ H; obtain ⟨A5, A3, H⟩ := H; (try dsimp only at H)
 replace H := bo_ H; obtain ⟨A6, A4, H⟩ := H; (try dsimp only at H)
 have H' := a_ H
 clear H
 go_enter Tryz.func37, Tryz.ntmps37
 go_wp2_with (first | ((with_reducible refine bf (N := 2) rfl ?_); refine cz ?hg (N := 2) ?hd (cs := #[.int .i64 a0_0, .int .i64 a0_1, .slice B0 l0_2.length B3, .slice B4 l0_3.length B7, .slice C0 l0_4.length C1]) (t := 28) ?hr ?_; (case hd => rfl); (case hg => rfl); (case hr => first | (go_simp; done) | (go_simp; rfl)); intro A7 hg w5 hbox hb; have A2 := a_ (hbox); have F8 := a_ ((fG : w.heap.size ≤ A7)); have GE272 := a_ ((fG : w.heap.size ≤ A7)); replace HB := df bO hb; clear hb hbox hg; obtain ⟨C9, D0, D1, D2, D3, D4, D5, D6, D7, D8⟩ := eH (w := w5) A2.out) | ((with_reducible refine av (f := 72) rfl ?_); refine bI (some 10) rfl rfl Tryz.func72 (by kernel_rfl) rfl #[.agg #[.int .i64 a0_0, .int .i64 a0_1, .slice B0 l0_2.length B3, .slice B4 l0_3.length B7, .slice C0 l0_4.length C1], .string a1] rfl dL ?_; (with_reducible refine (bn.calls k a0_0 a0_1 _ _ l0_2 _ _ l0_3 _ _ l0_4 a1 A5 _ ?side1 ?side2 ?side3 ?side4 ?side5 ?side6 A3.out).mono ?_); (case side1 => exact kc_ (Kd.bE C4.out HB.out)); (case side2 => exact C5.out); (case side3 => exact kc_ (Kd.bE C6.out HB.out)); (case side4 => exact C7.out); (case side5 => exact kc_ (Kd.bE HR0_4.out HB.out)); (case side6 => exact C8.out); rintro e w7 ⟨F4, rfl, ho0, hb⟩; refine ⟨_, rfl, ?_⟩; have C2 := a_ (Kd.bu ho0 (af wN)); replace A2 := bb_ A7 A2 hb; replace HB := df wN hb; (try clear hb); (try clear ho0); obtain ⟨D9, E0, E1, E2, E3, E4, E5, E6, E7, E8⟩ := eH (w := w7) A2.out) | ((with_reducible refine av (f := 68) rfl ?_); refine bI (some 12) rfl rfl Tryz.func68 (by kernel_rfl) rfl #[.agg #[.int .i64 a0_0, .int .i64 a0_1, .slice B0 l0_2.length B3, .slice B4 l0_3.length B7, .slice C0 l0_4.length C1]] rfl dL ?_; (with_reducible refine (bT.calls k a0_0 a0_1 _ _ l0_2 _ _ l0_3 _ _ l0_4 A6 _ ?side1 ?side2 ?side3 ?side4 ?side5 ?side6 A4.out).mono ?_); (case side1 => exact kc_ (Kd.bE C4.out HB.out)); (case side2 => exact C5.out); (case side3 => exact kc_ (Kd.bE C6.out HB.out)); (case side4 => exact C7.out); (case side5 => exact kc_ (Kd.bE HR0_4.out HB.out)); (case side6 => exact C8.out); rintro e w9 ⟨rfl, hb⟩; refine ⟨_, rfl, ?_⟩; replace C2 := rl_ C2 hb; replace A2 := bb_ A7 A2 hb; replace HB := df wN hb; (try clear hb)))
 go_loopg [7] k (fun kq v7 w' => ∃ (A1 : Int), v7 = .int .i64 A1 ∧ ah (bX.l0 kq A5 A6 A1 = some r) ∧ ah (kq ≤ k) ∧ ah (Kd.R (Kd.int .i64) 2 w' w.heap.size (fun _ => True) F4 A5) ∧ ah (w'.heap[A7]? = some (.cells #[.int .i64 a0_0, .int .i64 a0_1, (.slice B0 l0_2.length B3), (.slice B4 l0_3.length B7), (.slice C0 l0_4.length C1)] 28 (0, 0))) ∧ ah (Below w.heap.size w w'))
 case atStart => exact ⟨(0), bZ, H', ⟨Nat.le_refl _⟩, ⟨by (with_reducible repeat (first | apply Kd.aC | apply Kd.aD | apply Kd.az)); exact C2.out⟩, ⟨by (with_reducible repeat (first | refine dz ?_ _ | refine bU ?_ | refine dx ?_ _)); exact A2.out⟩, ⟨wN⟩⟩
 case round =>
  clear H'
  try clear C9 D0 D1 D2 D3; try clear D9 E0 E1 E2 E3; try clear D4 D5 D6 D7 D8; try clear E4 E5 E6 E7 E8
  obtain ⟨A1, rfl, HA, HK1, HO_5, A2, HB⟩ := hrel
  cases gk with
  | zero => exact absurd HA.out (by simp [bX.l0])
  | succ k1 =>
   have H := HA.out
   clear HA
   simp only [bX.l0] at H
   by_cases c10 : A1 < (A5.length : Int)
   ·rw [if_pos c10] at H
    have F0 := decide_eq_true c10
    clear c10
    replace H := ig_ H; obtain ⟨c11, H⟩ := H
    have F9 := decide_eq_true c11
    clear c11
    by_cases c12 : (rd A5 A1) = (wrap64 (A6 + A1))
    ·rw [if_pos c12] at H
     have F1 : ((rd A5 A1) == (wrap64 (A6 + A1))) = true := beq_iff_eq.mpr c12
     have F2 : ((rd A5 A1) != (wrap64 (A6 + A1))) = false := bne_eq_false_iff_eq.mpr c12
     clear c12
     have H' := a_ H
     clear H
     obtain ⟨G0, G1, F5⟩ := Kd.bg HO_5.out
     subst F5
     have A8 : 0 ≤ (A1 : Int) := of_decide_eq_true aG
     have A9 : A1 < (A5.length : Int) := of_decide_eq_true aG
     obtain ⟨F3, E9, C3⟩ := Kd.dM (Kd.aH HO_5.out).2.2 A1 A8 A9
     cases E9
     replace A8 := eq_true A8
     replace A9 := eq_true A9
     go_wp2
     go_roundg k1
     case measure => have := HK1.out; omega
     case rel => exact ⟨(wrap64 (A1 + 1)), bZ, H', ⟨jR⟩, ⟨lG⟩, ⟨by (with_reducible repeat (first | refine dz ?_ _ | refine bU ?_ | refine dx ?_ _)); exact A2.out⟩, ⟨wN⟩⟩
    rw [if_neg c12] at H
    have F1 : ((rd A5 A1) == (wrap64 (A6 + A1))) = false := beq_eq_false_iff_ne.mpr c12
    have F2 : ((rd A5 A1) != (wrap64 (A6 + A1))) = true := bne_iff_ne.mpr c12
    obtain rfl := Option.some.inj H
    obtain ⟨G2, G3, F6⟩ := Kd.bg HO_5.out
    subst F6
    have A8 : 0 ≤ (A1 : Int) := of_decide_eq_true aG
    have A9 : A1 < (A5.length : Int) := of_decide_eq_true aG
    obtain ⟨F3, E9, C3⟩ := Kd.dM (Kd.aH HO_5.out).2.2 A1 A8 A9
    cases E9
    replace A8 := eq_true A8
    replace A9 := eq_true A9
    go_wp2
    go_ret
    exact ⟨fO, wN⟩
   rw [if_neg c10] at H
   have F0 := decide_eq_false c10
   clear c10
   obtain rfl := Option.some.inj H
   obtain ⟨G4, G5, F7⟩ := Kd.bg HO_5.out
   subst F7
   go_wp2
   go_ret
   exact ⟨fO, wN⟩
def eF.f (k : Nat) (a0_0 : Int) (a0_1 : Int) (l0_2 : List Int) (l0_3 : List Int) (l0_4 : List Int) (a1 : ByteArray) : Option (Bool × Int) := (eO.f k a0_0 a0_1 l0_2 l0_3 l0_4 a1).bind fun t279 => (if t279 = 0 then ((bX.f k a0_0 a0_1 l0_2 l0_3 l0_4 a1).bind fun t280 => (some (t280, 0))) else (some (false, t279)))
theorem eF.mono : ∀ a0 a1 a2 a3 a4 a5 k, LeO (eF.f k a0 a1 a2 a3 a4 a5) (eF.f (k + 1) a0 a1 a2 a3 a4 a5) := by
 intro a0 a1 a2 a3 a4 a5 k
 unfold eF.f
 repeat' first | (with_reducible first | exact eO.mono .. | exact bX.mono .. | exact LeO.refl .. | exact LeO.none .. | refine LeO.ite ?_ ?_ | refine LeO.bind ?_ (fun _ => ?_))
theorem eF.calls (k : Nat) (a0_0 : Int) (a0_1 : Int) (A6 : Option Addr) (A7 : Nat) (l0_2 : List Int) (A8 : Option Addr) (A9 : Nat) (l0_3 : List Int) (B0 : Option Addr) (B3 : Nat) (l0_4 : List Int) (a1 : ByteArray) (r1 : Bool) (r2 : Int) (w : World) (hr0_2 : Kd.C (Kd.int .i64) w A6 l0_2.length l0_2) (hc0_2 : l0_2.length ≤ A7) (hr0_3 : Kd.C (Kd.int .i64) w A8 l0_3.length l0_3) (hc0_3 : l0_3.length ≤ A9) (hr0_4 : Kd.C (Kd.int .i64) w B0 l0_4.length l0_4) (hc0_4 : l0_4.length ≤ B3) (h : eF.f k a0_0 a0_1 l0_2 l0_3 l0_4 a1 = some (r1, r2)) :
  Calls Tryz.prog 8 #[.agg #[.int .i64 a0_0, .int .i64 a0_1, .slice A6 l0_2.length A7, .slice A8 l0_3.length A9, .slice B0 l0_4.length B3], .string a1] w fun e w' => e = .returned (.tuple #[.bool r1, .int .i64 r2]) ∧ Below w.heap.size w w' := by
 have hu28 := Tryz.underlying28
 have B4 := a_ hr0_2
 have B7 := a_ hc0_2
 clear hr0_2 hc0_2
 have C0 := a_ hr0_3
 have C1 := a_ hc0_3
 clear hr0_3 hc0_3
 have HR0_4 := a_ hr0_4
 have C2 := a_ hc0_4
 clear hr0_4 hc0_4
 have HB := a_ (Below.refl w.heap.size w)
 have H : ((eO.f k a0_0 a0_1 l0_2 l0_3 l0_4 a1).bind fun A4 => (if A4 = 0 then ((bX.f k a0_0 a0_1 l0_2 l0_3 l0_4 a1).bind fun C3 => (some (C3, 0))) else (some (false, A4)))) = some (r1, r2) := h
 clear h
 replace H := bo_ H; obtain ⟨A4, A3, H⟩ := H; (try dsimp only at H)
 by_cases c4 : A4 = 0
 ·rw [if_pos c4] at H
  have D5 : (A4 == 0) = true := beq_iff_eq.mpr c4
  have D6 : (A4 != 0) = false := bne_eq_false_iff_eq.mpr c4
  clear c4
  replace H := bo_ H; obtain ⟨C3, A5, H⟩ := H; (try dsimp only at H)
  simp only [Option.some.injEq, Prod.mk.injEq] at H
  obtain ⟨rfl, rfl⟩ := H
  go_enter Tryz.func8, Tryz.ntmps8
  go_wp2_with (first | ((with_reducible refine bf (N := 2) rfl ?_); refine cz ?hg (N := 2) ?hd (cs := #[.int .i64 a0_0, .int .i64 a0_1, .slice A6 l0_2.length A7, .slice A8 l0_3.length A9, .slice B0 l0_4.length B3]) (t := 28) ?hr ?_; (case hd => rfl); (case hg => rfl); (case hr => first | (go_simp; done) | (go_simp; rfl)); intro A2 hg w6 hbox hb; have A1 := a_ (hbox); have C4 := a_ ((fG : w.heap.size ≤ A2)); have GE278 := a_ ((fG : w.heap.size ≤ A2)); replace HB := df bO hb; clear hb hbox hg; obtain ⟨D7, D8, D9, E0, E1, E2, E3, E4, E5, E6⟩ := eH (w := w6) A1.out) | ((with_reducible refine av (f := 36) rfl ?_); refine bI (some 9) rfl rfl Tryz.func36 (by kernel_rfl) rfl #[.agg #[.int .i64 a0_0, .int .i64 a0_1, .slice A6 l0_2.length A7, .slice A8 l0_3.length A9, .slice B0 l0_4.length B3], .string a1] rfl dL ?_; (with_reducible refine (eO.calls k a0_0 a0_1 _ _ l0_2 _ _ l0_3 _ _ l0_4 a1 A4 _ ?side1 ?side2 ?side3 ?side4 ?side5 ?side6 A3.out).mono ?_); (case side1 => exact kc_ (Kd.bE B4.out HB.out)); (case side2 => exact B7.out); (case side3 => exact kc_ (Kd.bE C0.out HB.out)); (case side4 => exact C1.out); (case side5 => exact kc_ (Kd.bE HR0_4.out HB.out)); (case side6 => exact C2.out); rintro e w8 ⟨rfl, hb⟩; refine ⟨_, rfl, ?_⟩; replace A1 := bb_ A2 A1 hb; replace HB := df zl hb; (try clear hb); obtain ⟨E7, E8, E9, F0, F1, F2, F3, F4, F5, F6⟩ := eH (w := w8) A1.out) | ((with_reducible refine av (f := 37) rfl ?_); refine bI (some 15) rfl rfl Tryz.func37 (by kernel_rfl) rfl #[.agg #[.int .i64 a0_0, .int .i64 a0_1, .slice A6 l0_2.length A7, .slice A8 l0_3.length A9, .slice B0 l0_4.length B3], .string a1] rfl dL ?_; (with_reducible refine (bX.calls k a0_0 a0_1 _ _ l0_2 _ _ l0_3 _ _ l0_4 a1 C3 _ ?side1 ?side2 ?side3 ?side4 ?side5 ?side6 A5.out).mono ?_); (case side1 => exact kc_ (Kd.bE B4.out HB.out)); (case side2 => exact B7.out); (case side3 => exact kc_ (Kd.bE C0.out HB.out)); (case side4 => exact C1.out); (case side5 => exact kc_ (Kd.bE HR0_4.out HB.out)); (case side6 => exact C2.out); rintro e F8 ⟨rfl, hb⟩; refine ⟨_, rfl, ?_⟩; replace A1 := bb_ A2 A1 hb; replace HB := df zl hb; (try clear hb)))
  go_ret2
  exact ⟨fO, zl⟩
 rw [if_neg c4] at H
 have D5 : (A4 == 0) = false := beq_eq_false_iff_ne.mpr c4
 have D6 : (A4 != 0) = true := bne_iff_ne.mpr c4
 simp only [Option.some.injEq, Prod.mk.injEq] at H
 obtain ⟨rfl, rfl⟩ := H
 go_enter Tryz.func8, Tryz.ntmps8
 go_wp2_with (first | ((with_reducible refine bf (N := 2) rfl ?_); refine cz ?hg (N := 2) ?hd (cs := #[.int .i64 a0_0, .int .i64 a0_1, .slice A6 l0_2.length A7, .slice A8 l0_3.length A9, .slice B0 l0_4.length B3]) (t := 28) ?hr ?_; (case hd => rfl); (case hg => rfl); (case hr => first | (go_simp; done) | (go_simp; rfl)); intro A2 hg F7 hbox hb; have A1 := a_ (hbox); have C4 := a_ ((fG : w.heap.size ≤ A2)); have GE278 := a_ ((fG : w.heap.size ≤ A2)); replace HB := df bO hb; clear hb hbox hg; obtain ⟨C5, C6, C7, C8, C9, D0, D1, D2, D3, D4⟩ := eH (w := F7) A1.out) | ((with_reducible refine av (f := 36) rfl ?_); refine bI (some 9) rfl rfl Tryz.func36 (by kernel_rfl) rfl #[.agg #[.int .i64 a0_0, .int .i64 a0_1, .slice A6 l0_2.length A7, .slice A8 l0_3.length A9, .slice B0 l0_4.length B3], .string a1] rfl dL ?_; (with_reducible refine (eO.calls k a0_0 a0_1 _ _ l0_2 _ _ l0_3 _ _ l0_4 a1 A4 _ ?side1 ?side2 ?side3 ?side4 ?side5 ?side6 A3.out).mono ?_); (case side1 => exact kc_ (Kd.bE B4.out HB.out)); (case side2 => exact B7.out); (case side3 => exact kc_ (Kd.bE C0.out HB.out)); (case side4 => exact C1.out); (case side5 => exact kc_ (Kd.bE HR0_4.out HB.out)); (case side6 => exact C2.out); rintro e F9 ⟨rfl, hb⟩; refine ⟨_, rfl, ?_⟩; replace A1 := bb_ A2 A1 hb; replace HB := df zl hb; (try clear hb)))
 go_ret2
 exact ⟨fO, zl⟩
def gz.f (a0 : Int) (a1 : Int) (a2 : Int) : Option (Bool) := if a1 ≤ a0 then (some (decide (a0 ≤ a2))) else (some false)
theorem gz.calls (a0 : Int) (a1 : Int) (a2 : Int) (r : Bool) (w : World) (h : gz.f a0 a1 a2 = some r) :
  Calls Tryz.prog 54 #[.int .i64 a0, .int .i64 a1, .int .i64 a2] w fun e w' => e = .returned (.bool r) ∧ eY w w' := by
 have H : (if a1 ≤ a0 then (some (decide (a0 ≤ a2))) else (some false)) = some r := h
 clear h
 by_cases c4 : a1 ≤ a0
 ·rw [if_pos c4] at H
  have A1 := decide_eq_true c4
  clear c4
  obtain rfl := Option.some.inj H
  go_enter Tryz.func54, Tryz.ntmps54
  go_wp2
  go_ret
  exact ⟨fT, eQ⟩
 rw [if_neg c4] at H
 have A1 := decide_eq_false c4
 clear c4
 obtain rfl := Option.some.inj H
 go_enter Tryz.func54, Tryz.ntmps54
 go_wp2
 go_ret
 exact ⟨fT, eQ⟩
def fq.f (a0 : Int) : Option (Bool) := if a0 = 1 then (some true) else (if a0 = 2 then (some true) else (if a0 = 4 then (some true) else (some (a0 == 8))))
theorem fq.calls (a0 : Int) (r : Bool) (w : World) (h : fq.f a0 = some r) :
  Calls Tryz.prog 84 #[.int .i64 a0] w fun e w' => e = .returned (.bool r) ∧ eY w w' := by
 have H : (if a0 = 1 then (some true) else (if a0 = 2 then (some true) else (if a0 = 4 then (some true) else (some (a0 == 8))))) = some r := h
 clear h
 by_cases c2 : a0 = 1
 ·rw [if_pos c2] at H
  have A1 : (a0 == 1) = true := beq_iff_eq.mpr c2
  have A2 : (a0 != 1) = false := bne_eq_false_iff_eq.mpr c2
  clear c2
  obtain rfl := Option.some.inj H
  go_enter Tryz.func84, Tryz.ntmps84
  go_wp2
  go_ret
  exact ⟨fT, eQ⟩
 rw [if_neg c2] at H
 have A1 : (a0 == 1) = false := beq_eq_false_iff_ne.mpr c2
 have A2 : (a0 != 1) = true := bne_iff_ne.mpr c2
 by_cases c3 : a0 = 2
 ·rw [if_pos c3] at H
  have A3 : (a0 == 2) = true := beq_iff_eq.mpr c3
  have A4 : (a0 != 2) = false := bne_eq_false_iff_eq.mpr c3
  clear c3
  obtain rfl := Option.some.inj H
  go_enter Tryz.func84, Tryz.ntmps84
  go_wp2
  go_ret
  exact ⟨fT, eQ⟩
 rw [if_neg c3] at H
 have A3 : (a0 == 2) = false := beq_eq_false_iff_ne.mpr c3
 have A4 : (a0 != 2) = true := bne_iff_ne.mpr c3
 by_cases c4 : a0 = 4
 ·rw [if_pos c4] at H
  have A5 : (a0 == 4) = true := beq_iff_eq.mpr c4
  have A6 : (a0 != 4) = false := bne_eq_false_iff_eq.mpr c4
  clear c4
  obtain rfl := Option.some.inj H
  go_enter Tryz.func84, Tryz.ntmps84
  go_wp2
  go_ret
  exact ⟨fT, eQ⟩
 rw [if_neg c4] at H
 have A5 : (a0 == 4) = false := beq_eq_false_iff_ne.mpr c4
 have A6 : (a0 != 4) = true := bne_iff_ne.mpr c4
 obtain rfl := Option.some.inj H
 go_enter Tryz.func84, Tryz.ntmps84
 go_wp2
 go_ret
 exact ⟨fT, eQ⟩
def dP.f (a0 : Int) (a1 : Int) : Option (Bool) := (fq.f a0).bind fun t281 => (if t281 = true then ((fq.f a1).bind fun t282 => (some t282)) else (some false))
theorem dP.calls (a0 : Int) (a1 : Int) (r : Bool) (w : World) (h : dP.f a0 a1 = some r) :
  Calls Tryz.prog 60 #[.int .i64 a0, .int .i64 a1] w fun e w' => e = .returned (.bool r) ∧ eY w w' := by
 have H : ((fq.f a0).bind fun A2 => (if A2 = true then ((fq.f a1).bind fun A1 => (some A1)) else (some false))) = some r := h
 clear h
 replace H := bo_ H; obtain ⟨A2, A3, H⟩ := H; (try dsimp only at H)
 by_cases c4 : A2 = true
 ·subst c4
  have H1 : ((fq.f a1).bind fun A1 => (some A1)) = some r := by rw [if_pos rfl] at H; exact H
  clear H
  have H := H1
  clear H1
  replace H := bo_ H; obtain ⟨A1, A5, H⟩ := H; (try dsimp only at H)
  obtain rfl := Option.some.inj H
  go_enter Tryz.func60, Tryz.ntmps60
  go_wp2_with (first | ((with_reducible refine av (f := 84) rfl ?_); refine bI (some 6) rfl rfl Tryz.func84 (by kernel_rfl) rfl #[.int .i64 a0] rfl dL ?_; (with_reducible refine (fq.calls a0 true _ A3.out).mono ?_); rintro e w' ⟨rfl, ⟨nd, rfl⟩⟩; refine ⟨_, rfl, ?_⟩) | (go_at_call 84; (with_reducible refine (fq.calls a1 A1 _ A5.out).mono ?_); rintro e w' ⟨rfl, ⟨nd, rfl⟩⟩))
  go_ret
  exact ⟨fT, eQ⟩
 ·replace c4 := Bool.eq_false_iff.mpr c4
  subst c4
  have H1 : (some false) = some r := by rw [if_neg (show ¬ (false = true) by decide)] at H; exact H
  clear H
  have H := H1
  clear H1
  obtain rfl := Option.some.inj H
  go_enter Tryz.func60, Tryz.ntmps60
  go_wp2_with (first | ((with_reducible refine av (f := 84) rfl ?_); refine bI (some 6) rfl rfl Tryz.func84 (by kernel_rfl) rfl #[.int .i64 a0] rfl dL ?_; (with_reducible refine (fq.calls a0 false _ A3.out).mono ?_); rintro e w' ⟨rfl, ⟨nd, rfl⟩⟩; refine ⟨_, rfl, ?_⟩))
  go_ret
  exact ⟨fT, eQ⟩
def dD.f (l0 : List Int) : Option (Int) := some (l0.length : Int)
theorem dD.calls (A0 : Option Addr) (c0 : Nat) (l0 : List Int) (r : Int) (w : World) (hr0 : Kd.C (Kd.int .i64) w A0 l0.length l0) (hc0 : l0.length ≤ c0) (h : dD.f l0 = some r) :
  Calls Tryz.prog 61 #[.slice A0 l0.length c0] w fun e w' => e = .returned (.int .i64 r) ∧ eY w w' := by
 have HR0 := a_ hr0
 have A1 := a_ hc0
 clear hr0 hc0
 have H : (some (l0.length : Int)) = some r := h
 clear h
 obtain rfl := Option.some.inj H
 go_enter Tryz.func61, Tryz.ntmps61
 go_wp2
 go_ret
 exact ⟨fT, eQ⟩
def iU (lo hi n : Int) : Bool := !(decide (lo ≤ n ∧ n ≤ hi))
theorem uN (n lo hi : Int) : gz.f n lo hi = some (!(iU lo hi n)) := by
 unfold gz.f iU
 by_cases h : lo ≤ n
 ·rw [if_pos h]; simp [h]
 ·rw [if_neg h]; simp [h]
def jT (p : Int → Bool) : List Int → Int → Int
 | [], _ => -1
 | x :: t, i => if p x = true then i else jT p t (i + 1)
theorem lu (p : Int → Bool) : ∀ (l : List Int) (i : Int), 0 ≤ i → (decide (jT p l i ≥ 0)) = l.any p
 | [], i, h => rfl
 | x :: t, i, h => by
  unfold jT
  by_cases hx : p x = true
  ·rw [if_pos hx, List.any_cons, hx, Bool.true_or]; exact decide_eq_true h
  ·rw [if_neg hx, List.any_cons, Bool.eq_false_iff.mpr hx, Bool.false_or]; exact lu p t (i + 1) (by omega)
def gy.f (l0 : List Int) (a1 : Int) (a2 : Int) : Option Bool := some (!(l0.any (iU a1 a2)))
theorem gy.closure (b1 b2 : Nat) (lo hi n : Int) (w : World) (h1 : w.cell? ⟨b1, 0, none⟩ = some (.int .i64 lo)) (h2 : w.cell? ⟨b2, 0, none⟩ = some (.int .i64 hi)) :
  Calls Tryz.prog 86 #[.int .i64 n, .pointer (some ⟨b1, 0, none⟩), .pointer (some ⟨b2, 0, none⟩)] w fun e w' => e = .returned (.bool (iU lo hi n)) ∧ eY w w' := by
 go_enter Tryz.func86, Tryz.ntmps86
 go_wp2_with (go_at_call 54; (with_reducible refine (gz.calls n lo hi _ _ (uN n lo hi)).mono ?_); rintro e w' ⟨rfl, ⟨nd, rfl⟩⟩)
 go_ret
 exact ⟨by simp, ⟨_, rfl⟩⟩
theorem gy.index (b1 b2 : Nat) (lo hi : Int) (A0 : Option Addr) (c0 : Nat) (l0 : List Int) (w : World) (h1 : w.cell? ⟨b1, 0, none⟩ = some (.int .i64 lo)) (h2 : w.cell? ⟨b2, 0, none⟩ = some (.int .i64 hi)) (hr0 : Kd.C (Kd.int .i64) w A0 l0.length l0) (hc0 : l0.length ≤ c0) :
  Calls Tryz.prog 100 #[.slice A0 l0.length c0, .func (.func 86) #[] #[.pointer (some ⟨b1, 0, none⟩), .pointer (some ⟨b2, 0, none⟩)]] w fun e w' => e = .returned (.int .i64 (jT (iU lo hi) l0 0)) ∧ eY w w' := by
 have hlm : l0.length ≤ 9223372036854775807 := (Kd.nZ (d := (0 : Int)) hr0).2.1
 have HR0 := a_ hr0
 have A1 := a_ hc0
 clear hr0 hc0
 go_enter Tryz.func100, Tryz.ntmps100
 go_wp2
 go_loopg [8] (l0.length + 1) (fun kq v8 w' => ∃ (i : Nat), v8 = .int .i64 (i : Int) ∧ ah (i + kq = l0.length + 1 ∧ i ≤ l0.length) ∧ ah (jT (iU lo hi) (l0.drop i) i = jT (iU lo hi) l0 0) ∧ eY w w')
 case atStart => exact ⟨0, rfl, ⟨by omega, by omega⟩, ⟨by simp⟩, eY.refl _⟩
 case round =>
  obtain ⟨i, rfl, HK, HD, ⟨m, rfl⟩⟩ := hrel
  cases gk with
  | zero =>
   exact absurd HK.out (fun h => by omega)
  | succ k1 =>
   by_cases hlt : i < l0.length
   ·obtain ⟨ad, e, hx⟩ := Kd.dM HR0.out (i : Int) (by omega) (by omega)
    cases e
    rw [Int.toNat_natCast] at hx
    have hd : l0.drop i = rd l0 (i : Int) :: l0.drop (i + 1) := by
     rw [List.drop_eq_getElem_cons hlt]
     simp [rd, List.getD_eq_getElem?_getD, hlt]
    have HD2 := HD.out
    rw [hd, jT] at HD2
    have HE := a_ HD2
    clear HD HD2 hd
    go_wp2_with fail
    refine (gy.closure b1 b2 lo hi (rd l0 (i : Int)) _ (by go_simp) (by go_simp)).mono ?_
    rintro e w' ⟨rfl, ⟨nd, rfl⟩⟩
    generalize hp : iU lo hi (rd l0 (i : Int)) = q at HE ⊢
    cases q with
    | true =>
     have HD2 := HE.out
     rw [if_pos rfl] at HD2
     have HF := a_ HD2
     clear HE HD2 hp
     go_wp2
     go_ret
     rw [← HF.out]
     exact ⟨rfl, ⟨_, rfl⟩⟩
    | false =>
     have HD2 := HE.out
     rw [if_neg (by simp)] at HD2
     have HF := a_ HD2
     clear HE HD2 hp
     go_wp2
     go_roundg k1
     case measure => omega
     case rel => exact ⟨i + 1, by go_num, ⟨by have := HK.out; omega⟩, ⟨by rw [← HF.out]; rfl⟩, ⟨_, rfl⟩⟩
   ·have HD2 := HD.out
    rw [List.drop_of_length_le (by omega)] at HD2
    have HF := a_ HD2
    clear HD HD2
    go_wp2
    go_ret
    rw [← HF.out]
    exact ⟨rfl, ⟨_, rfl⟩⟩
theorem gy.contains (b1 b2 : Nat) (lo hi : Int) (A0 : Option Addr) (c0 : Nat) (l0 : List Int) (w : World) (h1 : w.cell? ⟨b1, 0, none⟩ = some (.int .i64 lo)) (h2 : w.cell? ⟨b2, 0, none⟩ = some (.int .i64 hi)) (hr0 : Kd.C (Kd.int .i64) w A0 l0.length l0) (hc0 : l0.length ≤ c0) :
  Calls Tryz.prog 85 #[.slice A0 l0.length c0, .func (.func 86) #[] #[.pointer (some ⟨b1, 0, none⟩), .pointer (some ⟨b2, 0, none⟩)]] w fun e w' => e = .returned (.bool (l0.any (iU lo hi))) ∧ eY w w' := by
 have HX := a_ (gy.index b1 b2 lo hi A0 c0 l0 w h1 h2 hr0 hc0)
 have HN := a_ (lu (iU lo hi) l0 0 (by omega))
 clear hr0 hc0
 go_enter Tryz.func85, Tryz.ntmps85
 go_wp2_with (go_at_call 100; (with_reducible refine HX.out.mono ?_); rintro e w' ⟨rfl, ⟨nd, rfl⟩⟩)
 go_ret
 rw [← HN.out]
 exact ⟨rfl, ⟨_, rfl⟩⟩
theorem gy.calls (A0 : Option Addr) (c0 : Nat) (l0 : List Int) (a1 : Int) (a2 : Int) (r : Bool) (w : World) (hr0 : Kd.C (Kd.int .i64) w A0 l0.length l0) (hc0 : l0.length ≤ c0) (h : gy.f l0 a1 a2 = some r) :
  Calls Tryz.prog 62 #[.slice A0 l0.length c0, .int .i64 a1, .int .i64 a2] w fun e w' => e = .returned (.bool r) ∧ Below w.heap.size w w' := by
 have hh := Option.some.inj h
 have HF := a_ hh
 have HR0 := a_ hr0
 have A1 := a_ hc0
 clear hr0 hc0 h hh
 go_enter Tryz.func62, Tryz.ntmps62
 go_wp2_with (go_at_call 85; (with_reducible refine (gy.contains w.heap.size (w.heap.size + 1) a1 a2 A0 c0 l0 _ ?s1 ?s2 ?s3 A1.out).mono ?_); (case s1 => go_simp); (case s2 => go_simp); (case s3 => exact Kd.dH (Kd.dH HR0.out _) _); rintro e w' ⟨rfl, ⟨nd, rfl⟩⟩)
 go_ret
 rw [← HF.out]
 exact ⟨by first | rfl | (simp; done), by repeat (first | (with_reducible first | exact Below.refl _ _ | apply aW | apply aN | apply aU) | exact Below.refl _ _)⟩
section
open Go.Maps Go.Sort Go.Shelf
def vs.ry : Go.Shelf.Ren := ⟨fun | 6 => 63 | 8 => 87 | 9 => 88 | 11 => 101 | 13 => 103 | 12 => 102 | 23 => 125 | 24 => 126 | 14 => 116 | 15 => 117 | 16 => 118 | 17 => 119 | 18 => 120 | 19 => 121 | 20 => 122 | 21 => 123 | 22 => 124 | 25 => 132 | 26 => 133 | 27 => 134 | 28 => 135 | 29 => 136 | 30 => 137 | 31 => 145 | n => n, fun | 26 => 2 | 28 => 79 | 24 => 22 | 0 => 0 | 3 => 3 | 37 => 115 | 48 => 135 | 50 => 137 | 4 => 4 | 40 => 128 | 39 => 127 | 45 => 132 | 5 => 5 | 9 => 9 | 51 => 142 | 55 => 146 | 57 => 150 | 58 => 151 | 33 => 98 | n => n, fun | n => n⟩
theorem vs.sorted : Go.Proofs.SlLaysZI.n6 Tryz.prog vs.ry := {
 mixed := by kernel_rfl
 f6 := ⟨Tryz.f63.name, by decide, Tryz.func63.trans (congrArg some (by kernel_rfl))⟩
 f8 := ⟨Tryz.f87.name, by decide, Tryz.func87.trans (congrArg some (by kernel_rfl))⟩
 f11 := ⟨Tryz.f101.name, by decide, Tryz.func101.trans (congrArg some (by kernel_rfl))⟩
 t0 := Tryz.underlying0
 a0 := Tryz.isAgg0
 z0 := Tryz.sizeOf0
 v0 := Tryz.zeroValue0
 t24 := Tryz.underlying22
 a24 := Tryz.isAgg22
 z24 := Tryz.sizeOf22
 v24 := Tryz.zeroValue22
 t26 := Tryz.underlying2
 a26 := Tryz.isAgg2
 z26 := Tryz.sizeOf2
 v26 := Tryz.zeroValue2
 t28 := Tryz.underlying79
 a28 := Tryz.isAgg79
 z28 := Tryz.sizeOf79
 v28 := Tryz.zeroValue79
 i26 := by kernel_rfl }
def vs.ze : Go.Shelf.Ren := ⟨fun | 5 => 88 | 8 => 103 | 7 => 102 | 19 => 125 | 20 => 126 | 10 => 116 | 11 => 117 | 12 => 118 | 13 => 119 | 14 => 120 | 15 => 121 | 16 => 122 | 17 => 123 | 18 => 124 | 30 => 132 | 31 => 133 | 32 => 134 | 33 => 135 | 34 => 136 | 35 => 137 | 40 => 145 | n => n, fun | 23 => 22 | 25 => 2 | 3 => 3 | 32 => 115 | 22 => 22 | 0 => 0 | 44 => 135 | 46 => 137 | 4 => 4 | 36 => 128 | 35 => 127 | 41 => 132 | 5 => 5 | 9 => 9 | 53 => 142 | 57 => 146 | 63 => 150 | 64 => 151 | n => n, fun | n => n⟩
theorem vs.sort : Go.Proofs.SlLaysM.n5 Tryz.prog vs.ze := {
 mixed := by kernel_rfl
 f5 := ⟨Tryz.f88.name, by decide, Tryz.func88.trans (congrArg some (by kernel_rfl))⟩
 f7 := ⟨Tryz.f102.name, by decide, Tryz.func102.trans (congrArg some (by kernel_rfl))⟩
 f8 := Tryz.func103.trans (congrArg some (by kernel_rfl))
 f10 := ⟨Tryz.f116.name, by decide, Tryz.func116.trans (congrArg some (by kernel_rfl))⟩
 f11 := ⟨Tryz.f117.name, by decide, Tryz.func117.trans (congrArg some (by kernel_rfl))⟩
 f12 := ⟨Tryz.f118.name, by decide, Tryz.func118.trans (congrArg some (by kernel_rfl))⟩
 f13 := ⟨Tryz.f119.name, by decide, Tryz.func119.trans (congrArg some (by kernel_rfl))⟩
 f14 := ⟨Tryz.f120.name, by decide, Tryz.func120.trans (congrArg some (by kernel_rfl))⟩
 f15 := ⟨Tryz.f121.name, by decide, Tryz.func121.trans (congrArg some (by kernel_rfl))⟩
 f16 := ⟨Tryz.f122.name, by decide, Tryz.func122.trans (congrArg some (by kernel_rfl))⟩
 f17 := ⟨Tryz.f123.name, by decide, Tryz.func123.trans (congrArg some (by kernel_rfl))⟩
 f18 := ⟨Tryz.f124.name, by decide, Tryz.func124.trans (congrArg some (by kernel_rfl))⟩
 f19 := Tryz.func125.trans (congrArg some (by kernel_rfl))
 f20 := Tryz.func126.trans (congrArg some (by kernel_rfl))
 f30 := ⟨Tryz.f132.name, by decide, Tryz.func132.trans (congrArg some (by kernel_rfl))⟩
 f31 := Tryz.func133.trans (congrArg some (by kernel_rfl))
 f32 := Tryz.func134.trans (congrArg some (by kernel_rfl))
 f33 := ⟨Tryz.f135.name, by decide, Tryz.func135.trans (congrArg some (by kernel_rfl))⟩
 f34 := ⟨Tryz.f136.name, by decide, Tryz.func136.trans (congrArg some (by kernel_rfl))⟩
 f35 := ⟨Tryz.f137.name, by decide, Tryz.func137.trans (congrArg some (by kernel_rfl))⟩
 f40 := ⟨Tryz.f145.name, by decide, Tryz.func145.trans (congrArg some (by kernel_rfl))⟩
 t0 := Tryz.underlying0
 a0 := Tryz.isAgg0
 z0 := Tryz.sizeOf0
 v0 := Tryz.zeroValue0
 t3 := Tryz.underlying3
 a3 := Tryz.isAgg3
 z3 := Tryz.sizeOf3
 v3 := Tryz.zeroValue3
 t4 := Tryz.underlying4
 a4 := Tryz.isAgg4
 z4 := Tryz.sizeOf4
 v4 := Tryz.zeroValue4
 t5 := Tryz.underlying5
 a5 := Tryz.isAgg5
 z5 := Tryz.sizeOf5
 v5 := Tryz.zeroValue5
 t9 := Tryz.underlying9
 a9 := Tryz.isAgg9
 z9 := Tryz.sizeOf9
 v9 := Tryz.zeroValue9
 t22 := Tryz.underlying22
 a22 := Tryz.isAgg22
 z22 := Tryz.sizeOf22
 v22 := Tryz.zeroValue22
 t23 := Tryz.underlying22
 a23 := Tryz.isAgg22
 z23 := Tryz.sizeOf22
 v23 := Tryz.zeroValue22
 t25 := Tryz.underlying2
 a25 := Tryz.isAgg2
 z25 := Tryz.sizeOf2
 v25 := Tryz.zeroValue2
 t32 := Tryz.underlying115
 a32 := Tryz.isAgg115
 z32 := Tryz.sizeOf115
 v32 := Tryz.zeroValue115
 t35 := Tryz.underlying127
 a35 := Tryz.isAgg127
 z35 := Tryz.sizeOf127
 v35 := Tryz.zeroValue127
 t36 := Tryz.underlying128
 a36 := Tryz.isAgg128
 z36 := Tryz.sizeOf128
 v36 := Tryz.zeroValue128
 t41 := Tryz.underlying132
 a41 := Tryz.isAgg132
 z41 := Tryz.sizeOf132
 v41 := Tryz.zeroValue132
 t44 := Tryz.underlying135
 a44 := Tryz.isAgg135
 z44 := Tryz.sizeOf135
 v44 := Tryz.zeroValue135
 t46 := Tryz.underlying137
 a46 := Tryz.isAgg137
 z46 := Tryz.sizeOf137
 v46 := Tryz.zeroValue137
 t53 := Tryz.underlying142
 a53 := Tryz.isAgg142
 z53 := Tryz.sizeOf142
 v53 := Tryz.zeroValue142
 t57 := Tryz.underlying146
 a57 := Tryz.isAgg146
 z57 := Tryz.sizeOf146
 v57 := Tryz.zeroValue146
 t63 := Tryz.underlying150
 a63 := Tryz.isAgg150
 z63 := Tryz.sizeOf150
 v63 := Tryz.zeroValue150
 t64 := Tryz.underlying151
 a64 := Tryz.isAgg151
 z64 := Tryz.sizeOf151
 v64 := Tryz.zeroValue151 }
theorem vs.sorts (m : Nat) : AnyZI.SortsIn Tryz.prog vs.ry Fence.wide m :=
 ⟨fun blk off cap ss W hH hblk hsz => callsIn_wide.2 (AnyM.slices_Sort_int vs.sort blk off cap ss W hH hblk hsz),
  fun p cap W => callsIn_wide.2 (AnyM.slices_Sort_int_none vs.sort p cap W)⟩
def vs.Gives (F : Fence) (n : Nat) (P : Program) (g : Nat) (lb : Array Value) (zs : List Int) (w : World) : Prop :=
 ∀ (l : Nat) (J : List Int → World → Prop) (W : World), (∀ pre W1, J pre W1 → Below w.heap.size w W1) →
  (∀ pre x W1, J pre W1 → pre.length < zs.length → YieldAt F (n - 1) P l #[encZ x] W1 fun e W' => e = .returned (.bool true) ∧ J (pre ++ [x]) W' ∧ KeepsWalks W1 W') →
  J [] W → CallsIn F n P g (#[.func (.yield l) #[] #[]] ++ lb) W fun e W' => (∃ v, e = .returned v) ∧ J zs W'
theorem vs.Gives.later {F : Fence} {n : Nat} {P : Program} {g : Nat} {lb : Array Value} {zs : List Int} {w w' : World} (h : vs.Gives F n P g lb zs w) (hb : Below w.heap.size w w') : vs.Gives F n P g lb zs w' :=
 fun l J W hJ hY h0 => h l J W (fun pre W1 hj => hb.trans ((hJ pre W1 hj).mono hb.size)) hY h0
def vs.upto (f : Nat → Int) (k : Nat) : List Int := (List.range k).map f
theorem vs.xN (f : Nat → Int) (k : Nat) : vs.upto f (k + 1) = vs.upto f k ++ [f k] := by simp [vs.upto, List.range_succ]
theorem vs.vO (f : Nat → Int) (k : Nat) : (vs.upto f k).length = k := by simp [vs.upto]
theorem vs.zi (zs : List Int) : vs.upto (fun j => zs[j]?.getD 0) zs.length = zs := by
 apply List.ext_getElem
 ·simp [vs.upto]
 ·intro i h1 h2
  simp [vs.upto, h2]
section
attribute [local go_sem] Oper.semAt_some
theorem vs.zV (n : Nat) (hn : 1 ≤ n) (Bs b off cap : Nat) (zs : List Int) (hreach : zs.length * 8 ≤ 140737488351232) (w : World) (hBl : Bs < w.heap.size) (hb : b < w.heap.size)
  (hBs : w.cell? ⟨Bs, 0, none⟩ = some (.slice (some ⟨b, off, none⟩) zs.length cap)) (hc : ∀ j, j < zs.length → w.cell? ⟨b, off + j, none⟩ = some (.int .i64 (zs[j]?.getD 0))) :
  vs.Gives Fence.wide n Tryz.prog 89 #[.pointer (some ⟨Bs, 0, none⟩)] zs w := by
 intro l J W hJB hY h0
 obtain ⟨f, hf⟩ : ∃ f : Nat → Int, f = fun j => zs[j]?.getD 0 := ⟨_, rfl⟩
 have hall : vs.upto f zs.length = zs := by rw [hf]; exact vs.zi zs
 have hc' : ∀ j, j < zs.length → w.cell? ⟨b, off + j, none⟩ = some (.int .i64 (f j)) := fun j hj => by rw [hf]; exact hc j hj
 clear hc hf
 have HA := a_ hall
 clear hall
 have key : ∀ len : Nat, len = zs.length → CallsIn Fence.wide n Tryz.prog 89 (#[.func (.yield l) #[] #[]] ++ #[.pointer (some ⟨Bs, 0, none⟩)]) W fun e W' => (∃ v, e = .returned v) ∧ J (vs.upto f len) W' := by
  intro len hlen
  rw [← hlen] at hreach hBs hc' hY
  clear hlen HA
  have hBs' := ((hJB _ _ h0).cell (p := ⟨Bs, 0, none⟩) hBl).trans hBs
  refine callsIn_of_wp Tryz.func89 rfl trivial ?_ rfl
  simp only [Tryz.ntmps89, List.size_toArray, List.length_cons, List.length_nil, Nat.reduceAdd, Nat.reduceSub, Array.replicate_succ, Array.replicate_zero, List.push_toArray, List.append_toArray, List.nil_append, List.cons_append]
  gi_wp2
  gi_loopw [7] (fun i wr => ∃ k : Nat, k ≤ len ∧ i = .int .i64 k ∧ J (vs.upto f k) wr)
   (fun i _ => len - (intOf i).toNat)
  case atStart => exact ⟨0, Nat.zero_le _, rfl, h0⟩
  case round =>
   obtain ⟨k, hk, rfl, hJs⟩ := hrel
   have hcx : k < len → wr.cell? ⟨b, off + k, none⟩ = some (.int .i64 (f k)) := fun h => ((hJB _ _ hJs).cell (p := ⟨b, off + k, none⟩) hb).trans (hc' k h)
   by_cases hlt : k < len
   ·obtain ⟨fn, tmps, assign, body, hy, hR⟩ := hY _ (f k) wr hJs (by rw [vs.vO]; exact hlt)
    have hcx' := hcx hlt
    dsimp only [encZ] at hy
    gi_wp2
    refine hR.mono ?_
    rintro e W3 ⟨rfl, hJ3, _⟩
    gi_wp2
    go_roundw
    case rel => exact ⟨k + 1, by omega, by simp, by rw [vs.xN]; exact hJ3⟩
    case measure => simp [intOf]; omega
   ·obtain rfl : k = len := by omega
    gi_wp2
    go_end0
    exact ⟨⟨_, rfl⟩, hJs⟩
 have := key zs.length rfl
 rw [HA.out] at this
 exact this
theorem vs.values (n : Nat) (a : Option Addr) (len cap : Nat) (w : World) :
  CallsIn Fence.wide n Tryz.prog 64 #[.slice a len cap] w fun e w' => e = .returned (.func (.func 89) #[] #[.pointer (some ⟨w.heap.size, 0, none⟩)]) ∧ w' = w.alloc (.cells #[.slice a len cap] 22) := by
 refine callsIn_of_wp Tryz.func64 rfl trivial ?_ rfl
 simp only [Tryz.ntmps64, List.size_toArray, List.length_cons, List.length_nil, Nat.reduceAdd, Nat.reduceSub, Array.replicate_succ, Array.replicate_zero, List.push_toArray, List.append_toArray, List.nil_append, List.cons_append]
 gi_wp2
 go_ret
 exact ⟨rfl, rfl⟩
end
variable {P : Program} {ρ : Ren}
theorem vs.append (L : SlLaysZI.n11 P ρ) (F : Fence) (n : Nat) (h11 : F.fn (ρ.f 11)) (hro : F.round = none) (hn : 2 ≤ n) (g : Nat) (lb : Array Value) (hFg : F.fn g) (eg : ∀ args w, (callFunc g args).run P w = .ok (.enter g args) w)
  (zs : List Int) (hN : zs.length ≤ maxLen) (hNb : zs.length * 8 ≤ 140737488355328) (w : World) (hseq : vs.Gives F (n - 1) P g lb zs w) :
  CallsIn F n P (ρ.f 11) #[.slice none 0 0, .func (.func g) #[] lb] w fun e w' => ∃ v : Value, e = .returned v ∧ w'.ownsRow w.heap.size (ρ.t 26) 1 v zs.length (zs.map encZ) ∧ Below w.heap.size w w' := by
 have h1 : 1 ≤ n := by omega
 have mixed := L.mixed; have t0 := L.t0; have a0 := L.a0; have z0 := L.z0; have v0 := L.v0; have t24 := L.t24; have a24 := L.a24; have z24 := L.z24; have v24 := L.v24; have t26 := L.t26; have a26 := L.a26; have z26 := L.z26; have v26 := L.v26; have t28 := L.t28; have a28 := L.a28; have z28 := L.z28; have v28 := L.v28
 have hne : ρ.t 24 ≠ ρ.t 26 := fun e => by have h := L.t24; rw [e, L.t26] at h; cases h
 have u0 := run_underlying L.t0; have u24 := run_underlying L.t24; have u26 := run_underlying L.t26; have u28 := run_underlying L.t28
 obtain ⟨_, _, FG⟩ := L.f11
 refine callsIn_of_wp_marks FG rfl h11 ?_ hro
 simp only [SlBodyZ.n11_ntmps ρ, List.size_toArray, List.length_cons, List.length_nil, Nat.reduceAdd, Nat.reduceSub, Array.replicate_succ, Array.replicate_zero, List.push_toArray, List.append_toArray, List.nil_append, List.cons_append]
 gi_wp2
 refine wpIn_rangeFunc ?_
 intro fn hfn
 rw [hro]
 obtain ⟨W0, hW0⟩ : ∃ W0, w.alloc (.cells #[.slice none 0 0] (ρ.t 24)) = W0 := ⟨_, rfl⟩
 have A1 : W0.heap.size = w.heap.size + 1 := by rw [← hW0]; simp
 have hv0 : W0.heap[w.heap.size]? = some (.cells #[.slice none 0 0] (ρ.t 24) (0, 0)) := by rw [← hW0]; exact World.alloc_heap_new w _
 have hb0 : Below w.heap.size w W0 := by rw [← hW0]; exact (Below.refl _ w).alloc (Nat.le_refl _) _
 rw [hW0]
 obtain ⟨W1, hW1⟩ : ∃ W1, (W0.alloc (.deferred (some []))).alloc (.loop (AnyZI.apRec ρ fn (.func (.func g) #[] lb) w.heap.size W0.heap.size .ready none)) = W1 := ⟨_, rfl⟩
 have hold : ∀ k, k < W0.heap.size → W1.heap[k]? = W0.heap[k]? := fun k hk => by
  rw [← hW1]; exact (Below.heap_alloc _ _ k (by simp; omega)).trans (Below.heap_alloc _ _ k hk)
 have hb1 : Below w.heap.size w W1 := by rw [← hW1]; exact (hb0.alloc hb0.size _).alloc (by have := hb0.size; simp; omega) _
 have hM : AnyZI.ApAt ρ w fn (.func (.func g) #[] lb) w.heap.size (W0.heap.size + 1) W0.heap.size [] W1 :=
  ⟨⟨_, (hold w.heap.size (by omega)).trans hv0, ⟨rfl, .inl ⟨rfl, rfl⟩⟩, by simp⟩,
   by rw [← hW1]; have := World.alloc_heap_new (W0.alloc (.deferred (some []))) (.loop (AnyZI.apRec ρ fn (.func (.func g) #[] lb) w.heap.size W0.heap.size .ready none)); rwa [World.size_alloc] at this,
   by rw [← hW1]; exact (Below.heap_alloc _ _ _ (by simp)).trans (World.alloc_heap_new W0 _), hb1⟩
 refine ⟨W0.heap.size + 1, [{ target := .collected W0.heap.size, args := #[] }], W1, { target := .fn (.func g) lb, args := #[.func (.yield (W0.heap.size + 1)) #[] #[]] }, W1, g,
  #[.func (.yield (W0.heap.size + 1)) #[] #[]] ++ lb, W1, ?_, ?_, ?_, ?_, fun _ => h1, ?_⟩
 ·rw [← hW1]; exact run_enterLoop_outer _ _ _ _ _
 ·simp [resolve, go_sem]
 ·intro f' hf'; simp [Target.leads] at hf'; subst hf'; exact hFg
 ·simp [invoke, go_sem, eg]
 ·refine (hseq (W0.heap.size + 1) (AnyZI.ApAt ρ w fn (.func (.func g) #[] lb) w.heap.size (W0.heap.size + 1) W0.heap.size) W1 (fun _ _ h => h.below)
   (fun pre x W hJ hl => AnyZI.apYield { L with } F (n - 1 - 1) w fn hfn _ w.heap.size (W0.heap.size + 1) W0.heap.size (by omega) (by omega) (by omega) (Nat.le_refl _) (by omega) zs.length hN hNb pre x W hJ hl) hM).mono ?_
  rintro e W2 ⟨⟨v0, rfl⟩, h2⟩
  obtain ⟨v, hv, hrow, hnil⟩ := h2.box
  have hend := run_endLoop (P := P) h2.L (by simp [AnyZI.apRec])
  obtain ⟨W3, hW3⟩ : ∃ W3, W2.putObj (W0.heap.size + 1) (.loop { AnyZI.apRec ρ fn (.func (.func g) #[] lb) w.heap.size W0.heap.size .ready none with state := .exhausted }) = W3 := ⟨_, rfl⟩
  rw [hW3] at hend
  have hg3 : W2.grownBy W3 (some (W0.heap.size + 1)) := by rw [← hW3]; exact grownBy_putObj_a _ _ _
  have hv3 : W3.heap[w.heap.size]? = some (.cells #[v] (ρ.t 24) (0, 0)) := by rw [← hW3]; exact (World.putObj_heap_other (by omega)).trans hv
  have hK3 : W3.heap[W0.heap.size]? = some (.deferred (some [])) := by rw [← hW3]; exact (World.putObj_heap_other (by omega)).trans h2.K
  have hrow3 := hrow.kept hg3 (ownsRow_ne_a hrow h2.L (fun cur e => by first | cases e | exact hne (Obj.cells.inj e).2.1))
  have hb3 : Below w.heap.size w W3 := h2.below.grown hg3 h2.below.size (fun k e => by cases e; omega)
  obtain ⟨hc3, hf3⟩ := cell_of_box_a hv3
  clear hW3
  refine ⟨none, W3, hend, ?_⟩
  gi_wp2
  rw [← A1]
  refine ⟨by simp, .inl ⟨_, _, rfl, run_takeDeferred hK3, ?_⟩⟩
  exact ⟨_, results_tmp rfl _ _ _, v, rfl, hrow3.kept (grownBy_putObj_a _ _ _) (ownsRow_ne_a hrow3 hK3 (fun cur e => by first | cases e | exact hne (Obj.cells.inj e).2.1)), hb3.grown (grownBy_putObj_a _ _ _) hb3.size (fun k e => by cases e; omega)⟩
theorem vs.collect (L : SlLaysZI.n8 P ρ) (F : Fence) (n : Nat) (h8 : F.fn (ρ.f 8)) (h11 : F.fn (ρ.f 11)) (hro : F.round = none) (hn : 3 ≤ n) (g : Nat) (lb : Array Value) (hFg : F.fn g) (eg : ∀ args w, (callFunc g args).run P w = .ok (.enter g args) w)
  (zs : List Int) (hN : zs.length ≤ maxLen) (hNb : zs.length * 8 ≤ 140737488355328) (w : World) (hseq : vs.Gives F (n - 1 - 1) P g lb zs w) :
  CallsIn F n P (ρ.f 8) #[.func (.func g) #[] lb] w fun e w' => ∃ v : Value, e = .returned v ∧ w'.ownsRow w.heap.size (ρ.t 26) 1 v zs.length (zs.map encZ) ∧ Below w.heap.size w w' := by
 have h1 : 1 ≤ n := by omega
 have A1 : ∀ args w, (callFunc (ρ.f 11) args).run P w = .ok (.enter (ρ.f 11) args) w := L.f11.enters rfl
 have mixed := L.mixed; have t0 := L.t0; have a0 := L.a0; have z0 := L.z0; have v0 := L.v0; have t24 := L.t24; have a24 := L.a24; have z24 := L.z24; have v24 := L.v24; have t26 := L.t26; have a26 := L.a26; have z26 := L.z26; have v26 := L.v26; have t28 := L.t28; have a28 := L.a28; have z28 := L.z28; have v28 := L.v28
 have u0 := run_underlying L.t0; have u24 := run_underlying L.t24; have u26 := run_underlying L.t26; have u28 := run_underlying L.t28
 obtain ⟨_, _, FG⟩ := L.f8
 refine callsIn_of_wp FG rfl h8 ?_ hro
 simp only [SlBodyZ.n8_ntmps ρ, List.size_toArray, List.length_cons, List.length_nil, Nat.reduceAdd, Nat.reduceSub, Array.replicate_succ, Array.replicate_zero, List.push_toArray, List.append_toArray, List.nil_append, List.cons_append]
 gi_wp2_with (gi_at_fn (ρ.f 11); refine (vs.append { L with } F (n - 1) h11 hro (by omega) g lb hFg eg zs hN hNb _ hseq).mono ?_; rintro e w' ⟨v, rfl, hrow, hb⟩)
 go_ret
 exact ⟨v, rfl, hrow, hb⟩
theorem vs.sorted_in (L : SlLaysZI.n6 P ρ) (F : Fence) (n : Nat) (h6 : F.fn (ρ.f 6)) (h8 : F.fn (ρ.f 8)) (h9 : F.fn (ρ.f 9)) (h11 : F.fn (ρ.f 11)) (hro : F.round = none) (hn : 4 ≤ n) (hsort : AnyZI.SortsIn P ρ F (n - 1)) (e9 : ∀ args w, (callFunc (ρ.f 9) args).run P w = .ok (.enter (ρ.f 9) args) w) (g : Nat) (lb : Array Value) (hFg : F.fn g) (eg : ∀ args w, (callFunc g args).run P w = .ok (.enter g args) w)
  (zs : List Int) (hN : zs.length ≤ maxLen) (hNb : zs.length * 8 ≤ 140737488355328) (w : World) (hseq : vs.Gives F (n - 1 - 1 - 1) P g lb zs w) :
  CallsIn F n P (ρ.f 6) #[.func (.func g) #[] lb] w fun e w' => ∃ v : Value, e = .returned v ∧ w'.ownsRow w.heap.size (ρ.t 26) 1 v zs.length ((zs.mergeSort (fun x y => decide (x ≤ y))).map encZ) ∧ Below w.heap.size w w' := by
 have h1 : 1 ≤ n := by omega
 have e8 : ∀ args w, (callFunc (ρ.f 8) args).run P w = .ok (.enter (ρ.f 8) args) w := L.f8.enters rfl
 have mixed := L.mixed; have t0 := L.t0; have a0 := L.a0; have z0 := L.z0; have v0 := L.v0; have t24 := L.t24; have a24 := L.a24; have z24 := L.z24; have v24 := L.v24; have t26 := L.t26; have a26 := L.a26; have z26 := L.z26; have v26 := L.v26; have t28 := L.t28; have a28 := L.a28; have z28 := L.z28; have v28 := L.v28
 have u0 := run_underlying L.t0; have u24 := run_underlying L.t24; have u26 := run_underlying L.t26; have u28 := run_underlying L.t28
 obtain ⟨_, _, FG⟩ := L.f6
 refine callsIn_of_wp FG rfl h6 ?_ hro
 simp only [SlBodyZ.n6_ntmps ρ, List.size_toArray, List.length_cons, List.length_nil, Nat.reduceAdd, Nat.reduceSub, Array.replicate_succ, Array.replicate_zero, List.push_toArray, List.append_toArray, List.nil_append, List.cons_append]
 gi_wp2_with (gi_at_fn (ρ.f 8); refine (vs.collect { L with } F (n - 1) h8 h11 hro (by omega) g lb hFg eg zs hN hNb _ hseq).mono ?_; rintro e W ⟨v, rfl, hrow, hb⟩)
 rcases hrow.2 with ⟨rfl, hz⟩ | ⟨gb, cap, cur, rfl, hbase, hgb, r1, r2, r3, r4⟩
 ·have hss : zs = [] := List.eq_nil_of_length_eq_zero hz
  subst hss
  gi_wp2_with (gi_at_fn (ρ.f 9); refine (hsort.2 none 0 W).mono ?_; rintro e w' ⟨rfl, rfl⟩)
  go_ret
  exact ⟨.slice none 0 0, rfl, by simpa using hrow, hb⟩
 ·have hH : Holds encZ W gb 0 zs.toArray := holds_of_block_i hgb (by simpa using r4)
  have hgl : gb < W.heap.size := (Array.getElem?_eq_some_iff.1 hgb).1
  have hsz : zs.length < 4611686018427387904 := by omega
  have cS := hsort.1 gb 0 cap zs W hH hgl hsz
  gi_wp2_with (gi_at_fn (ρ.f 9); refine cS.mono ?_; rintro e w' ⟨rfl, nn, os, rfl⟩)
  go_ret
  exact ⟨_, rfl, ownsRow_sorted_i (by simp) hbase hgb r1 r2 r3, hb.grown (grownBy_sorted_i _) hb.size (fun j hj => by cases hj; exact hbase)⟩
theorem vs.valuesOf (A : Option Addr) (n c : Nat) (w : World) :
  Calls Tryz.prog 64 #[.slice A n c] w fun e w' => e = .returned (.func (.func 89) #[] #[.pointer (some ⟨w.heap.size, 0, none⟩)]) ∧ w' = w.alloc (.cells #[.slice A n c] 22) :=
 (callsIn_wide (n := 5)).1 (vs.values 5 A n c w)
theorem vs.zf (A : Option Addr) (c : Nat) (zs : List Int) (w : World) (hC : Kd.C (Kd.int .i64) w A zs.length zs) (h0 : 0 < zs.length) (hs : zs.length ≤ 1000000) :
  Calls Tryz.prog 63 #[.func (.func 89) #[] #[.pointer (some ⟨w.heap.size, 0, none⟩)]] (w.alloc (.cells #[.slice A zs.length c] 22)) fun e w' => ∃ v : Value, e = .returned v ∧ Kd.R (Kd.int .i64) 2 w' w.heap.size (fun _ => True) v (zs.mergeSort (fun x y => decide (x ≤ y))) ∧ Below w.heap.size w w' := by
 refine (callsIn_wide (n := 5)).1 ?_
 obtain ⟨ad, rfl, hc0⟩ := Kd.dM hC 0 (by omega) (by omega)
 obtain ⟨b, off, spot⟩ := ad
 have hspot : spot = none := by simpa [Addr.add] using World.cell?_spot hc0
 subst hspot
 have hb : b < w.heap.size := World.block_lt_of_cell? _ _ hc0
 obtain ⟨w1, hw1⟩ : ∃ w1, w.alloc (.cells #[.slice (some ⟨b, off, none⟩) zs.length c] 22) = w1 := ⟨_, rfl⟩
 have hB : Below w.heap.size w w1 := by rw [← hw1]; exact aW (Below.refl _ _) _
 have hn : w1.cell? ⟨w.heap.size, 0, none⟩ = some (.slice (some ⟨b, off, none⟩) zs.length c) := by rw [← hw1]; exact (World.cell?_alloc_at _ _ _ _ rfl).trans rfl
 have hl : w.heap.size < w1.heap.size := by rw [← hw1]; simp
 rw [hw1]
 have hcs : ∀ j, j < zs.length → w1.cell? ⟨b, off + j, none⟩ = some (.int .i64 (zs[j]?.getD 0)) := by
  intro j hj
  obtain ⟨ad, e, hc⟩ := Kd.dM hC (j : Int) (by omega) (by omega)
  obtain rfl := Option.some.inj e
  rw [Int.toNat_natCast, Go.WideShapes.add_plain] at hc
  have e2 : zs.getD ((j : Int).toNat) 0 = zs[j]?.getD 0 := by rw [Int.toNat_natCast, List.getD_eq_getElem?_getD]
  rw [← e2]
  exact (hB.cell (p := ⟨b, off + j, none⟩) hb).trans hc
 have hseq := vs.zV 2 (by omega) w.heap.size b off c zs (by omega) w1 hl (by omega) hn hcs
 have hr := vs.sorted_in vs.sorted Fence.wide 5 trivial trivial trivial trivial rfl (by omega) (vs.sorts _) (enters_of Tryz.func88 (by kernel_rfl) rfl) 89 #[.pointer (some ⟨w.heap.size, 0, none⟩)] trivial (enters_of Tryz.func89 (by kernel_rfl) rfl) zs (by have : maxLen = 9223372036854775807 := rfl; omega) (by omega) w1 hseq
 refine hr.mono ?_
 rintro e w' ⟨v, rfl, ho, hb2⟩
 have hlm : (zs.mergeSort (fun x y => decide (x ≤ y))).length = zs.length := List.length_mergeSort zs
 have ho2 : w'.ownsRow w.heap.size 2 1 v zs.length ((zs.mergeSort (fun x y => decide (x ≤ y))).map encZ) := qZ ho (by omega)
 rw [← hlm] at ho2
 exact ⟨v, rfl, Kd.kg ho2 (fun _ _ => trivial), hB.trans (hb2.mono (by omega))⟩
end
def fw.f (l0 : List Int) : Option (List Int) := if 0 < l0.length then (if l0.length ≤ 1000000 then some (l0.mergeSort (fun x y => decide (x ≤ y))) else none) else none
theorem fw.calls (A0 : Option Addr) (c0 : Nat) (l0 : List Int) (r : List Int) (w : World) (hr0 : Kd.C (Kd.int .i64) w A0 l0.length l0) (hc0 : l0.length ≤ c0) (h : fw.f l0 = some r) :
  Calls Tryz.prog 63 #[.func (.func 89) #[] #[.pointer (some ⟨w.heap.size, 0, none⟩)]] (w.alloc (.cells #[.slice A0 l0.length c0] 22)) fun e w' => ∃ v0_ : Value, e = .returned (v0_) ∧ Kd.R (Kd.int .i64) 2 w' w.heap.size (fun _ => True) v0_ r ∧ Below w.heap.size w w' := by
 unfold fw.f at h
 by_cases h1 : 0 < l0.length
 ·rw [if_pos h1] at h
  by_cases h2 : l0.length ≤ 1000000
  ·rw [if_pos h2] at h
   obtain rfl := Option.some.inj h
   exact vs.zf A0 c0 l0 w hr0 h1 h2
  ·rw [if_neg h2] at h; cases h
 ·rw [if_neg h1] at h; cases h
def rT : Go.Shelf.Ren := ⟨fun | 4 => 90 | n => n, fun | 22 => 22 | 25 => 2 | 3 => 3 | 4 => 4 | 9 => 9 | 20 => 20 | 0 => 0 | n => n, fun | n => n⟩
theorem sS : Go.Proofs.Lays8.n4 Tryz.prog rT := {
 mixed := by kernel_rfl
 f4 := ⟨Tryz.f90.name, by decide, Tryz.func90.trans (congrArg some (by kernel_rfl))⟩
 t0 := Tryz.underlying0
 a0 := Tryz.isAgg0
 z0 := Tryz.sizeOf0
 v0 := Tryz.zeroValue0
 t3 := Tryz.underlying3
 a3 := Tryz.isAgg3
 z3 := Tryz.sizeOf3
 v3 := Tryz.zeroValue3
 t4 := Tryz.underlying4
 a4 := Tryz.isAgg4
 z4 := Tryz.sizeOf4
 v4 := Tryz.zeroValue4
 t9 := Tryz.underlying9
 a9 := Tryz.isAgg9
 z9 := Tryz.sizeOf9
 v9 := Tryz.zeroValue9
 t20 := Tryz.underlying20
 a20 := Tryz.isAgg20
 z20 := Tryz.sizeOf20
 v20 := Tryz.zeroValue20
 t22 := Tryz.underlying22
 a22 := Tryz.isAgg22
 z22 := Tryz.sizeOf22
 v22 := Tryz.zeroValue22 }
def fB.f (l0 : List Int) (a1 : Int) : Option (List Int) := if l0 = [] then (if 0 ≤ a1 then (if a1 ≤ 1000000 then some [] else none) else none) else none
theorem fB.calls (P0_ : Nat → Prop) (u_ : Value) (l0 : List Int) (a1 : Int) (r : List Int) (w0 w : World) (hB : Below w0.heap.size w0 w) (ho0 : Kd.R (Kd.int .i64) 2 w w0.heap.size P0_ u_ l0) (h : fB.f l0 a1 = some r) :
  Calls Tryz.prog 90 #[u_, .int .i64 a1] w fun e w' => ∃ v0_ : Value, e = .returned (v0_) ∧ Kd.R (Kd.int .i64) 2 w' w0.heap.size (fun k_ => (P0_ k_ ∨ w.heap.size ≤ k_)) v0_ r ∧ Below w0.heap.size w0 w' ∧ Kept w w' (fun k_ => P0_ k_) := by
 unfold fB.f at h
 by_cases c1 : l0 = []
 ·rw [if_pos c1] at h
  by_cases c2 : 0 ≤ a1
  ·rw [if_pos c2] at h
   by_cases c3 : a1 ≤ 1000000
   ·rw [if_pos c3] at h
    subst c1
    obtain rfl := Option.some.inj h
    clear h
    obtain ⟨n, rfl⟩ := Int.eq_ofNat_of_zero_le c2
    have hw := hB.size
    obtain ⟨i0, hi0, hz0, hz1, hz2⟩ := info_parts (show (Tryz.prog.info? 2).map (fun i => (i.zero, i.size, i.bytes)) = some (some (.int .i64 0), 1, 8) by kernel_rfl)
    have key : ∀ (base : Option Addr) (c : Nat) (cs : List Value), u_ = .slice base 0 c → c ≤ maxLen → cs.length = c → (base = none → c = 0) → (∀ a, base = some a → ∀ j v, cs[j]? = some v → w.cell? (a.add j) = some v) → Calls Tryz.prog 90 #[u_, .int .i64 (n : Int)] w fun e w' => ∃ v0_ : Value, e = .returned (v0_) ∧ Kd.R (Kd.int .i64) 2 w' w0.heap.size (fun k_ => (P0_ k_ ∨ w.heap.size ≤ k_)) v0_ [] ∧ Below w0.heap.size w0 w' ∧ Kept w w' (fun k_ => P0_ k_) := by
     intro base c cs hu hmx hcl hnil hcs
     subst hu
     by_cases hr : 0 + n ≤ c
     ·have hcon := Go.Proofs.Any8.slices_Grow_room sS base 0 c n w (Nat.zero_le _) (by simpa [maxLen] using hmx) (by omega) hr
      change Calls Tryz.prog 90 _ _ _ at hcon
      refine hcon.mono ?_
      rintro e w' ⟨rfl, rfl⟩
      exact ⟨_, rfl, Kd.ae ho0 (fun _ hk => .inl hk), hB, Kept.refl _ _⟩
     ·have hcon := Go.Proofs.Any8.slices_Grow_grow sS i0 (.int .i64 0) hi0 hz0 (by omega) base 0 c n cs w (Nat.zero_le _) (by omega) (by rw [hz2]; omega) (by omega) (by rw [hz1, hcl]; omega) hnil hcs
      change Calls Tryz.prog 90 _ _ _ at hcon
      refine hcon.mono ?_
      rintro e w' ⟨rfl, rfl⟩
      have hge := grownCap_ge w (0 + n) c 2
      have hle := grownCap_le_maxLen w (0 + n) c 2 (by unfold maxLen; omega)
      refine ⟨_, rfl, Kd.kg ⟨by simp [encs], .inr ⟨w.heap.size, _, _, rfl, hw, heap_alloc_new _ _, Nat.zero_le _, hle, ?_, by simp [encs]⟩⟩ (fun k hk => .inr ?_), (hB.drew).alloc hw _, (Kept.refl w _).below (((Below.refl _ _).drew).alloc (Nat.le_refl _) _)⟩
      ·rw [Array.size_append, Array.size_append, size_zeroCells, size_zeroCells, List.size_toArray, hcl]
       show c + (0 + n - c) * 1 + (grownCap w (0 + n) c 2 - (0 + n)) * 1 = grownCap w (0 + n) c 2 * 1
       omega
      ·simp [Value.ownBlock] at hk
       omega
    obtain ⟨_, ho⟩ := Kd.gJ ho0
    rcases ho with ⟨hv, _⟩ | ⟨g, cap, cur, hv, hg, hh, hn, hm, hsz, _⟩
    ·exact key none 0 [] hv (Nat.zero_le _) rfl (fun _ => rfl) (fun a ha => by cases ha)
    ·refine key (some ⟨g, 0, none⟩) cap cur.toList hv hm (by simp [hsz]) (fun ha => by cases ha) ?_
     intro a ha j v hj
     injection ha with ha
     subst ha
     have e : (⟨g, 0, none⟩ : Addr).add j = ⟨g, j, none⟩ := by
      unfold Addr.add
      split
      ·rename_i h0
       rw [h0]
      ·simp
     rw [e]
     simp only [World.cell?, hh]
     simpa using hj
   ·rw [if_neg c3] at h
    exact absurd h (by simp)
  ·rw [if_neg c2] at h
   exact absurd h (by simp)
 ·rw [if_neg c1] at h
  exact absurd h (by simp)
mutual
def au.l0 : Nat → List (List Int) → Int → List (List Int) → Int → Int → Option (List Int)
 | 0, _, _, _, _, _ => none
 | k + 1, x0, x3, x9, x10, x11 => if x11 < x10 then (if 0 ≤ x11 then (if x11 < (x9.length : Int) then (if (wrap64 (x3 + ((lC x9 x11).length : Int))) < 0 then (none) else (au.l0 k x0 (wrap64 (x3 + ((lC x9 x11).length : Int))) x9 x10 (wrap64 (x11 + 1)))) else (none)) else (none)) else ((fB.f ([] : List Int) x3).bind fun t284 => (au.l1 k t284 x0 (x0.length : Int) 0))
def au.l1 : Nat → List Int → List (List Int) → Int → Int → Option (List Int)
 | 0, _, _, _, _ => none
 | k + 1, x6, x25, x26, x27 => if x27 < x26 then (if 0 ≤ x27 then (if x27 < (x25.length : Int) then (if x6.length + (lC x25 x27).length < 17592186044416 then (au.l1 k (x6 ++ (lC x25 x27)) x25 x26 (wrap64 (x27 + 1))) else (none)) else (none)) else (none)) else (some x6)
end
def au.f (k : Nat) (l0 : List (List Int)) : Option (List Int) := au.l0 k l0 0 l0 (l0.length : Int) 0
theorem au.di : ∀ k, (∀ y0 y1 y2 y3 y4, LeO (au.l0 k y0 y1 y2 y3 y4) (au.l0 (k + 1) y0 y1 y2 y3 y4)) ∧ (∀ y0 y1 y2 y3, LeO (au.l1 k y0 y1 y2 y3) (au.l1 (k + 1) y0 y1 y2 y3))
 | 0 => ⟨fun _ _ _ _ _ r h => by simp [au.l0] at h, fun _ _ _ _ r h => by simp [au.l1] at h⟩
 | k + 1 => by
  obtain ⟨ih0, ih1⟩ := au.di k
  refine ⟨?_, ?_⟩ <;> intros <;> (first | unfold au.l0 | unfold au.l1) <;> (repeat' first | (with_reducible first | exact ih0 .. | exact ih1 .. | exact LeO.refl .. | exact LeO.none .. | refine LeO.ite ?_ ?_ | refine LeO.bind ?_ (fun _ => ?_)))
theorem au.mono : ∀ a0 k, LeO (au.f k a0) (au.f (k + 1) a0) := by
 intro a0 k
 obtain ⟨ih0, ih1⟩ := au.di k
 unfold au.f
 repeat' first | (with_reducible first | exact ih0 .. | exact ih1 .. | exact LeO.refl .. | exact LeO.none .. | refine LeO.ite ?_ ?_ | refine LeO.bind ?_ (fun _ => ?_))
theorem au.calls (k : Nat) (A0 : Option Addr) (c0 : Nat) (l0 : List (List Int)) (r : List Int) (w : World) (hr0 : Kd.C (Kd.slice 2 (Kd.int .i64)) w A0 l0.length l0) (hc0 : l0.length ≤ c0) (h : au.f k l0 = some r) :
  Calls Tryz.prog 65 #[.slice A0 l0.length c0] w fun e w' => ∃ v0_ : Value, e = .returned (v0_) ∧ Kd.R (Kd.int .i64) 2 w' w.heap.size (fun _ => True) v0_ r ∧ Below w.heap.size w w' := by
 have HR0 := a_ hr0
 have E9 := a_ hc0
 clear hr0 hc0
 have HB := a_ (Below.refl w.heap.size w)
 have H : (au.l0 k l0 0 l0 (l0.length : Int) 0) = some r := h
 clear h
 have H' := a_ H
 clear H
 go_enter Tryz.func65, Tryz.ntmps65
 go_wp2
 go_loopg [3, 11] k (fun kq v3 v11 w' => ∃ (B0 : Int) (A2 : Int), v3 = .int .i64 B0 ∧ v11 = .int .i64 A2 ∧ ah (au.l0 kq l0 B0 l0 (l0.length : Int) A2 = some r) ∧ ah (kq ≤ k) ∧ ah (Below w.heap.size w w'))
 case atStart => exact ⟨(0), (0), bZ, bZ, H', ⟨Nat.le_refl _⟩, ⟨bO⟩⟩
 case round =>
  clear H'
  obtain ⟨B0, A2, rfl, rfl, HA, HK1, HB⟩ := hrel
  cases gk with
  | zero => exact absurd HA.out (by simp [au.l0])
  | succ k1 =>
   have H := HA.out
   clear HA
   simp only [au.l0] at H
   by_cases c2 : A2 < (l0.length : Int)
   ·rw [if_pos c2] at H
    have C4 := decide_eq_true c2
    clear c2
    replace H := ig_ H; obtain ⟨c3, H⟩ := H
    have E3 := decide_eq_true c3
    clear c3
    replace H := ig_ H; obtain ⟨c4, H⟩ := H
    have E4 := decide_eq_true c4
    clear c4
    replace H := in_ H; obtain ⟨c5, H⟩ := H
    have E5 := decide_eq_false c5
    clear c5
    have H' := a_ H
    clear H
    have C0 : 0 ≤ (A2 : Int) := of_decide_eq_true aG
    have C1 : A2 < (l0.length : Int) := of_decide_eq_true aG
    obtain ⟨E0, D3, D4, D5, A3, A5, A7⟩ := Aj HR0.out A2 C0 C1
    cases D5
    replace A3 := (HB.out.cell (World.block_lt_of_cell? _ _ A3)).trans A3
    have D0 := a_ A7
    have D1 := a_ A5
    clear A7 A5
    replace C0 := eq_true C0
    replace C1 := eq_true C1
    go_wp2
    go_roundg k1
    case measure => have := HK1.out; omega
    case rel => exact ⟨(wrap64 (B0 + ((lC l0 A2).length : Int))), (wrap64 (A2 + 1)), bZ, bZ, H', ⟨jR⟩, ⟨bO⟩⟩
   rw [if_neg c2] at H
   have C4 := decide_eq_false c2
   clear c2
   replace H := bo_ H; obtain ⟨C5, A6, H⟩ := H; (try dsimp only at H)
   have H' := a_ H
   clear H
   go_wp2_with (first | ((with_reducible refine av (f := 90) rfl ?_); refine bI (some 24) rfl rfl Tryz.func90 (by kernel_rfl) rfl #[.slice none 0 0, .int .i64 B0] rfl dL ?_; (refine (fB.calls (fun k_ => some k_ = (.slice none 0 0 : Value).ownBlock) (.slice none 0 0) ([] : List Int) B0 C5 w _ ?side1 ?side2 A6.out).mono ?_); (case side1 => exact bO); (case side2 => exact Kd.qM _ _ _ _ _); rintro e w7 ⟨E6, rfl, ho0, hb, hkp⟩; refine ⟨_, rfl, ?_⟩; have C6 := a_ (Kd.ae (ok' := fun k_ => True) ho0 (fun k_ hk_ => trivial)); replace HB := a_ (hb); (try clear hb); (try clear hkp); (try clear ho0)))
   go_loopg [6, 27] k1 (fun kq v6 v27 w' => ∃ (B3 : List Int) (A1 : Int), v27 = .int .i64 A1 ∧ ah (au.l1 kq B3 l0 (l0.length : Int) A1 = some r) ∧ ah (kq ≤ k1) ∧ ah (Kd.R (Kd.int .i64) 2 w' w.heap.size (fun _ => True) v6 B3) ∧ ah (Below w.heap.size w w'))
   case atStart => exact ⟨(C5), (0), bZ, H', ⟨Nat.le_refl _⟩, ⟨by (with_reducible repeat (first | apply Kd.aC | apply Kd.aD | apply Kd.az)); exact C6.out⟩, ⟨bO⟩⟩
   case round =>
    clear H'
    try clear C4
    obtain ⟨B3, A1, rfl, HA, HK2, HO_6, HB⟩ := hrel
    cases gk with
    | zero => exact absurd HA.out (by simp [au.l1])
    | succ k2 =>
     have H := HA.out
     clear HA
     simp only [au.l1] at H
     by_cases c8 : A1 < (l0.length : Int)
     ·rw [if_pos c8] at H
      have D6 := decide_eq_true c8
      clear c8
      replace H := ig_ H; obtain ⟨c9, H⟩ := H
      have E7 := decide_eq_true c9
      clear c9
      replace H := ig_ H; obtain ⟨c10, H⟩ := H
      have E1 := decide_eq_true c10
      clear c10
      replace H := ig_ H; obtain ⟨c11, H⟩ := H
      have LMc11 := a_ c11
      clear c11
      obtain ⟨C7, B4⟩ : ∃ y_ : List Int, y_ = (B3 ++ (lC l0 A1)) := ⟨_, rfl⟩
      replace H : (au.l1 k2 C7 l0 (l0.length : Int) (wrap64 (A1 + 1))) = some r := rh_ B4 H
      have C8 := a_ B4
      clear B4
      have H' := a_ H
      clear H
      have C2 : 0 ≤ (A1 : Int) := of_decide_eq_true aG
      have C3 : A1 < (l0.length : Int) := of_decide_eq_true aG
      obtain ⟨E2, D7, D8, D9, A4, A8, A9⟩ := Aj HR0.out A1 C2 C3
      cases D9
      replace A4 := (HB.out.cell (World.block_lt_of_cell? _ _ A4)).trans A4
      have B7 := a_ A9
      have D2 := a_ A8
      clear A9 A8
      replace C2 := eq_true C2
      replace C3 := eq_true C3
      go_wp2_with (first | ((with_reducible refine bF (b := .append) (xs := #[.tmp 31, .tmp 32]) rfl ?_); at_builtin; refine Kd.dO (Kd.int .i64) (w0 := w) w.heap.size rfl (.tmp 31) (.tmp 32) 22 2 (.int .i64 0) 8 rfl Tryz.underlying22 jc rfl (by decide) (by omega) u6 B3 (lC l0 A1) _ _ _ (fun _ => True) (fun _ => False) rfl rfl ?aO ?aR (fun _ _ h => h) (fun _ h => h.elim) ?aF ?aB ?aS ?aL ?_; (case aR => exact kc_ (Kd.bE B7.out HB.out)); (case aB => exact bO); (case aF => exact (fun _ _ => trivial)); (case aO => exact (ra_ HO_6.out)); (case aS => exact (af bO)); (case aL => have := LMc11.out; omega); intro E8 F0 ho hb hg hat; rw [← C8.out] at ho; replace HB := a_ (hb); have C9 := a_ (ho); clear HO_6; clear ho hb hg hat))
      go_roundg k2
      case measure => have := HK1.out; have := HK2.out; omega
      case rel => exact ⟨(C7), (wrap64 (A1 + 1)), bZ, H', ⟨ko⟩, ⟨by (with_reducible repeat (first | apply Kd.aC | apply Kd.aD | apply Kd.az)); exact C9.out⟩, ⟨bO⟩⟩
     rw [if_neg c8] at H
     have D6 := decide_eq_false c8
     clear c8
     obtain rfl := Option.some.inj H
     go_wp2
     go_ret
     exact ⟨_, fO, tQ, bO⟩
mutual
def bv.j0 : Nat → Bool → Int → Int → List Int → List Int → List Int → Option (Bool)
 | 0, _, _, _, _, _, _ => none
 | k + 1, x42, x292000, x292001, x292002, x292003, x292004 => if x42 = true then (some false) else ((au.f k (([x292002, x292003] : List (List Int)))).bind fun t300 => ((fw.f t300).bind fun t303 => (bv.l0 k t303 t303 (t303.length : Int) 0)))
def bv.l0 : Nat → List Int → List Int → Int → Int → Option (Bool)
 | 0, _, _, _, _ => none
 | k + 1, x4, x51, x52, x53 => if x53 < x52 then (if 0 ≤ x53 then (if x53 < (x51.length : Int) then (if 0 < (x4.length : Int) then ((gz.f (rd x4 0) 1 1000000000).bind fun t308 => (if t308 = true then (if (rd x51 x53) = (wrap64 ((rd x4 0) + x53)) then (bv.l0 k x4 x51 x52 (wrap64 (x53 + 1))) else (some false)) else (some false))) else (none)) else (none)) else (none)) else (some true)
end
def bv.f (k : Nat) (a0_0 : Int) (a0_1 : Int) (l0_2 : List Int) (l0_3 : List Int) (l0_4 : List Int) : Option (Bool) := (dP.f a0_0 a0_1).bind fun t292 => (if t292 = true then ((dD.f l0_2).bind fun t293 => (if t293 = (wrap64 (a0_0 * a0_1)) then ((dD.f l0_3).bind fun t294 => (if t294 = (wrap64 (a0_0 * a0_1)) then ((dD.f l0_4).bind fun t295 => (if t295 = (wrap64 (a0_0 * a0_1)) then ((gy.f l0_4 0 1).bind fun t296 => (bv.j0 k (!t296) a0_0 a0_1 l0_2 l0_3 l0_4)) else (bv.j0 k true a0_0 a0_1 l0_2 l0_3 l0_4))) else (bv.j0 k true a0_0 a0_1 l0_2 l0_3 l0_4))) else (bv.j0 k true a0_0 a0_1 l0_2 l0_3 l0_4))) else (some false))
theorem bv.di : ∀ k, (∀ y0 y1 y2 y3 y4 y5, LeO (bv.j0 k y0 y1 y2 y3 y4 y5) (bv.j0 (k + 1) y0 y1 y2 y3 y4 y5)) ∧ (∀ y0 y1 y2 y3, LeO (bv.l0 k y0 y1 y2 y3) (bv.l0 (k + 1) y0 y1 y2 y3))
 | 0 => ⟨fun _ _ _ _ _ _ r h => by simp [bv.j0] at h, fun _ _ _ _ r h => by simp [bv.l0] at h⟩
 | k + 1 => by
  obtain ⟨ih0, ih1⟩ := bv.di k
  refine ⟨?_, ?_⟩ <;> intros <;> (first | unfold bv.j0 | unfold bv.l0) <;> (repeat' first | (with_reducible first | exact ih0 .. | exact ih1 .. | exact au.mono .. | exact LeO.refl .. | exact LeO.none .. | refine LeO.ite ?_ ?_ | refine LeO.bind ?_ (fun _ => ?_)))
theorem bv.mono : ∀ a0 a1 a2 a3 a4 k, LeO (bv.f k a0 a1 a2 a3 a4) (bv.f (k + 1) a0 a1 a2 a3 a4) := by
 intro a0 a1 a2 a3 a4 k
 obtain ⟨ih0, ih1⟩ := bv.di k
 unfold bv.f
 repeat' first | (with_reducible first | exact ih0 .. | exact ih1 .. | exact au.mono .. | exact LeO.refl .. | exact LeO.none .. | refine LeO.ite ?_ ?_ | refine LeO.bind ?_ (fun _ => ?_))
theorem bv.calls (k : Nat) (a0_0 : Int) (a0_1 : Int) (P0_2_ : Nat → Prop) (A6 : Option Addr) (A8 : Nat) (l0_2 : List Int) (P0_3_ : Nat → Prop) (B7 : Option Addr) (C0 : Nat) (l0_3 : List Int) (D5 : Option Addr) (D6 : Nat) (l0_4 : List Int) (r : Bool) (w : World) (hs0_2 : Kd.V (Kd.int .i64) 2 w w.heap.size (fun k_ => P0_2_ k_) (.slice A6 l0_2.length A8) l0_2) (hs0_3 : Kd.V (Kd.int .i64) 2 w w.heap.size (fun k_ => P0_3_ k_) (.slice B7 l0_3.length C0) l0_3) (hr0_4 : Kd.C (Kd.int .i64) w D5 l0_4.length l0_4) (hc0_4 : l0_4.length ≤ D6) (h : bv.f k a0_0 a0_1 l0_2 l0_3 l0_4 = some r) :
  Calls Tryz.prog 20 #[.agg #[.int .i64 a0_0, .int .i64 a0_1, .slice A6 l0_2.length A8, .slice B7 l0_3.length C0, .slice D5 l0_4.length D6]] w fun e w' => e = .returned (.bool r) ∧ Below w.heap.size w w' := by
 have hu28 := Tryz.underlying28
 have HO0_2 := a_ (show Kd.V (Kd.int .i64) 2 w w.heap.size (fun k_ => ((P0_2_ k_ ∨ P0_3_ k_) ∨ w.heap.size ≤ k_)) (.slice A6 l0_2.length A8) l0_2 from Kd.mo hs0_2 (fun k_ hk => .inl (.inl hk)))
 have HO0_3 := a_ (show Kd.V (Kd.int .i64) 2 w w.heap.size (fun k_ => ((P0_2_ k_ ∨ P0_3_ k_) ∨ w.heap.size ≤ k_)) (.slice B7 l0_3.length C0) l0_3 from Kd.mo hs0_3 (fun k_ hk => .inl (.inr hk)))
 have HR0_4 := a_ hr0_4
 have E2 := a_ hc0_4
 clear hr0_4 hc0_4
 have HB := a_ (Below.refl w.heap.size w)
 have H : ((dP.f a0_0 a0_1).bind fun G0 => (if G0 = true then ((dD.f l0_2).bind fun B3 => (if B3 = (wrap64 (a0_0 * a0_1)) then ((dD.f l0_3).bind fun B4 => (if B4 = (wrap64 (a0_0 * a0_1)) then ((dD.f l0_4).bind fun C1 => (if C1 = (wrap64 (a0_0 * a0_1)) then ((gy.f l0_4 0 1).bind fun D7 => (bv.j0 k (!D7) a0_0 a0_1 l0_2 l0_3 l0_4)) else (bv.j0 k true a0_0 a0_1 l0_2 l0_3 l0_4))) else (bv.j0 k true a0_0 a0_1 l0_2 l0_3 l0_4))) else (bv.j0 k true a0_0 a0_1 l0_2 l0_3 l0_4))) else (some false))) = some r := h
 clear h
 replace H := bo_ H; obtain ⟨G0, A2, H⟩ := H; (try dsimp only at H)
 by_cases c3 : G0 = true
 ·subst c3
  have H1 : ((dD.f l0_2).bind fun B3 => (if B3 = (wrap64 (a0_0 * a0_1)) then ((dD.f l0_3).bind fun B4 => (if B4 = (wrap64 (a0_0 * a0_1)) then ((dD.f l0_4).bind fun C1 => (if C1 = (wrap64 (a0_0 * a0_1)) then ((gy.f l0_4 0 1).bind fun D7 => (bv.j0 k (!D7) a0_0 a0_1 l0_2 l0_3 l0_4)) else (bv.j0 k true a0_0 a0_1 l0_2 l0_3 l0_4))) else (bv.j0 k true a0_0 a0_1 l0_2 l0_3 l0_4))) else (bv.j0 k true a0_0 a0_1 l0_2 l0_3 l0_4))) = some r := by rw [if_pos rfl] at H; exact H
  clear H
  have H := H1
  clear H1
  have N3 := a_ H
  clear H
  go_enter Tryz.func20, Tryz.ntmps20
  go_upto_region 4 with (first | ((with_reducible refine bf (N := 1) rfl ?_); refine cz ?hg (N := 1) ?hd (cs := #[.int .i64 a0_0, .int .i64 a0_1, .slice A6 l0_2.length A8, .slice B7 l0_3.length C0, .slice D5 l0_4.length D6]) (t := 28) ?hr ?_; (case hd => rfl); (case hg => rfl); (case hr => first | (go_simp; done) | (go_simp; rfl)); intro A3 hg w5 hbox hb; replace HO0_2 := a_ (Kd.mR (Kd.ou rM A3 (Nat.le_of_eq hg.symm)) hb); replace HO0_3 := a_ (Kd.mR (Kd.ou rO A3 (Nat.le_of_eq hg.symm)) hb); have BK291 := a_ (hbox); have H5 := a_ ((fG : w.heap.size ≤ A3)); have GE291 := a_ ((fG : w.heap.size ≤ A3)); replace HB := df bO hb; clear hb hbox hg; obtain ⟨G1, G2, G3, G4, G5, G6, G7, G8, G9, H0⟩ := eH (w := w5) BK291.out) | ((with_reducible refine av (f := 60) rfl ?_); refine bI (some 11) rfl rfl Tryz.func60 (by kernel_rfl) rfl #[.int .i64 a0_0, .int .i64 a0_1] rfl dL ?_; (with_reducible refine (dP.calls a0_0 a0_1 true _ A2.out).mono ?_); rintro e w' ⟨rfl, ⟨nd, rfl⟩⟩; refine ⟨_, rfl, ?_⟩))
  (try simp only [Act.put, List.setIfInBounds_toArray, List.set_cons_zero, List.set_cons_succ])
  go_cut [42] (fun v42 wc => ∃ (kq : Nat) (D2 : Bool), v42 = .bool D2 ∧ ah (bv.j0 kq D2 a0_0 a0_1 l0_2 l0_3 l0_4 = some r) ∧ ah (kq ≤ k) ∧ ah (Kd.V (Kd.int .i64) 2 wc w.heap.size (fun k_ => ((P0_2_ k_ ∨ P0_3_ k_) ∨ w.heap.size ≤ k_) ∧ k_ ≠ A3) (.slice A6 l0_2.length A8) l0_2) ∧ ah (Kd.V (Kd.int .i64) 2 wc w.heap.size (fun k_ => ((P0_2_ k_ ∨ P0_3_ k_) ∨ w.heap.size ≤ k_) ∧ k_ ≠ A3) (.slice B7 l0_3.length C0) l0_3) ∧ ah (wc.heap[A3]? = some (.cells #[.int .i64 a0_0, .int .i64 a0_1, (.slice A6 l0_2.length A8), (.slice B7 l0_3.length C0), (.slice D5 l0_4.length D6)] 28 (0, 0))) ∧ ah (Below w.heap.size w wc))
  case first =>
   have H := N3.out
   clear N3
   replace H := bo_ H; obtain ⟨B3, A7, H⟩ := H; (try dsimp only at H)
   by_cases c8 : B3 = (wrap64 (a0_0 * a0_1))
   ·rw [if_pos c8] at H
    have E3 : (B3 == (wrap64 (a0_0 * a0_1))) = true := beq_iff_eq.mpr c8
    have N4 : (B3 != (wrap64 (a0_0 * a0_1))) = false := bne_eq_false_iff_eq.mpr c8
    clear c8
    (first | rw [E3] | (simp only [eU, gX]; rw [E3]) | skip)
    replace H := bo_ H; obtain ⟨B4, A9, H⟩ := H; (try dsimp only at H)
    by_cases c10 : B4 = (wrap64 (a0_0 * a0_1))
    ·rw [if_pos c10] at H
     have H6 : (B4 == (wrap64 (a0_0 * a0_1))) = true := beq_iff_eq.mpr c10
     have H7 : (B4 != (wrap64 (a0_0 * a0_1))) = false := bne_eq_false_iff_eq.mpr c10
     clear c10
     replace H := bo_ H; obtain ⟨C1, O2, H⟩ := H; (try dsimp only at H)
     by_cases c12 : C1 = (wrap64 (a0_0 * a0_1))
     ·rw [if_pos c12] at H
      have H8 : (C1 == (wrap64 (a0_0 * a0_1))) = true := beq_iff_eq.mpr c12
      have H9 : (C1 != (wrap64 (a0_0 * a0_1))) = false := bne_eq_false_iff_eq.mpr c12
      clear c12
      replace H := bo_ H; obtain ⟨D7, O8, H⟩ := H; (try dsimp only at H)
      have H' := a_ H
      clear H
      obtain ⟨I3, I4, I5, I6, I7, I8, I9, J0, J1, J2⟩ := eH (w := w5) BK291.out
      go_wp2_with (first | ((with_reducible refine av (f := 61) rfl ?_); refine bI (some 20) rfl rfl Tryz.func61 (by kernel_rfl) rfl #[.slice A6 l0_2.length A8] rfl dL ?_; (with_reducible refine (dD.calls _ _ l0_2 B3 _ ?side1 ?side2 A7.out).mono ?_); (case side1 => exact z8); (case side2 => exact (Kd.jm HO0_2.out).2.1); rintro e w' ⟨rfl, ⟨nd, rfl⟩⟩; refine ⟨_, rfl, ?_⟩) | (go_at_call 61; (with_reducible refine (dD.calls _ _ l0_3 B4 _ ?side1 ?side2 A9.out).mono ?_); (case side1 => exact Bq); (case side2 => exact (Kd.jm HO0_3.out).2.1); rintro e w' ⟨rfl, ⟨nd, rfl⟩⟩) | (go_at_call 61; (with_reducible refine (dD.calls _ _ l0_4 C1 _ ?side1 ?side2 O2.out).mono ?_); (case side1 => exact z0_); (case side2 => exact E2.out); rintro e w' ⟨rfl, ⟨nd, rfl⟩⟩) | (go_at_call 62; (with_reducible refine (gy.calls _ _ l0_4 0 1 D7 _ ?side1 ?side2 O8.out).mono ?_); (case side1 => exact z0_); (case side2 => exact E2.out); rintro e P7 ⟨rfl, hb⟩; replace HO0_2 := a_ (Kd.mR rM hb); replace HO0_3 := a_ (Kd.mR rO hb); replace BK291 := bb_ A3 BK291 hb; replace HB := df ll hb; (try clear hb)))
      go_meet
      case rel => exact ⟨_, (!D7), bZ, H', ⟨jD⟩, ⟨rM⟩, ⟨rO⟩, ⟨xY⟩, ⟨ll⟩⟩
     rw [if_neg c12] at H
     have H8 : (C1 == (wrap64 (a0_0 * a0_1))) = false := beq_eq_false_iff_ne.mpr c12
     have H9 : (C1 != (wrap64 (a0_0 * a0_1))) = true := bne_iff_ne.mpr c12
     have H' := a_ H
     clear H
     obtain ⟨J3, J4, J5, J6, J7, J8, J9, K0, K1, K2⟩ := eH (w := w5) BK291.out
     go_wp2_with (first | ((with_reducible refine av (f := 61) rfl ?_); refine bI (some 20) rfl rfl Tryz.func61 (by kernel_rfl) rfl #[.slice A6 l0_2.length A8] rfl dL ?_; (with_reducible refine (dD.calls _ _ l0_2 B3 _ ?side1 ?side2 A7.out).mono ?_); (case side1 => exact z8); (case side2 => exact (Kd.jm HO0_2.out).2.1); rintro e w' ⟨rfl, ⟨nd, rfl⟩⟩; refine ⟨_, rfl, ?_⟩) | (go_at_call 61; (with_reducible refine (dD.calls _ _ l0_3 B4 _ ?side1 ?side2 A9.out).mono ?_); (case side1 => exact Bq); (case side2 => exact (Kd.jm HO0_3.out).2.1); rintro e w' ⟨rfl, ⟨nd, rfl⟩⟩) | (go_at_call 61; (with_reducible refine (dD.calls _ _ l0_4 C1 _ ?side1 ?side2 O2.out).mono ?_); (case side1 => exact z0_); (case side2 => exact E2.out); rintro e w' ⟨rfl, ⟨nd, rfl⟩⟩))
     go_meet
     case rel => exact ⟨_, (true), bZ, H', ⟨jD⟩, ⟨rM⟩, ⟨rO⟩, ⟨xY⟩, ⟨ll⟩⟩
    rw [if_neg c10] at H
    have H6 : (B4 == (wrap64 (a0_0 * a0_1))) = false := beq_eq_false_iff_ne.mpr c10
    have H7 : (B4 != (wrap64 (a0_0 * a0_1))) = true := bne_iff_ne.mpr c10
    have H' := a_ H
    clear H
    obtain ⟨K3, K4, K5, K6, K7, K8, K9, L0, L1, L2⟩ := eH (w := w5) BK291.out
    go_wp2_with (first | ((with_reducible refine av (f := 61) rfl ?_); refine bI (some 20) rfl rfl Tryz.func61 (by kernel_rfl) rfl #[.slice A6 l0_2.length A8] rfl dL ?_; (with_reducible refine (dD.calls _ _ l0_2 B3 _ ?side1 ?side2 A7.out).mono ?_); (case side1 => exact z8); (case side2 => exact (Kd.jm HO0_2.out).2.1); rintro e w' ⟨rfl, ⟨nd, rfl⟩⟩; refine ⟨_, rfl, ?_⟩) | (go_at_call 61; (with_reducible refine (dD.calls _ _ l0_3 B4 _ ?side1 ?side2 A9.out).mono ?_); (case side1 => exact Bq); (case side2 => exact (Kd.jm HO0_3.out).2.1); rintro e w' ⟨rfl, ⟨nd, rfl⟩⟩))
    go_meet
    case rel => exact ⟨_, (true), bZ, H', ⟨jD⟩, ⟨rM⟩, ⟨rO⟩, ⟨xY⟩, ⟨ll⟩⟩
   rw [if_neg c8] at H
   have E3 : (B3 == (wrap64 (a0_0 * a0_1))) = false := beq_eq_false_iff_ne.mpr c8
   have N4 : (B3 != (wrap64 (a0_0 * a0_1))) = true := bne_iff_ne.mpr c8
   (first | rw [E3] | (simp only [eU, gX]; rw [E3]) | skip)
   have H' := a_ H
   clear H
   obtain ⟨L3, L4, L5, L6, L7, L8, L9, M0, M1, M2⟩ := eH (w := w5) BK291.out
   go_wp2_with (first | ((with_reducible refine av (f := 61) rfl ?_); refine bI (some 20) rfl rfl Tryz.func61 (by kernel_rfl) rfl #[.slice A6 l0_2.length A8] rfl dL ?_; (with_reducible refine (dD.calls _ _ l0_2 B3 _ ?side1 ?side2 A7.out).mono ?_); (case side1 => exact z8); (case side2 => exact (Kd.jm HO0_2.out).2.1); rintro e w' ⟨rfl, ⟨nd, rfl⟩⟩; refine ⟨_, rfl, ?_⟩))
   go_meet
   case rel => exact ⟨_, (true), bZ, H', ⟨jD⟩, ⟨rM⟩, ⟨rO⟩, ⟨xY⟩, ⟨ll⟩⟩
  case rest =>
   clear N3; try clear c3; try clear G1 G2 G3 G4 G5; try clear G6 G7 G8 G9 H0
   obtain ⟨kq, D2, rfl, HA, O3, HO_292002, HO_292003, BK291, HB⟩ := hcut
   cases kq with
   | zero => exact absurd HA.out (by simp [bv.j0])
   | succ H2 =>
    have H := HA.out
    clear HA
    simp only [bv.j0] at H
    by_cases c19 : D2 = true
    ·subst c19
     have H1 : (some false) = some r := by rw [if_pos rfl] at H; exact H
     clear H
     have H := H1
     clear H1
     obtain rfl := Option.some.inj H
     go_wp2
     go_ret
     exact ⟨fO, ll⟩
    ·replace c19 := Bool.eq_false_iff.mpr c19
     subst c19
     have H1 : ((au.f H2 (([l0_2, l0_3] : List (List Int)))).bind fun D8 => ((fw.f D8).bind fun A1 => (bv.l0 H2 A1 A1 (A1.length : Int) 0))) = some r := by rw [if_neg (show ¬ (false = true) by decide)] at H; exact H
     clear H
     have H := H1
     clear H1
     obtain ⟨H3, E4⟩ : ∃ y_ : List (List Int), y_ = (([l0_2, l0_3] : List (List Int))) := ⟨_, rfl⟩
     replace H : ((au.f H2 H3).bind fun D8 => ((fw.f D8).bind fun A1 => (bv.l0 H2 A1 A1 (A1.length : Int) 0))) = some r := rh_ E4 H
     have F9 := a_ E4
     clear E4
     replace H := bo_ H; obtain ⟨D8, O9, H⟩ := H; (try dsimp only at H)
     replace H := bo_ H; obtain ⟨A1, P0, H⟩ := H; (try dsimp only at H)
     have H' := a_ H
     clear H
     obtain ⟨E9, F0, F1, F2, F3, F4, F5, F6, F7, F8⟩ := eH (w := wc) BK291.out
     go_wp2_with (first | ((with_reducible refine bf (N := 47) rfl ?_); refine Kd.Cm (Kd.slice 2 (Kd.int .i64)) _ 22 ?hg (N' := 47) ?hd (xs := ([l0_2, l0_3] : List (List Int))) (inner := [.slice A6 l0_2.length A8, .slice B7 l0_3.length C0]) (ok := (fun k_ => ((P0_2_ k_ ∨ P0_3_ k_) ∨ w.heap.size ≤ k_) ∧ k_ ≠ A3)) (okp := (fun k_ => ((P0_2_ k_ ∨ P0_3_ k_) ∨ w.heap.size ≤ k_) ∧ k_ ≠ A3)) ?hr ?hp (fun _ hk => hk) ((show ∀ k_, wc.heap.size ≤ k_ → (fun k_ => ((P0_2_ k_ ∨ P0_3_ k_) ∨ w.heap.size ≤ k_) ∧ k_ ≠ A3) k_ from fun k_ hk => ⟨(.inr (Nat.le_trans (af ll) hk)), Kd.lg (g := A3) (rb_ BK291.out) k_ hk⟩) _ (Nat.le_refl _)) (Below.refl _ _) (Nat.le_refl _) (by simp) ?_; (case hd => rfl); (case hg => rfl); (case hr => first | (go_simp; done) | (go_simp; rfl)); (case hp => exact (dm.one (show Kd.FK (Kd.slice 2 (Kd.int .i64)) _ _ l0_2 [.slice A6 l0_2.length A8] from (Kd.pQ (Kd.jm (Kd.mo (ok' := (fun k_ => ((P0_2_ k_ ∨ P0_3_ k_) ∨ w.heap.size ≤ k_) ∧ k_ ≠ A3)) (HO_292002.out) (fun k_ hk => ⟨hk.1, hk.2⟩))).2.1 (Kd.V_F (Kd.mo (ok' := (fun k_ => ((P0_2_ k_ ∨ P0_3_ k_) ∨ w.heap.size ≤ k_) ∧ k_ ≠ A3)) (HO_292002.out) (fun k_ hk => ⟨hk.1, hk.2⟩))))) (dm.one (show Kd.FK (Kd.slice 2 (Kd.int .i64)) _ _ l0_3 [.slice B7 l0_3.length C0] from (Kd.pQ (Kd.jm (Kd.mo (ok' := (fun k_ => ((P0_2_ k_ ∨ P0_3_ k_) ∨ w.heap.size ≤ k_) ∧ k_ ≠ A3)) (HO_292003.out) (fun k_ hk => ⟨hk.1, hk.2⟩))).2.1 (Kd.V_F (Kd.mo (ok' := (fun k_ => ((P0_2_ k_ ∨ P0_3_ k_) ∨ w.heap.size ≤ k_) ∧ k_ ≠ A3)) (HO_292003.out) (fun k_ hk => ⟨hk.1, hk.2⟩))))) (dm.none _ _)))); intro P1 P8 ho24 hb hg_ hnew_; clear hg_ hnew_; (first | rw [← F9.out] at ho24 | (simp only [Int.reduceToNat] at ho24; rw [← F9.out] at ho24)); replace HO_292002 := a_ (Kd.lq Af (Kd.yj ho24) hb); replace HO_292003 := a_ (Kd.lq Ag (Kd.yj ho24) hb); have C2 := a_ (Kd.zz ho24 (af ll)); replace BK291 := bb_ A3 BK291 hb; replace HB := df ll hb; clear hb ho24; obtain ⟨N5, N6, N7⟩ := Kd.zA C2.out; subst N7) | ((with_reducible refine av (f := 65) rfl ?_); refine bI (some 48) rfl rfl Tryz.func65 (by kernel_rfl) rfl #[.slice N5 H3.length N6] rfl dL ?_; (with_reducible refine (au.calls H2 _ _ H3 D8 _ ?side1 ?side2 O9.out).mono ?_); (case side1 => exact (by (repeat (first | exact (Kd.uM C2.out).2.2 | (with_reducible refine Kd.dH ?_ _) | (with_reducible refine Kd.dJ ?_ _) | (with_reducible refine Kd.dX ?_))); first | done | fail)); (case side2 => exact (Kd.uM C2.out).2.1); rintro e P9 ⟨P2, rfl, ho0, hb⟩; refine ⟨_, rfl, ?_⟩; replace HO_292002 := a_ (Kd.lq Af (Kd.bN ho0) hb); replace HO_292003 := a_ (Kd.lq Ag (Kd.bN ho0) hb); replace C2 := a_ (Kd.uL (by (with_reducible repeat (first | apply Kd.wS | apply Kd.wT | apply Kd.yl)); exact C2.out) (Kd.bN ho0) hb); have C8 := a_ (Kd.bu (Kd.ym (M := fun k_ => (w.heap.size ≤ k_)) ho0 (af ll) (fun k_ h_ => h_)) (af ll)); replace BK291 := bb_ A3 BK291 hb; replace HB := df ll hb; (try clear hb); (try clear ho0); obtain ⟨P3, P4, N8⟩ := Kd.bg C8.out; subst N8) | (go_at_call 64; refine (vs.valuesOf _ _ _ _).mono ?_; rintro e w' ⟨rfl, rfl⟩) | (go_at_call 63; (with_reducible refine (fw.calls _ _ D8 A1 _ ?side1 ?side2 P0.out).mono ?_); (case side1 => exact (by (repeat (first | exact (Kd.aH C8.out).2.2 | (with_reducible refine Kd.dH ?_ _) | (with_reducible refine Kd.dJ ?_ _) | (with_reducible refine Kd.dX ?_))); first | done | fail)); (case side2 => exact (Kd.aH C8.out).2.1); rintro e Q0 ⟨P5, rfl, ho0, hb⟩; replace HO_292002 := a_ (Kd.lq Af (Kd.bN ho0) hb); replace HO_292003 := a_ (Kd.lq Ag (Kd.bN ho0) hb); replace C2 := a_ (Kd.uL (by (with_reducible repeat (first | apply Kd.wS | apply Kd.wT | apply Kd.yl)); exact C2.out) (Kd.bN ho0) hb); have E5 := a_ (Kd.bu (Kd.dF (Kd.ym (M := fun k_ => (w.heap.size ≤ k_)) ho0 (af ll) (fun k_ h_ => h_)) (Kd.dR (ra_ C8.out))) (af ll)); replace C8 := a_ (Kd.bB (ra_ C8.out) (Kd.bN ho0) hb); replace BK291 := bb_ A3 BK291 hb; replace HB := df ll hb; (try clear hb); (try clear ho0); obtain ⟨D9, E0, N9⟩ := Kd.bg E5.out; subst N9))
     go_loopg [53] H2 (fun kq v53 w' => ∃ (A4 : Int), v53 = .int .i64 A4 ∧ ah (bv.l0 kq A1 A1 (A1.length : Int) A4 = some r) ∧ ah (kq ≤ H2) ∧ ah (Kd.R (Kd.int .i64) 2 w' w.heap.size (fun k_ => (w.heap.size ≤ k_)) (.slice D9 A1.length E0) A1) ∧ ah (Kd.R (Kd.int .i64) 2 w' w.heap.size (fun k_ => (w.heap.size ≤ k_)) (.slice D9 A1.length E0) A1) ∧ ah (Kd.V (Kd.int .i64) 2 w' w.heap.size (fun k_ => ((P0_2_ k_ ∨ P0_3_ k_) ∨ w.heap.size ≤ k_) ∧ nb_ k_ D9 A1.length E0 ∧ nb_ k_ D9 A1.length E0 ∧ k_ ≠ A3) (.slice A6 l0_2.length A8) l0_2) ∧ ah (Kd.V (Kd.int .i64) 2 w' w.heap.size (fun k_ => ((P0_2_ k_ ∨ P0_3_ k_) ∨ w.heap.size ≤ k_) ∧ nb_ k_ D9 A1.length E0 ∧ nb_ k_ D9 A1.length E0 ∧ k_ ≠ A3) (.slice B7 l0_3.length C0) l0_3) ∧ ah (w'.heap[A3]? = some (.cells #[.int .i64 a0_0, .int .i64 a0_1, (.slice A6 l0_2.length A8), (.slice B7 l0_3.length C0), (.slice D5 l0_4.length D6)] 28 (0, 0))) ∧ ah (Below w.heap.size w w'))
     case atStart => exact ⟨(0), bZ, H', ⟨Nat.le_refl _⟩, ⟨by (with_reducible repeat (first | apply Kd.aC | apply Kd.aD | apply Kd.az)); exact Kd.ae E5.out (fun _ hk => hk.1.1)⟩, ⟨by (with_reducible repeat (first | apply Kd.aC | apply Kd.aD | apply Kd.az)); exact Kd.ae E5.out (fun _ hk => hk.1.1)⟩, ⟨by (with_reducible repeat (first | apply Kd.mQ | apply Kd.mU | apply Kd.oW)); exact Kd.mo HO_292002.out (fun _ hk => ⟨hk.1.1.1.1, ⟨hk.2, ⟨hk.2, hk.1.1.1.2⟩⟩⟩)⟩, ⟨by (with_reducible repeat (first | apply Kd.mQ | apply Kd.mU | apply Kd.oW)); exact Kd.mo HO_292003.out (fun _ hk => ⟨hk.1.1.1.1, ⟨hk.2, ⟨hk.2, hk.1.1.1.2⟩⟩⟩)⟩, ⟨xY⟩, ⟨ll⟩⟩
     case round =>
      clear H'
      try clear c19; try clear E9 F0 F1 F2 F3; try clear F4 F5 F6 F7 F8
      obtain ⟨A4, rfl, HA, HK2, E1, D3, HO_292002, HO_292003, BK291, HB⟩ := hrel
      cases gk with
      | zero => exact absurd HA.out (by simp [bv.l0])
      | succ k2 =>
       have H := HA.out
       clear HA
       simp only [bv.l0] at H
       by_cases c30 : A4 < (A1.length : Int)
       ·rw [if_pos c30] at H
        have I0 := decide_eq_true c30
        clear c30
        replace H := ig_ H; obtain ⟨c31, H⟩ := H
        have O4 := decide_eq_true c31
        clear c31
        replace H := ig_ H; obtain ⟨c32, H⟩ := H
        have O5 := decide_eq_true c32
        clear c32
        replace H := ig_ H; obtain ⟨c33, H⟩ := H
        have O6 := decide_eq_true c33
        have O7 : decide (0 < A1.length) = true := decide_eq_true (by omega)
        clear c33
        replace H := bo_ H; obtain ⟨O0, O1, H⟩ := H; (try dsimp only at H)
        by_cases c35 : O0 = true
        ·subst c35
         have H1 : (if (rd A1 A4) = (wrap64 ((rd A1 0) + A4)) then (bv.l0 k2 A1 A1 (A1.length : Int) (wrap64 (A4 + 1))) else (some false)) = some r := by rw [if_pos rfl] at H; exact H
         clear H
         have H := H1
         clear H1
         by_cases c36 : (rd A1 A4) = (wrap64 ((rd A1 0) + A4))
         ·rw [if_pos c36] at H
          have I1 : ((rd A1 A4) == (wrap64 ((rd A1 0) + A4))) = true := beq_iff_eq.mpr c36
          have I2 : ((rd A1 A4) != (wrap64 ((rd A1 0) + A4))) = false := bne_eq_false_iff_eq.mpr c36
          clear c36
          have H' := a_ H
          clear H
          have C3 : 0 ≤ (A4 : Int) := of_decide_eq_true aG
          have C4 : A4 < (A1.length : Int) := of_decide_eq_true aG
          obtain ⟨C5, E6, D4⟩ := Kd.dM (Kd.aH D3.out).2.2 A4 C3 C4
          cases E6
          replace C3 := eq_true C3
          replace C4 := eq_true C4
          have C6 : 0 ≤ (0 : Int) := (by omega)
          have C7 : 0 < (A1.length : Int) := of_decide_eq_true aG
          obtain ⟨C9, E7, A5⟩ := Kd.dM (Kd.aH E1.out).2.2 0 C6 C7
          obtain rfl : C5 = C9 := (by injection E7)
          have qi307 : (0 < A1.length) = True := eq_true (by omega)
          (try rw [show ((0 : Int)).toNat = 0 from rfl] at A5)
          (try rw [Addr.add_zero'] at A5)
          replace C6 := eq_true C6
          replace C7 := eq_true C7
          go_wp2_with (first | ((with_reducible refine av (f := 54) rfl ?_); refine bI (some 61) rfl rfl Tryz.func54 (by kernel_rfl) rfl #[.int .i64 (rd A1 0), .int .i64 1, .int .i64 1000000000] rfl dL ?_; (with_reducible refine (gz.calls (rd A1 0) 1 1000000000 true _ O1.out).mono ?_); rintro e w' ⟨rfl, ⟨nd, rfl⟩⟩; refine ⟨_, rfl, ?_⟩; have D0 : 0 ≤ (0 : Int) := (by omega); have D1 : 0 < (A1.length : Int) := of_decide_eq_true aG; obtain ⟨E8, H4, B0⟩ := Kd.dM (Kd.aH E1.out).2.2 0 D0 D1; obtain rfl : C5 = E8 := (by injection H4); have qi309 : (0 < A1.length) = True := eq_true (by omega); (try rw [show ((0 : Int)).toNat = 0 from rfl] at B0); (try rw [Addr.add_zero'] at B0); replace D0 := eq_true D0; replace D1 := eq_true D1))
          go_roundg k2
          case measure => have := O3.out; have := HK2.out; omega
          case rel => exact ⟨(wrap64 (A4 + 1)), bZ, H', ⟨by have := O3.out; have := HK2.out; omega⟩, ⟨by (with_reducible repeat (first | apply Kd.aC | apply Kd.aD | apply Kd.az)); exact E1.out⟩, ⟨by (with_reducible repeat (first | apply Kd.aC | apply Kd.aD | apply Kd.az)); exact D3.out⟩, ⟨Af⟩, ⟨Ag⟩, ⟨xY⟩, ⟨ll⟩⟩
         rw [if_neg c36] at H
         have I1 : ((rd A1 A4) == (wrap64 ((rd A1 0) + A4))) = false := beq_eq_false_iff_ne.mpr c36
         have I2 : ((rd A1 A4) != (wrap64 ((rd A1 0) + A4))) = true := bne_iff_ne.mpr c36
         obtain rfl := Option.some.inj H
         have C3 : 0 ≤ (A4 : Int) := of_decide_eq_true aG
         have C4 : A4 < (A1.length : Int) := of_decide_eq_true aG
         obtain ⟨C5, E6, D4⟩ := Kd.dM (Kd.aH D3.out).2.2 A4 C3 C4
         cases E6
         replace C3 := eq_true C3
         replace C4 := eq_true C4
         have C6 : 0 ≤ (0 : Int) := (by omega)
         have C7 : 0 < (A1.length : Int) := of_decide_eq_true aG
         obtain ⟨C9, E7, A5⟩ := Kd.dM (Kd.aH E1.out).2.2 0 C6 C7
         obtain rfl : C5 = C9 := (by injection E7)
         have qi307 : (0 < A1.length) = True := eq_true (by omega)
         (try rw [show ((0 : Int)).toNat = 0 from rfl] at A5)
         (try rw [Addr.add_zero'] at A5)
         replace C6 := eq_true C6
         replace C7 := eq_true C7
         go_wp2_with (first | ((with_reducible refine av (f := 54) rfl ?_); refine bI (some 61) rfl rfl Tryz.func54 (by kernel_rfl) rfl #[.int .i64 (rd A1 0), .int .i64 1, .int .i64 1000000000] rfl dL ?_; (with_reducible refine (gz.calls (rd A1 0) 1 1000000000 true _ O1.out).mono ?_); rintro e w' ⟨rfl, ⟨nd, rfl⟩⟩; refine ⟨_, rfl, ?_⟩; have D0 : 0 ≤ (0 : Int) := (by omega); have D1 : 0 < (A1.length : Int) := of_decide_eq_true aG; obtain ⟨E8, H4, B0⟩ := Kd.dM (Kd.aH E1.out).2.2 0 D0 D1; obtain rfl : C5 = E8 := (by injection H4); have qi309 : (0 < A1.length) = True := eq_true (by omega); (try rw [show ((0 : Int)).toNat = 0 from rfl] at B0); (try rw [Addr.add_zero'] at B0); replace D0 := eq_true D0; replace D1 := eq_true D1))
         go_ret
         exact ⟨fO, ll⟩
        ·replace c35 := Bool.eq_false_iff.mpr c35
         subst c35
         have H1 : (some false) = some r := by rw [if_neg (show ¬ (false = true) by decide)] at H; exact H
         clear H
         have H := H1
         clear H1
         obtain rfl := Option.some.inj H
         have C3 : 0 ≤ (A4 : Int) := of_decide_eq_true aG
         have C4 : A4 < (A1.length : Int) := of_decide_eq_true aG
         obtain ⟨C5, E6, D4⟩ := Kd.dM (Kd.aH D3.out).2.2 A4 C3 C4
         cases E6
         replace C3 := eq_true C3
         replace C4 := eq_true C4
         have C6 : 0 ≤ (0 : Int) := (by omega)
         have C7 : 0 < (A1.length : Int) := of_decide_eq_true aG
         obtain ⟨C9, E7, A5⟩ := Kd.dM (Kd.aH E1.out).2.2 0 C6 C7
         obtain rfl : C5 = C9 := (by injection E7)
         have qi307 : (0 < A1.length) = True := eq_true (by omega)
         (try rw [show ((0 : Int)).toNat = 0 from rfl] at A5)
         (try rw [Addr.add_zero'] at A5)
         replace C6 := eq_true C6
         replace C7 := eq_true C7
         go_wp2_with (first | ((with_reducible refine av (f := 54) rfl ?_); refine bI (some 61) rfl rfl Tryz.func54 (by kernel_rfl) rfl #[.int .i64 (rd A1 0), .int .i64 1, .int .i64 1000000000] rfl dL ?_; (with_reducible refine (gz.calls (rd A1 0) 1 1000000000 false _ O1.out).mono ?_); rintro e w' ⟨rfl, ⟨nd, rfl⟩⟩; refine ⟨_, rfl, ?_⟩))
         go_ret
         exact ⟨fO, ll⟩
       rw [if_neg c30] at H
       have I0 := decide_eq_false c30
       clear c30
       obtain rfl := Option.some.inj H
       go_wp2
       go_ret
       exact ⟨fO, ll⟩
 ·replace c3 := Bool.eq_false_iff.mpr c3
  subst c3
  have H1 : (some false) = some r := by rw [if_neg (show ¬ (false = true) by decide)] at H; exact H
  clear H
  have H := H1
  clear H1
  obtain rfl := Option.some.inj H
  go_enter Tryz.func20, Tryz.ntmps20
  go_wp2_with (first | ((with_reducible refine bf (N := 1) rfl ?_); refine cz ?hg (N := 1) ?hd (cs := #[.int .i64 a0_0, .int .i64 a0_1, .slice A6 l0_2.length A8, .slice B7 l0_3.length C0, .slice D5 l0_4.length D6]) (t := 28) ?hr ?_; (case hd => rfl); (case hg => rfl); (case hr => first | (go_simp; done) | (go_simp; rfl)); intro A3 hg P6 hbox hb; replace HO0_2 := a_ (Kd.mR (Kd.ou rM A3 (Nat.le_of_eq hg.symm)) hb); replace HO0_3 := a_ (Kd.mR (Kd.ou rO A3 (Nat.le_of_eq hg.symm)) hb); have BK291 := a_ (hbox); have H5 := a_ ((fG : w.heap.size ≤ A3)); have GE291 := a_ ((fG : w.heap.size ≤ A3)); replace HB := df bO hb; clear hb hbox hg; obtain ⟨M3, M4, M5, M6, M7, M8, M9, N0, N1, N2⟩ := eH (w := P6) BK291.out) | ((with_reducible refine av (f := 60) rfl ?_); refine bI (some 11) rfl rfl Tryz.func60 (by kernel_rfl) rfl #[.int .i64 a0_0, .int .i64 a0_1] rfl dL ?_; (with_reducible refine (dP.calls a0_0 a0_1 false _ A2.out).mono ?_); rintro e w' ⟨rfl, ⟨nd, rfl⟩⟩; refine ⟨_, rfl, ?_⟩))
  go_ret
  exact ⟨fO, ll⟩
end Go.Proofs.YtkpidjmhdagkfaaGreatDoor.QFnReadForms
