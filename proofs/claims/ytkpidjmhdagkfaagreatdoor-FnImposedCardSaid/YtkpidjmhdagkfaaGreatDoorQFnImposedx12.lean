-- Written by own_print.py of this session's repo over the kit's print (its output, turned at some places).
import Derived.Test.YtkpidjmhdagkfaaGreatDoorQFnImposedx0
import Derived.Test.YtkpidjmhdagkfaaGreatDoorQFnImposedx7
namespace Go.Proofs.YtkpidjmhdagkfaaGreatDoor.QFnImposed
open Go.RowKit Go.Proofs.YtkpidjmhdagkfaaGreatDoorW.PrintWords Go.Proofs.YtkpidjmhdagkfaaGreatDoorW.PrintLast Go.Proofs.YtkpidjmhdagkfaaGreatDoorW.PrintMore
attribute [local go_sem] fU fT gP gQ fw fA fQ fV
set_option maxHeartbeats 8000000
set_option maxRecDepth 100000
set_option linter.unusedVariables false
set_option linter.unusedSimpArgs false
def gF.f (a0 : Int) (a1 : Int) (a2 : Int) : Option (Bool) := if a0 ≥ a1 then (some (decide (a0 ≤ a2))) else (some false)
theorem gF.calls (a0 : Int) (a1 : Int) (a2 : Int) (r : Bool) (w : World) (h : gF.f a0 a1 a2 = some r) :
  Calls Tryz.prog 57 #[.int .i64 a0, .int .i64 a1, .int .i64 a2] w fun e w' => e = .returned (.bool r) ∧ fJ w w' := by
 have H : (if a0 ≥ a1 then (some (decide (a0 ≤ a2))) else (some false)) = some r := h
 clear h
 by_cases c4 : a0 ≥ a1
 ·rw [if_pos c4] at H
  have A1 := decide_eq_true c4
  clear c4
  obtain rfl := Option.some.inj H
  go_enter Tryz.func57, Tryz.ntmps57
  go_wp2
  go_ret
  exact ⟨gT, fI⟩
 rw [if_neg c4] at H
 have A1 := decide_eq_false c4
 clear c4
 obtain rfl := Option.some.inj H
 go_enter Tryz.func57, Tryz.ntmps57
 go_wp2
 go_ret
 exact ⟨gT, fI⟩
def gG.f (l0 : List Int) : Option (List Int) := (some (([] : List Int) : List Int)).bind fun y572 => (if y572.length + l0.length < 17592186044416 then (some (y572 ++ l0)) else (none))
theorem gG.calls (A0 : Option Addr) (c0 : Nat) (l0 : List Int) (r : List Int) (w : World) (hr0 : Kd.C (Kd.int .i64) w A0 l0.length l0) (hc0 : l0.length ≤ c0) (h : gG.f l0 = some r) :
  Calls Tryz.prog 59 #[.slice A0 l0.length c0] w fun e w' => ∃ v0_ : Value, e = .returned (v0_) ∧ Kd.R (Kd.int .i64) 2 w' w.heap.size (fun _ => True) v0_ r ∧ Below w.heap.size w w' := by
 have HR0 := a_ hr0
 have B3 := a_ hc0
 clear hr0 hc0
 have HB := a_ (Below.refl w.heap.size w)
 have H : ((some (([] : List Int) : List Int)).bind fun A1 => (if A1.length + l0.length < 17592186044416 then (some (A1 ++ l0)) else (none))) = some r := h
 clear h
 obtain ⟨A1, A2⟩ : ∃ y_ : List Int, y_ = (([] : List Int)) := ⟨_, rfl⟩
 replace H : (if A1.length + l0.length < 17592186044416 then (some (A1 ++ l0)) else (none)) = some r := rh_ A2 H
 have A4 := a_ A2
 clear A2
 replace H := ig_ H; obtain ⟨c2, H⟩ := H
 have LMc2 := a_ c2
 clear c2
 obtain ⟨A8, A3⟩ : ∃ y_ : List Int, y_ = (A1 ++ l0) := ⟨_, rfl⟩
 replace H : (some A8) = some r := rh_ A3 H
 have A6 := a_ A3
 clear A3
 obtain rfl := Option.some.inj H
 go_enter Tryz.func59, Tryz.ntmps59
 go_wp2_with (first | ((with_reducible refine bn (N := 3) rfl ?_); refine Kd.iM (Kd.int .i64) _ 2 ?hg (N := 3) ?hd (xs := ([] : List Int)) (inner := []) (ok := fun _ => True) (okp := fun _ => True) ?hr ?hp (fun _ hk => hk) trivial (Below.refl _ _) (Nat.le_refl _) (by simp) ?_; (case hd => rfl); (case hg => rfl); (case hr => first | (go_simp; done) | (go_simp; rfl)); (case hp => exact (dG.none _ _)); intro A9 w3 ho4 hb hg_ hnew_; clear hg_ hnew_; (first | rw [← A4.out] at ho4 | (simp only [Int.reduceToNat] at ho4; rw [← A4.out] at ho4)); have A5 := a_ (Kd.bE ho4 (ai bX)); replace HB := cK bX hb; clear hb ho4) | ((with_reducible refine di (b := .append) (xs := #[.tmp 3, .tmp 4]) rfl ?_); at_builtin; refine Kd.il (Kd.int .i64) (w0 := w) w.heap.size rfl (.tmp 3) (.tmp 4) 22 2 (.int .i64 0) 8 rfl Tryz.underlying22 jQ rfl (by decide) (by omega) A9 A1 l0 _ _ _ (fun _ => True) (fun _ => False) rfl rfl ?aO ?aR (fun _ _ h => h) (fun _ h => h.elim) ?aF ?aB ?aS ?aL ?_; (case aR => exact kc_ (Kd.bT HR0.out HB.out)); (case aB => exact bX); (case aF => exact (fun _ _ => trivial)); (case aO => exact (ra_ A5.out)); (case aS => exact (ai bX)); (case aL => have := LMc2.out; omega); intro B0 w5 ho hb hg hat; rw [← A6.out] at ho; replace HB := a_ (hb); have A7 := a_ (ho); clear A5; clear ho hb hg hat))
 go_ret
 exact ⟨_, gy, by (with_reducible repeat (first | apply Kd.aC | apply Kd.aA | apply Kd.ay)); exact A7.out, bX⟩
def bZ.l0 : Nat → List Int → Int → Int → Int → Int → Option (Bool)
 | 0, _, _, _, _, _ => none
 | k + 1, x0, x1, x2, x3, x9 => if x9 < (x0.length : Int) then (if 0 ≤ x9 then ((gF.f (rd x0 x9) x2 x3).bind fun t579 => (if t579 = true then (bZ.l0 k x0 x1 x2 x3 (wrap64 (x9 + 1))) else (some false))) else (none)) else (some (decide ((x0.length : Int) ≤ x1)))
def bZ.f (k : Nat) (l0 : List Int) (a1 : Int) (a2 : Int) (a3 : Int) : Option (Bool) := bZ.l0 k l0 a1 a2 a3 0
theorem bZ.dC : ∀ k, (∀ y0 y1 y2 y3 y4, LeO (bZ.l0 k y0 y1 y2 y3 y4) (bZ.l0 (k + 1) y0 y1 y2 y3 y4))
 | 0 => fun _ _ _ _ _ r h => by simp [bZ.l0] at h
 | k + 1 => by
  have ih0 := bZ.dC k
  ·intro y0 y1 y2 y3 y4
   unfold bZ.l0
   repeat' first | (with_reducible first | exact ih0 .. | exact LeO.refl .. | exact LeO.none .. | refine LeO.ite ?_ ?_ | refine LeO.bind ?_ (fun _ => ?_))
theorem bZ.mono : ∀ a0 a1 a2 a3 k, LeO (bZ.f k a0 a1 a2 a3) (bZ.f (k + 1) a0 a1 a2 a3) := by
 intro a0 a1 a2 a3 k
 have ih0 := bZ.dC k
 unfold bZ.f
 repeat' first | (with_reducible first | exact ih0 .. | exact LeO.refl .. | exact LeO.none .. | refine LeO.ite ?_ ?_ | refine LeO.bind ?_ (fun _ => ?_))
theorem bZ.calls (k : Nat) (A0 : Option Addr) (c0 : Nat) (l0 : List Int) (a1 : Int) (a2 : Int) (a3 : Int) (r : Bool) (w : World) (hr0 : Kd.C (Kd.int .i64) w A0 l0.length l0) (hc0 : l0.length ≤ c0) (h : bZ.f k l0 a1 a2 a3 = some r) :
  Calls Tryz.prog 67 #[.slice A0 l0.length c0, .int .i64 a1, .int .i64 a2, .int .i64 a3] w fun e w' => e = .returned (.bool r) ∧ fJ w w' := by
 have HR0 := a_ hr0
 have B3 := a_ hc0
 clear hr0 hc0
 have H : (bZ.l0 k l0 a1 a2 a3 0) = some r := h
 clear h
 have H' := a_ H
 clear H
 go_enter Tryz.func67, Tryz.ntmps67
 go_wp2
 go_loopg [9] k (fun kq v9 w' => ∃ (A1 : Int), v9 = .int .i64 A1 ∧ af (bZ.l0 kq l0 a1 a2 a3 A1 = some r) ∧ af (kq ≤ k) ∧ fJ w w')
 case atStart => exact ⟨(0), cz, H', ⟨Nat.le_refl _⟩, fI⟩
 case round =>
  clear H'
  obtain ⟨A1, rfl, HA, HK1, ⟨m1, rfl⟩⟩ := hrel
  cases gk with
  | zero => exact absurd HA.out (by simp [bZ.l0])
  | succ k1 =>
   have H := HA.out
   clear HA
   simp only [bZ.l0] at H
   by_cases c5 : A1 < (l0.length : Int)
   ·rw [if_pos c5] at H
    have A8 := decide_eq_true c5
    clear c5
    replace H := ig_ H; obtain ⟨c6, H⟩ := H
    have B0 := decide_eq_true c6
    clear c6
    replace H := bo_ H; obtain ⟨A9, A7, H⟩ := H; (try dsimp only at H)
    by_cases c8 : A9 = true
    ·subst c8
     have H1 : (bZ.l0 k1 l0 a1 a2 a3 (wrap64 (A1 + 1))) = some r := by rw [if_pos rfl] at H; exact H
     clear H
     have H := H1
     clear H1
     have H' := a_ H
     clear H
     have A2 : 0 ≤ (A1 : Int) := of_decide_eq_true aX
     have A3 : A1 < (l0.length : Int) := of_decide_eq_true aX
     obtain ⟨A6, A5, A4⟩ := Kd.eF HR0.out A1 A2 A3
     cases A5
     replace A2 := eq_true A2
     replace A3 := eq_true A3
     go_wp2_with (first | ((with_reducible refine av (f := 57) rfl ?_); refine bJ (some 22) rfl rfl Tryz.func57 (by kernel_rfl) rfl #[.int .i64 (rd l0 A1), .int .i64 a2, .int .i64 a3] rfl dN ?_; (with_reducible refine (gF.calls (rd l0 A1) a2 a3 true _ A7.out).mono ?_); rintro e w' ⟨rfl, ⟨nd, rfl⟩⟩; refine ⟨_, rfl, ?_⟩))
     go_roundg k1
     case measure => have := HK1.out; omega
     case rel => exact ⟨(wrap64 (A1 + 1)), cz, H', ⟨kW⟩, fI⟩
    ·replace c8 := Bool.eq_false_iff.mpr c8
     subst c8
     have H1 : (some false) = some r := by rw [if_neg (show ¬ (false = true) by decide)] at H; exact H
     clear H
     have H := H1
     clear H1
     obtain rfl := Option.some.inj H
     have A2 : 0 ≤ (A1 : Int) := of_decide_eq_true aX
     have A3 : A1 < (l0.length : Int) := of_decide_eq_true aX
     obtain ⟨A6, A5, A4⟩ := Kd.eF HR0.out A1 A2 A3
     cases A5
     replace A2 := eq_true A2
     replace A3 := eq_true A3
     go_wp2_with (first | ((with_reducible refine av (f := 57) rfl ?_); refine bJ (some 22) rfl rfl Tryz.func57 (by kernel_rfl) rfl #[.int .i64 (rd l0 A1), .int .i64 a2, .int .i64 a3] rfl dN ?_; (with_reducible refine (gF.calls (rd l0 A1) a2 a3 false _ A7.out).mono ?_); rintro e w' ⟨rfl, ⟨nd, rfl⟩⟩; refine ⟨_, rfl, ?_⟩))
     go_ret
     exact ⟨gT, fI⟩
   rw [if_neg c5] at H
   have A8 := decide_eq_false c5
   clear c5
   obtain rfl := Option.some.inj H
   go_wp2
   go_ret
   exact ⟨gT, fI⟩
def dh.l0 : Nat → Int → Int → Int → Int → List Int → List Int → List Int → Option (Int)
 | 0, _, _, _, _, _, _, _ => none
 | k + 1, x3, x4, x581000, x581001, x581002, x581003, x581004 => if x4 < (x581002.length : Int) then (if 0 ≤ x4 then (if x4 < (x581003.length : Int) then (dh.l0 k (mn x3 (mn (rd x581002 x4) (rd x581003 x4))) (wrap64 (x4 + 1)) x581000 x581001 x581002 x581003 x581004) else (none)) else (none)) else (some x3)
def dh.f (k : Nat) (a0_0 : Int) (a0_1 : Int) (l0_2 : List Int) (l0_3 : List Int) (l0_4 : List Int) : Option (Int) := if 0 < (l0_2.length : Int) then (dh.l0 k (rd l0_2 0) 0 a0_0 a0_1 l0_2 l0_3 l0_4) else (none)
theorem dh.dC : ∀ k, (∀ y0 y1 y2 y3 y4 y5 y6, LeO (dh.l0 k y0 y1 y2 y3 y4 y5 y6) (dh.l0 (k + 1) y0 y1 y2 y3 y4 y5 y6))
 | 0 => fun _ _ _ _ _ _ _ r h => by simp [dh.l0] at h
 | k + 1 => by
  have ih0 := dh.dC k
  ·intro y0 y1 y2 y3 y4 y5 y6
   unfold dh.l0
   repeat' first | (with_reducible first | exact ih0 .. | exact LeO.refl .. | exact LeO.none .. | refine LeO.ite ?_ ?_ | refine LeO.bind ?_ (fun _ => ?_))
theorem dh.mono : ∀ a0 a1 a2 a3 a4 k, LeO (dh.f k a0 a1 a2 a3 a4) (dh.f (k + 1) a0 a1 a2 a3 a4) := by
 intro a0 a1 a2 a3 a4 k
 have ih0 := dh.dC k
 unfold dh.f
 repeat' first | (with_reducible first | exact ih0 .. | exact LeO.refl .. | exact LeO.none .. | refine LeO.ite ?_ ?_ | refine LeO.bind ?_ (fun _ => ?_))
theorem dh.calls (k : Nat) (a0_0 : Int) (a0_1 : Int) (D3 : Option Addr) (C8 : Nat) (l0_2 : List Int) (C9 : Option Addr) (D0 : Nat) (l0_3 : List Int) (D1 : Option Addr) (D2 : Nat) (l0_4 : List Int) (r : Int) (w : World) (hr0_2 : Kd.C (Kd.int .i64) w D3 l0_2.length l0_2) (hc0_2 : l0_2.length ≤ C8) (hr0_3 : Kd.C (Kd.int .i64) w C9 l0_3.length l0_3) (hc0_3 : l0_3.length ≤ D0) (hr0_4 : Kd.C (Kd.int .i64) w D1 l0_4.length l0_4) (hc0_4 : l0_4.length ≤ D2) (h : dh.f k a0_0 a0_1 l0_2 l0_3 l0_4 = some r) :
  Calls Tryz.prog 68 #[.agg #[.int .i64 a0_0, .int .i64 a0_1, .slice D3 l0_2.length C8, .slice C9 l0_3.length D0, .slice D1 l0_4.length D2]] w fun e w' => e = .returned (.int .i64 r) ∧ Below w.heap.size w w' := by
 have hu28 := Tryz.underlying28
 have C6 := a_ hr0_2
 have H1 := a_ hc0_2
 clear hr0_2 hc0_2
 have E2 := a_ hr0_3
 have H2 := a_ hc0_3
 clear hr0_3 hc0_3
 have HR0_4 := a_ hr0_4
 have H3 := a_ hc0_4
 clear hr0_4 hc0_4
 have HB := a_ (Below.refl w.heap.size w)
 have H : (if 0 < (l0_2.length : Int) then (dh.l0 k (rd l0_2 0) 0 a0_0 a0_1 l0_2 l0_3 l0_4) else (none)) = some r := h
 clear h
 replace H := ig_ H; obtain ⟨c2, H⟩ := H
 have G5 := decide_eq_true c2
 have G6 : decide (0 < l0_2.length) = true := decide_eq_true (by omega)
 clear c2
 have H' := a_ H
 clear H
 go_enter Tryz.func68, Tryz.ntmps68
 go_wp2_with (first | ((with_reducible refine bn (N := 1) rfl ?_); refine bG ?hg (N := 1) ?hd (cs := #[.int .i64 a0_0, .int .i64 a0_1, .slice D3 l0_2.length C8, .slice C9 l0_3.length D0, .slice D1 l0_4.length D2]) (t := 28) ?hr ?_; (case hd => rfl); (case hg => rfl); (case hr => first | (go_simp; done) | (go_simp; rfl)); intro A4 hg w3 hbox hb; have A3 := a_ (hbox); have D6 := a_ ((fO : w.heap.size ≤ A4)); have GE580 := a_ ((fO : w.heap.size ≤ A4)); replace HB := cK bX hb; clear hb hbox hg; obtain ⟨A9, B0, B3, B4, B7, C0, C1, C2, C3, C4⟩ := eU (w := w3) A3.out; have A5 : 0 ≤ (0 : Int) := (by omega); have A6 : 0 < (l0_2.length : Int) := of_decide_eq_true aX; obtain ⟨C7, D4, A1⟩ := Kd.eF C6.out 0 A5 A6; cases D4; have qi581 : (0 < l0_2.length) = True := eq_true (by omega); (try rw [show ((0 : Int)).toNat = 0 from rfl] at A1); (try rw [Addr.add_zero'] at A1); replace A1 := (HB.out.cell (World.block_lt_of_cell? _ _ A1)).trans A1; replace A5 := eq_true A5; replace A6 := eq_true A6))
 repeat (go_quiet (first | ((with_reducible refine bn (N := 1) rfl ?_); refine bG ?hg (N := 1) ?hd (cs := #[.int .i64 a0_0, .int .i64 a0_1, .slice D3 l0_2.length C8, .slice C9 l0_3.length D0, .slice D1 l0_4.length D2]) (t := 28) ?hr ?_; (case hd => rfl); (case hg => rfl); (case hr => first | (go_simp; done) | (go_simp; rfl)); intro A4 hg w3 hbox hb; have A3 := a_ (hbox); have D6 := a_ ((fO : w.heap.size ≤ A4)); have GE580 := a_ ((fO : w.heap.size ≤ A4)); replace HB := cK bX hb; clear hb hbox hg; obtain ⟨A9, B0, B3, B4, B7, C0, C1, C2, C3, C4⟩ := eU (w := w3) A3.out; have A5 : 0 ≤ (0 : Int) := (by omega); have A6 : 0 < (l0_2.length : Int) := of_decide_eq_true aX; obtain ⟨C7, D4, A1⟩ := Kd.eF C6.out 0 A5 A6; cases D4; have qi581 : (0 < l0_2.length) = True := eq_true (by omega); (try rw [show ((0 : Int)).toNat = 0 from rfl] at A1); (try rw [Addr.add_zero'] at A1); replace A1 := (HB.out.cell (World.block_lt_of_cell? _ _ A1)).trans A1; replace A5 := eq_true A5; replace A6 := eq_true A6)); try go_wp2_with (first | ((with_reducible refine bn (N := 1) rfl ?_); refine bG ?hg (N := 1) ?hd (cs := #[.int .i64 a0_0, .int .i64 a0_1, .slice D3 l0_2.length C8, .slice C9 l0_3.length D0, .slice D1 l0_4.length D2]) (t := 28) ?hr ?_; (case hd => rfl); (case hg => rfl); (case hr => first | (go_simp; done) | (go_simp; rfl)); intro A4 hg w3 hbox hb; have A3 := a_ (hbox); have D6 := a_ ((fO : w.heap.size ≤ A4)); have GE580 := a_ ((fO : w.heap.size ≤ A4)); replace HB := cK bX hb; clear hb hbox hg; obtain ⟨A9, B0, B3, B4, B7, C0, C1, C2, C3, C4⟩ := eU (w := w3) A3.out; have A5 : 0 ≤ (0 : Int) := (by omega); have A6 : 0 < (l0_2.length : Int) := of_decide_eq_true aX; obtain ⟨C7, D4, A1⟩ := Kd.eF C6.out 0 A5 A6; cases D4; have qi581 : (0 < l0_2.length) = True := eq_true (by omega); (try rw [show ((0 : Int)).toNat = 0 from rfl] at A1); (try rw [Addr.add_zero'] at A1); replace A1 := (HB.out.cell (World.block_lt_of_cell? _ _ A1)).trans A1; replace A5 := eq_true A5; replace A6 := eq_true A6)))
 go_loopg [3, 4] k (fun kq v3 v4 w' => ∃ (C5 : Int) (A2 : Int), v3 = .int .i64 C5 ∧ v4 = .int .i64 A2 ∧ af (dh.l0 kq C5 A2 a0_0 a0_1 l0_2 l0_3 l0_4 = some r) ∧ af (kq ≤ k) ∧ af (w'.heap[A4]? = some (.cells #[.int .i64 a0_0, .int .i64 a0_1, (.slice (some C7) l0_2.length C8), (.slice C9 l0_3.length D0), (.slice D1 l0_4.length D2)] 28 (0, 0))) ∧ af (Below w.heap.size w w'))
 case atStart => exact ⟨(rd l0_2 0), (0), cz, cz, H', ⟨Nat.le_refl _⟩, ⟨by (with_reducible repeat (first | refine bO ?_ _ | refine bv ?_ | refine bN ?_ _)); exact A3.out⟩, ⟨Au⟩⟩
 case round =>
  clear H'
  try clear G5; try clear G6; try clear A9 B0 B3 B4 B7; try clear C0 C1 C2 C3 C4; try clear A1; try clear A5; try clear A6
  obtain ⟨C5, A2, rfl, rfl, HA, HK1, A3, HB⟩ := hrel
  cases gk with
  | zero => exact absurd HA.out (by simp [dh.l0])
  | succ k1 =>
   have H := HA.out
   clear HA
   simp only [dh.l0] at H
   by_cases c5 : A2 < (l0_2.length : Int)
   ·rw [if_pos c5] at H
    have G7 := decide_eq_true c5
    clear c5
    replace H := ig_ H; obtain ⟨c6, H⟩ := H
    have H5 := decide_eq_true c6
    clear c6
    replace H := ig_ H; obtain ⟨c7, H⟩ := H
    have H6 := decide_eq_true c7
    clear c7
    obtain ⟨E3, D7⟩ : ∃ j_ : Int, (mn (rd l0_2 A2) (rd l0_3 A2)) = j_ := ⟨_, rfl⟩
    replace H : (dh.l0 k1 (mn C5 (E3)) (wrap64 (A2 + 1)) a0_0 a0_1 l0_2 l0_3 l0_4) = some r := by first | (rw [D7] at H; exact H) | (simp only [D7] at H ⊢; exact H)
    have hji8_ : (if (rd l0_3 A2) < (rd l0_2 A2) then (rd l0_3 A2) else (rd l0_2 A2)) = E3 := D7
    obtain ⟨G8, D5⟩ : ∃ j_ : Int, (mn C5 (E3)) = j_ := ⟨_, rfl⟩
    replace H : (dh.l0 k1 G8 (wrap64 (A2 + 1)) a0_0 a0_1 l0_2 l0_3 l0_4) = some r := by first | (rw [D5] at H; exact H) | (simp only [D5] at H ⊢; exact H)
    have hji9_ : (if (E3) < C5 then (E3) else C5) = G8 := D5
    have H' := a_ H
    clear H
    obtain ⟨E5, E6, E7, E8, E9, F0, F1, F2, F3, F4⟩ := eU (w := wr) A3.out
    have D8 : 0 ≤ (A2 : Int) := of_decide_eq_true aX
    have D9 : A2 < (l0_2.length : Int) := of_decide_eq_true aX
    obtain ⟨E4, G9, A7⟩ := Kd.eF C6.out A2 D8 D9
    obtain rfl : C7 = E4 := (by injection G9)
    replace A7 := (HB.out.cell (World.block_lt_of_cell? _ _ A7)).trans A7
    replace D8 := eq_true D8
    replace D9 := eq_true D9
    have E0 : 0 ≤ (A2 : Int) := of_decide_eq_true aX
    have E1 : A2 < (l0_3.length : Int) := of_decide_eq_true aX
    obtain ⟨H4, H0, A8⟩ := Kd.eF E2.out A2 E0 E1
    cases H0
    replace A8 := (HB.out.cell (World.block_lt_of_cell? _ _ A8)).trans A8
    replace E0 := eq_true E0
    replace E1 := eq_true E1
    go_wp2
    repeat (go_quiet (fail); try go_wp2)
    go_roundg k1
    case measure => have := HK1.out; omega
    case rel => exact ⟨(G8), (wrap64 (A2 + 1)), (by first | rfl | (simp; done) | (simp only [← D5] <;> (first | rfl | simp)) | (simp [*]; done)), cz, H', ⟨kW⟩, ⟨by (with_reducible repeat (first | refine bO ?_ _ | refine bv ?_ | refine bN ?_ _)); exact A3.out⟩, ⟨Au⟩⟩
   rw [if_neg c5] at H
   have G7 := decide_eq_false c5
   clear c5
   obtain rfl := Option.some.inj H
   obtain ⟨F5, F6, F7, F8, F9, G0, G1, G2, G3, G4⟩ := eU (w := wr) A3.out
   go_wp2
   repeat (go_quiet (fail); try go_wp2)
   go_ret
   exact ⟨gy, Au⟩
def dE.l0 : Nat → List Int → Int → Int → Option (Bool)
 | 0, _, _, _ => none
 | k + 1, x0, x1, x5 => if x5 < (x0.length : Int) then (if 0 ≤ x5 then (if (rd x0 x5) = x1 then (some true) else (dE.l0 k x0 x1 (wrap64 (x5 + 1)))) else (none)) else (some false)
def dE.f (k : Nat) (l0 : List Int) (a1 : Int) : Option (Bool) := dE.l0 k l0 a1 0
theorem dE.dC : ∀ k, (∀ y0 y1 y2, LeO (dE.l0 k y0 y1 y2) (dE.l0 (k + 1) y0 y1 y2))
 | 0 => fun _ _ _ r h => by simp [dE.l0] at h
 | k + 1 => by
  have ih0 := dE.dC k
  ·intro y0 y1 y2
   unfold dE.l0
   repeat' first | (with_reducible first | exact ih0 .. | exact LeO.refl .. | exact LeO.none .. | refine LeO.ite ?_ ?_ | refine LeO.bind ?_ (fun _ => ?_))
theorem dE.mono : ∀ a0 a1 k, LeO (dE.f k a0 a1) (dE.f (k + 1) a0 a1) := by
 intro a0 a1 k
 have ih0 := dE.dC k
 unfold dE.f
 repeat' first | (with_reducible first | exact ih0 .. | exact LeO.refl .. | exact LeO.none .. | refine LeO.ite ?_ ?_ | refine LeO.bind ?_ (fun _ => ?_))
theorem dE.calls (k : Nat) (A0 : Option Addr) (c0 : Nat) (l0 : List Int) (a1 : Int) (r : Bool) (w : World) (hr0 : Kd.C (Kd.int .i64) w A0 l0.length l0) (hc0 : l0.length ≤ c0) (h : dE.f k l0 a1 = some r) :
  Calls Tryz.prog 69 #[.slice A0 l0.length c0, .int .i64 a1] w fun e w' => e = .returned (.bool r) ∧ fJ w w' := by
 have HR0 := a_ hr0
 have B3 := a_ hc0
 clear hr0 hc0
 have H : (dE.l0 k l0 a1 0) = some r := h
 clear h
 have H' := a_ H
 clear H
 go_enter Tryz.func69, Tryz.ntmps69
 go_wp2
 go_loopg [5] k (fun kq v5 w' => ∃ (A1 : Int), v5 = .int .i64 A1 ∧ af (dE.l0 kq l0 a1 A1 = some r) ∧ af (kq ≤ k) ∧ fJ w w')
 case atStart => exact ⟨(0), cz, H', ⟨Nat.le_refl _⟩, fI⟩
 case round =>
  clear H'
  obtain ⟨A1, rfl, HA, HK1, ⟨m1, rfl⟩⟩ := hrel
  cases gk with
  | zero => exact absurd HA.out (by simp [dE.l0])
  | succ k1 =>
   have H := HA.out
   clear HA
   simp only [dE.l0] at H
   by_cases c3 : A1 < (l0.length : Int)
   ·rw [if_pos c3] at H
    have A7 := decide_eq_true c3
    clear c3
    replace H := ig_ H; obtain ⟨c4, H⟩ := H
    have B0 := decide_eq_true c4
    clear c4
    by_cases c5 : (rd l0 A1) = a1
    ·rw [if_pos c5] at H
     have A8 : ((rd l0 A1) == a1) = true := beq_iff_eq.mpr c5
     have A9 : ((rd l0 A1) != a1) = false := bne_eq_false_iff_eq.mpr c5
     clear c5
     obtain rfl := Option.some.inj H
     have A2 : 0 ≤ (A1 : Int) := of_decide_eq_true aX
     have A3 : A1 < (l0.length : Int) := of_decide_eq_true aX
     obtain ⟨A6, A5, A4⟩ := Kd.eF HR0.out A1 A2 A3
     cases A5
     replace A2 := eq_true A2
     replace A3 := eq_true A3
     go_wp2
     go_ret
     exact ⟨gT, fI⟩
    rw [if_neg c5] at H
    have A8 : ((rd l0 A1) == a1) = false := beq_eq_false_iff_ne.mpr c5
    have A9 : ((rd l0 A1) != a1) = true := bne_iff_ne.mpr c5
    have H' := a_ H
    clear H
    have A2 : 0 ≤ (A1 : Int) := of_decide_eq_true aX
    have A3 : A1 < (l0.length : Int) := of_decide_eq_true aX
    obtain ⟨A6, A5, A4⟩ := Kd.eF HR0.out A1 A2 A3
    cases A5
    replace A2 := eq_true A2
    replace A3 := eq_true A3
    go_wp2
    go_roundg k1
    case measure => have := HK1.out; omega
    case rel => exact ⟨(wrap64 (A1 + 1)), cz, H', ⟨kW⟩, fI⟩
   rw [if_neg c3] at H
   have A7 := decide_eq_false c3
   clear c3
   obtain rfl := Option.some.inj H
   go_wp2
   go_ret
   exact ⟨gT, fI⟩
mutual
def aK.j0 : Nat → Int → Bool → Int → Int → List Int → List Int → List Int → Option (Bool)
 | 0, _, _, _, _, _, _, _ => none
 | k + 1, x3, x44, x586000, x586001, x586002, x586003, x586004 => if x44 = true then (some false) else ((gG.f x586002).bind fun t588 => (if t588.length + x586003.length < 17592186044416 then ((dh.f k x586000 x586001 x586002 x586003 x586004).bind fun t594 => (aK.l0 k x3 (t588 ++ x586003) t594 0)) else (none)))
def aK.l0 : Nat → Int → List Int → Int → Int → Option (Bool)
 | 0, _, _, _, _ => none
 | k + 1, x3, x4, x5, x6 => if x6 < (x4.length : Int) then (if 0 ≤ x6 then ((gF.f (rd x4 x6) x5 (wrap64 ((wrap64 (x5 + (wrap64 (2 * x3)))) - 1))).bind fun t596 => (if t596 = true then (if x6 ≤ (x4.length : Int) then ((dE.f k (x4.take (x6 : Int).toNat) (rd x4 x6)).bind fun t602 => (if t602 = true then (some false) else (aK.l0 k x3 x4 x5 (wrap64 (x6 + 1))))) else (none)) else (some false))) else (none)) else (if x5 ≥ 1 then (some (decide (x5 ≤ 1000000000))) else (some false))
end
def aK.f (k : Nat) (a0_0 : Int) (a0_1 : Int) (l0_2 : List Int) (l0_3 : List Int) (l0_4 : List Int) : Option (Bool) := (dJ.f a0_0 a0_1).bind fun t586 => (if t586 = true then (if (l0_2.length : Int) = (wrap64 (a0_0 * a0_1)) then (if (l0_3.length : Int) = (wrap64 (a0_0 * a0_1)) then (if (l0_4.length : Int) = (wrap64 (a0_0 * a0_1)) then ((bZ.f k l0_4 64 0 1).bind fun t587 => (aK.j0 k (wrap64 (a0_0 * a0_1)) (!t587) a0_0 a0_1 l0_2 l0_3 l0_4)) else (aK.j0 k (wrap64 (a0_0 * a0_1)) true a0_0 a0_1 l0_2 l0_3 l0_4)) else (aK.j0 k (wrap64 (a0_0 * a0_1)) true a0_0 a0_1 l0_2 l0_3 l0_4)) else (aK.j0 k (wrap64 (a0_0 * a0_1)) true a0_0 a0_1 l0_2 l0_3 l0_4)) else (aK.j0 k (wrap64 (a0_0 * a0_1)) true a0_0 a0_1 l0_2 l0_3 l0_4))
theorem aK.dC : ∀ k, (∀ y0 y1 y2 y3 y4 y5 y6, LeO (aK.j0 k y0 y1 y2 y3 y4 y5 y6) (aK.j0 (k + 1) y0 y1 y2 y3 y4 y5 y6)) ∧ (∀ y0 y1 y2 y3, LeO (aK.l0 k y0 y1 y2 y3) (aK.l0 (k + 1) y0 y1 y2 y3))
 | 0 => ⟨fun _ _ _ _ _ _ _ r h => by simp [aK.j0] at h, fun _ _ _ _ r h => by simp [aK.l0] at h⟩
 | k + 1 => by
  obtain ⟨ih0, ih1⟩ := aK.dC k
  refine ⟨?_, ?_⟩ <;> intros <;> (first | unfold aK.j0 | unfold aK.l0) <;> (repeat' first | (with_reducible first | exact ih0 .. | exact ih1 .. | exact dE.mono .. | exact bZ.mono .. | exact dh.mono .. | exact LeO.refl .. | exact LeO.none .. | refine LeO.ite ?_ ?_ | refine LeO.bind ?_ (fun _ => ?_)))
theorem aK.mono : ∀ a0 a1 a2 a3 a4 k, LeO (aK.f k a0 a1 a2 a3 a4) (aK.f (k + 1) a0 a1 a2 a3 a4) := by
 intro a0 a1 a2 a3 a4 k
 obtain ⟨ih0, ih1⟩ := aK.dC k
 unfold aK.f
 repeat' first | (with_reducible first | exact ih0 .. | exact ih1 .. | exact dE.mono .. | exact bZ.mono .. | exact dh.mono .. | exact LeO.refl .. | exact LeO.none .. | refine LeO.ite ?_ ?_ | refine LeO.bind ?_ (fun _ => ?_))
def aK.T9 : Bool × List (List Nat × List Nat) := (true, [([], []), ([], []), ([0, 1], [0, 1]), ([2], [2]), ([], []), ([], []), ([], []), ([6], [6]), ([5, 7], [5, 7]), ([8], [8]), ([3, 4, 9], [3, 4, 9]), ([10], [10]), ([11, 10], [11]), ([12], [12]), ([12], [12]), ([13, 14, 12], [12, 13, 14]), ([12], [12]), ([12], [12]), ([16, 17, 12], [12, 16, 17]), ([18, 12], [12, 18]), ([15, 19, 12, 12], [12, 15, 19]), ([12, 20], [12, 20])])
def aK.B9 : List Nat := [0, 0, 3, 7, 0, 0, 0, 64, 224, 480, 1023, 2047, 4095, 8191, 8191, 32767, 8191, 8191, 204799, 466943, 1048575, 2097151]
theorem aK.yU : ig .any (opsOf Tryz.f21 9) = aK.T9 := by kernel_rfl
theorem aK.vw : gm aK.T9.2 aK.B9 = true := by kernel_rfl
theorem aK.calls (k : Nat) (a0_0 : Int) (a0_1 : Int) (B7 : Option Addr) (C0 : Nat) (l0_2 : List Int) (C1 : Option Addr) (C2 : Nat) (l0_3 : List Int) (C3 : Option Addr) (C4 : Nat) (l0_4 : List Int) (r : Bool) (w : World) (hr0_2 : Kd.C (Kd.int .i64) w B7 l0_2.length l0_2) (hc0_2 : l0_2.length ≤ C0) (hr0_3 : Kd.C (Kd.int .i64) w C1 l0_3.length l0_3) (hc0_3 : l0_3.length ≤ C2) (hr0_4 : Kd.C (Kd.int .i64) w C3 l0_4.length l0_4) (hc0_4 : l0_4.length ≤ C4) (h : aK.f k a0_0 a0_1 l0_2 l0_3 l0_4 = some r) :
  Calls Tryz.prog 21 #[.agg #[.int .i64 a0_0, .int .i64 a0_1, .slice B7 l0_2.length C0, .slice C1 l0_3.length C2, .slice C3 l0_4.length C4]] w fun e w' => e = .returned (.bool r) ∧ Below w.heap.size w w' := by
 have hu28 := Tryz.underlying28
 have F2 := a_ hr0_2
 have F3 := a_ hc0_2
 clear hr0_2 hc0_2
 have F4 := a_ hr0_3
 have H2 := a_ hc0_3
 clear hr0_3 hc0_3
 have HR0_4 := a_ hr0_4
 have F5 := a_ hc0_4
 clear hr0_4 hc0_4
 have HB := a_ (Below.refl w.heap.size w)
 have H : ((dJ.f a0_0 a0_1).bind fun F6 => (if F6 = true then (if (l0_2.length : Int) = (wrap64 (a0_0 * a0_1)) then (if (l0_3.length : Int) = (wrap64 (a0_0 * a0_1)) then (if (l0_4.length : Int) = (wrap64 (a0_0 * a0_1)) then ((bZ.f k l0_4 64 0 1).bind fun C9 => (aK.j0 k (wrap64 (a0_0 * a0_1)) (!C9) a0_0 a0_1 l0_2 l0_3 l0_4)) else (aK.j0 k (wrap64 (a0_0 * a0_1)) true a0_0 a0_1 l0_2 l0_3 l0_4)) else (aK.j0 k (wrap64 (a0_0 * a0_1)) true a0_0 a0_1 l0_2 l0_3 l0_4)) else (aK.j0 k (wrap64 (a0_0 * a0_1)) true a0_0 a0_1 l0_2 l0_3 l0_4)) else (aK.j0 k (wrap64 (a0_0 * a0_1)) true a0_0 a0_1 l0_2 l0_3 l0_4))) = some r := h
 clear h
 have M6 := a_ H
 clear H
 go_enter Tryz.func21, Tryz.ntmps21
 go_upto_region 2 with (first | ((with_reducible refine bn (N := 1) rfl ?_); (try (refine vQ (by rfl) ?_; dsimp only)); refine bG ?hg (N := 1) ?hd (cs := #[.int .i64 a0_0, .int .i64 a0_1, .slice B7 l0_2.length C0, .slice C1 l0_3.length C2, .slice C3 l0_4.length C4]) (t := 28) ?hr ?_; (case hd => rfl); (case hg => rfl); (case hr => first | (go_simp; done) | (go_simp; rfl)); intro A8 hg w3 hbox hb; have BK585 := a_ (hbox); have O3 := a_ ((fO : w.heap.size ≤ A8)); have GE585 := a_ ((fO : w.heap.size ≤ A8)); replace HB := cK bX hb; clear hb hbox hg; obtain ⟨F7, F8, F9, G0, G1, G2, G3, G4, G5, G6⟩ := eU (w := w3) BK585.out))
 (try simp only [Act.put, List.setIfInBounds_toArray, List.set_cons_zero, List.set_cons_succ])
 go_cut [44] (fun v44 wc => ∃ (kq : Nat) (C7 : Bool), v44 = .bool C7 ∧ af (aK.j0 kq (wrap64 (a0_0 * a0_1)) C7 a0_0 a0_1 l0_2 l0_3 l0_4 = some r) ∧ af (kq ≤ k) ∧ af (wc.heap[A8]? = some (.cells #[.int .i64 a0_0, .int .i64 a0_1, (.slice B7 l0_2.length C0), (.slice C1 l0_3.length C2), (.slice C3 l0_4.length C4)] 28 (0, 0))) ∧ af (Below w.heap.size w wc))
 case first =>
  have H := M6.out
  clear M6
  replace H := bo_ H; obtain ⟨F6, A5, H⟩ := H; (try dsimp only at H)
  by_cases c6 : F6 = true
  ·subst c6
   have H1 : (if (l0_2.length : Int) = (wrap64 (a0_0 * a0_1)) then (if (l0_3.length : Int) = (wrap64 (a0_0 * a0_1)) then (if (l0_4.length : Int) = (wrap64 (a0_0 * a0_1)) then ((bZ.f k l0_4 64 0 1).bind fun C9 => (aK.j0 k (wrap64 (a0_0 * a0_1)) (!C9) a0_0 a0_1 l0_2 l0_3 l0_4)) else (aK.j0 k (wrap64 (a0_0 * a0_1)) true a0_0 a0_1 l0_2 l0_3 l0_4)) else (aK.j0 k (wrap64 (a0_0 * a0_1)) true a0_0 a0_1 l0_2 l0_3 l0_4)) else (aK.j0 k (wrap64 (a0_0 * a0_1)) true a0_0 a0_1 l0_2 l0_3 l0_4)) = some r := by rw [if_pos rfl] at H; exact H
   clear H
   have H := H1
   clear H1
   by_cases c7 : (l0_2.length : Int) = (wrap64 (a0_0 * a0_1))
   ·rw [if_pos c7] at H
    have D1 : ((l0_2.length : Int) == (wrap64 (a0_0 * a0_1))) = true := beq_iff_eq.mpr c7
    have M7 : ((l0_2.length : Int) != (wrap64 (a0_0 * a0_1))) = false := bne_eq_false_iff_eq.mpr c7
    clear c7
    (first | rw [D1] | (simp only [eX, iI]; rw [D1]) | skip)
    by_cases c8 : (l0_3.length : Int) = (wrap64 (a0_0 * a0_1))
    ·rw [if_pos c8] at H
     have M8 : ((l0_3.length : Int) == (wrap64 (a0_0 * a0_1))) = true := beq_iff_eq.mpr c8
     have M9 : ((l0_3.length : Int) != (wrap64 (a0_0 * a0_1))) = false := bne_eq_false_iff_eq.mpr c8
     clear c8
     by_cases c9 : (l0_4.length : Int) = (wrap64 (a0_0 * a0_1))
     ·rw [if_pos c9] at H
      have N0 : ((l0_4.length : Int) == (wrap64 (a0_0 * a0_1))) = true := beq_iff_eq.mpr c9
      have N1 : ((l0_4.length : Int) != (wrap64 (a0_0 * a0_1))) = false := bne_eq_false_iff_eq.mpr c9
      clear c9
      replace H := bo_ H; obtain ⟨C9, P0, H⟩ := H; (try dsimp only at H)
      have H' := a_ H
      clear H
      obtain ⟨H6, H7, H8, H9, I0, I1, I2, I3, I4, I5⟩ := eU (w := w3) BK585.out
      go_wp2_with (first | ((with_reducible refine av (f := 66) rfl ?_); refine bJ (some 16) rfl rfl Tryz.func66 (by kernel_rfl) rfl #[.int .i64 a0_0, .int .i64 a0_1] rfl dN ?_; (with_reducible refine (dJ.calls a0_0 a0_1 true _ A5.out).mono ?_); rintro e w' ⟨rfl, ⟨nd, rfl⟩⟩; refine ⟨_, rfl, ?_⟩) | (go_at_call 67; (with_reducible refine (bZ.calls k _ _ l0_4 64 0 1 C9 _ ?side1 ?side2 P0.out).mono ?_); (case side1 => exact (by (repeat (first | exact (Kd.bT HR0_4.out ma) | (with_reducible refine Kd.dD ?_ _) | (with_reducible refine Kd.dH ?_ _) | (with_reducible refine Kd.dZ ?_))); first | done | fail)); (case side2 => exact F5.out); rintro e w' ⟨rfl, ⟨nd, rfl⟩⟩))
      go_meet
      case rel => exact ⟨_, (!C9), cz, H', ⟨kr⟩, ⟨vW⟩, ⟨ma⟩⟩
     rw [if_neg c9] at H
     have N0 : ((l0_4.length : Int) == (wrap64 (a0_0 * a0_1))) = false := beq_eq_false_iff_ne.mpr c9
     have N1 : ((l0_4.length : Int) != (wrap64 (a0_0 * a0_1))) = true := bne_iff_ne.mpr c9
     have H' := a_ H
     clear H
     obtain ⟨I6, I7, I8, I9, J0, J1, J2, J3, J4, J5⟩ := eU (w := w3) BK585.out
     go_wp2_with (first | ((with_reducible refine av (f := 66) rfl ?_); refine bJ (some 16) rfl rfl Tryz.func66 (by kernel_rfl) rfl #[.int .i64 a0_0, .int .i64 a0_1] rfl dN ?_; (with_reducible refine (dJ.calls a0_0 a0_1 true _ A5.out).mono ?_); rintro e w' ⟨rfl, ⟨nd, rfl⟩⟩; refine ⟨_, rfl, ?_⟩))
     go_meet
     case rel => exact ⟨_, (true), cz, H', ⟨kr⟩, ⟨vW⟩, ⟨ma⟩⟩
    rw [if_neg c8] at H
    have M8 : ((l0_3.length : Int) == (wrap64 (a0_0 * a0_1))) = false := beq_eq_false_iff_ne.mpr c8
    have M9 : ((l0_3.length : Int) != (wrap64 (a0_0 * a0_1))) = true := bne_iff_ne.mpr c8
    have H' := a_ H
    clear H
    obtain ⟨J6, J7, J8, J9, K0, K1, K2, K3, K4, K5⟩ := eU (w := w3) BK585.out
    go_wp2_with (first | ((with_reducible refine av (f := 66) rfl ?_); refine bJ (some 16) rfl rfl Tryz.func66 (by kernel_rfl) rfl #[.int .i64 a0_0, .int .i64 a0_1] rfl dN ?_; (with_reducible refine (dJ.calls a0_0 a0_1 true _ A5.out).mono ?_); rintro e w' ⟨rfl, ⟨nd, rfl⟩⟩; refine ⟨_, rfl, ?_⟩))
    go_meet
    case rel => exact ⟨_, (true), cz, H', ⟨kr⟩, ⟨vW⟩, ⟨ma⟩⟩
   rw [if_neg c7] at H
   have D1 : ((l0_2.length : Int) == (wrap64 (a0_0 * a0_1))) = false := beq_eq_false_iff_ne.mpr c7
   have M7 : ((l0_2.length : Int) != (wrap64 (a0_0 * a0_1))) = true := bne_iff_ne.mpr c7
   (first | rw [D1] | (simp only [eX, iI]; rw [D1]) | skip)
   have H' := a_ H
   clear H
   obtain ⟨K6, K7, K8, K9, L0, L1, L2, L3, L4, L5⟩ := eU (w := w3) BK585.out
   go_wp2_with (first | ((with_reducible refine av (f := 66) rfl ?_); refine bJ (some 16) rfl rfl Tryz.func66 (by kernel_rfl) rfl #[.int .i64 a0_0, .int .i64 a0_1] rfl dN ?_; (with_reducible refine (dJ.calls a0_0 a0_1 true _ A5.out).mono ?_); rintro e w' ⟨rfl, ⟨nd, rfl⟩⟩; refine ⟨_, rfl, ?_⟩))
   go_meet
   case rel => exact ⟨_, (true), cz, H', ⟨kr⟩, ⟨vW⟩, ⟨ma⟩⟩
  ·replace c6 := Bool.eq_false_iff.mpr c6
   subst c6
   have H1 : (aK.j0 k (wrap64 (a0_0 * a0_1)) true a0_0 a0_1 l0_2 l0_3 l0_4) = some r := by rw [if_neg (show ¬ (false = true) by decide)] at H; exact H
   clear H
   have H := H1
   clear H1
   have H' := a_ H
   clear H
   obtain ⟨L6, L7, L8, L9, M0, M1, M2, M3, M4, M5⟩ := eU (w := w3) BK585.out
   go_wp2_with (first | ((with_reducible refine av (f := 66) rfl ?_); refine bJ (some 16) rfl rfl Tryz.func66 (by kernel_rfl) rfl #[.int .i64 a0_0, .int .i64 a0_1] rfl dN ?_; (with_reducible refine (dJ.calls a0_0 a0_1 false _ A5.out).mono ?_); rintro e w' ⟨rfl, ⟨nd, rfl⟩⟩; refine ⟨_, rfl, ?_⟩))
   go_meet
   case rel => exact ⟨_, (true), cz, H', ⟨kr⟩, ⟨vW⟩, ⟨ma⟩⟩
 case rest =>
  clear M6; try clear F7 F8 F9 G0 G1; try clear G2 G3 G4 G5 G6
  obtain ⟨kq, C7, rfl, HA, O4, BK585, HB⟩ := hcut
  cases kq with
  | zero => exact absurd HA.out (by simp [aK.j0])
  | succ G7 =>
   have H := HA.out
   clear HA
   simp only [aK.j0] at H
   by_cases c16 : C7 = true
   ·subst c16
    have H1 : (some false) = some r := by rw [if_pos rfl] at H; exact H
    clear H
    have H := H1
    clear H1
    obtain rfl := Option.some.inj H
    go_wp2
    go_ret
    exact ⟨gy, ma⟩
   ·replace c16 := Bool.eq_false_iff.mpr c16
    subst c16
    have H1 : ((gG.f l0_2).bind fun D0 => (if D0.length + l0_3.length < 17592186044416 then ((dh.f G7 a0_0 a0_1 l0_2 l0_3 l0_4).bind fun A6 => (aK.l0 G7 (wrap64 (a0_0 * a0_1)) (D0 ++ l0_3) A6 0)) else (none))) = some r := by rw [if_neg (show ¬ (false = true) by decide)] at H; exact H
    clear H
    have H := H1
    clear H1
    replace H := bo_ H; obtain ⟨D0, P1, H⟩ := H; (try dsimp only at H)
    replace H := ig_ H; obtain ⟨c18, H⟩ := H
    have LMc18 := a_ c18
    clear c18
    obtain ⟨A2, D2⟩ : ∃ y_ : List Int, y_ = (D0 ++ l0_3) := ⟨_, rfl⟩
    replace H : ((dh.f G7 a0_0 a0_1 l0_2 l0_3 l0_4).bind fun A6 => (aK.l0 G7 (wrap64 (a0_0 * a0_1)) A2 A6 0)) = some r := rh_ D2 H
    have H3 := a_ D2
    clear D2
    replace H := bo_ H; obtain ⟨A6, P2, H⟩ := H; (try dsimp only at H)
    have H' := a_ H
    clear H
    try go_wp2
    replace BK585 := a_ (bv BK585.out)
    replace HB := a_ (aM HB.out)
    refine gW (n := 7) (S := fun w' => w'.cell? ⟨A8, 0, none⟩ = some (.int .i64 a0_0) ∧ w'.cell? ⟨A8, 1, none⟩ = some (.int .i64 a0_1) ∧ w'.cell? ⟨A8, 2, none⟩ = some (.slice B7 l0_2.length C0) ∧ w'.cell? ⟨A8, 3, none⟩ = some (.slice C1 l0_3.length C2) ∧ w'.cell? ⟨A8, 4, none⟩ = some (.slice C3 l0_4.length C4)) (ds := []) #[false, false, false, false, false, false, false] (by kernel_rfl) rfl rfl ⟨(aa BK585.out 0).trans rfl, (aa BK585.out 1).trans rfl, (aa BK585.out 2).trans rfl, (aa BK585.out 3).trans rfl, (aa BK585.out 4).trans rfl⟩ (fun hHeld => ?_)
    generalize wc.drew = Q2 at BK585 HB hHeld ⊢
    refine pv_ 0 (some 45) ?_ (hc := (by kernel_rfl))
    refine pv_ 3 (some 48) ?_ (hc := (by kernel_rfl))
    refine xU (i := 1) (N := some 46) hHeld ?_ (hc := (by kernel_rfl))
    refine xU (i := 4) (N := some 49) hHeld ?_ (hc := (by kernel_rfl))
    refine on_ (i := 2) (N := some 47) (fun K hK => ?_) (hc := (by kernel_rfl))
    refine iQ Tryz.func59 (by kernel_rfl) rfl #[.slice B7 l0_2.length C0] (by rfl) rfl rfl dN ?_
    with_reducible refine (gG.calls _ _ l0_2 D0 _ ?side1 ?side2 P1.out).mono ?_
    (case side1 => exact kc_ (Kd.bT F2.out HB.out))
    (case side2 => exact F3.out)
    rintro e Q3 ⟨N2, rfl, ho0, hb⟩
    refine ⟨_, rfl, ?_⟩
    have D3 := a_ (Kd.bE ho0 (ai ma))
    replace BK585 := bb_ A8 BK585 hb
    replace HB := cK ma hb
    (try clear hb)
    (try clear hb2)
    (try clear hk)
    (try clear hi)
    (try clear ho0)
    refine hK.out _ _ ⟨(aa BK585.out 0).trans rfl, (aa BK585.out 1).trans rfl, (aa BK585.out 2).trans rfl, (aa BK585.out 3).trans rfl, (aa BK585.out 4).trans rfl⟩ (fun hHeld => ?_)
    clear hK K
    refine nm_ ?_
    refine on_ (i := 5) (N := some 50) (fun K hK => ?_) (hc := (by kernel_rfl))
    refine Kd.jF (Kd.int .i64) (w0 := w) w.heap.size (by rfl) (.tmp 47) (.tmp 49) 22 2 (.int .i64 0) 8 rfl Tryz.underlying22 jQ rfl (by decide) (by omega) N2 D0 l0_3 _ _ _ (fun _ => True) (fun _ => False) rfl rfl ?aO ?aR (fun _ _ h => h) (fun _ h => h.elim) ?aF ?aB ?aS ?aL ?_
    (case aR => exact kc_ (Kd.bT F4.out HB.out))
    (case aB => exact ma)
    (case aF => exact (fun _ _ => trivial))
    (case aO => exact (ra_ D3.out))
    (case aS => exact (ai ma))
    (case aL => have := LMc18.out; omega)
    intro N3 P3 ho hb hg hat
    rw [← H3.out] at ho
    replace BK585 := a_ (eY (g := A8) (rb_ BK585.out) hg (Kd.iU D3.out BK585.out (by decide)))
    replace HB := a_ (hb)
    have D4 := a_ (ho)
    clear D3
    clear ho hb hg hat
    refine hK.out _ _ ⟨(aa BK585.out 0).trans rfl, (aa BK585.out 1).trans rfl, (aa BK585.out 2).trans rfl, (aa BK585.out 3).trans rfl, (aa BK585.out 4).trans rfl⟩ (fun hHeld => ?_)
    clear hK K
    refine nm_ ?_
    refine pv_ 6 (some 4) ?_ (hc := (by kernel_rfl))
    refine jl (by kernel_rfl) ?_
    obtain ⟨E0, E1, E2, E3, E4, E5, E6, E7, E8, E9⟩ := eU (w := P3) BK585.out
    try go_wp2_with (first | ((with_reducible refine av (f := 68) rfl ?_); refine bJ (some 52) rfl rfl Tryz.func68 (by kernel_rfl) rfl #[.agg #[.int .i64 a0_0, .int .i64 a0_1, .slice B7 l0_2.length C0, .slice C1 l0_3.length C2, .slice C3 l0_4.length C4]] rfl dN ?_; (with_reducible refine (dh.calls G7 a0_0 a0_1 _ _ l0_2 _ _ l0_3 _ _ l0_4 A6 _ ?side1 ?side2 ?side3 ?side4 ?side5 ?side6 P2.out).mono ?_); (case side1 => exact kc_ (Kd.bT F2.out HB.out)); (case side2 => exact F3.out); (case side3 => exact kc_ (Kd.bT F4.out HB.out)); (case side4 => exact H2.out); (case side5 => exact kc_ (Kd.bT HR0_4.out HB.out)); (case side6 => exact F5.out); rintro e Q4 ⟨rfl, hb⟩; refine ⟨_, rfl, ?_⟩; replace D4 := rl_ D4 hb; replace BK585 := bb_ A8 BK585 hb; replace HB := cK ma hb; (try clear hb)))
    go_loopg [6] G7 (fun kq v6 w' => ∃ (A1 : Int), v6 = .int .i64 A1 ∧ af (aK.l0 kq (wrap64 (a0_0 * a0_1)) A2 A6 A1 = some r) ∧ af (kq ≤ G7) ∧ af (Kd.R (Kd.int .i64) 2 w' w.heap.size (fun _ => True) N3 A2) ∧ af (w'.heap[A8]? = some (.cells #[.int .i64 a0_0, .int .i64 a0_1, (.slice B7 l0_2.length C0), (.slice C1 l0_3.length C2), (.slice C3 l0_4.length C4)] 28 (0, 0))) ∧ af (Below w.heap.size w w'))
    case atStart => exact ⟨(0), cz, H', ⟨Nat.le_refl _⟩, ⟨by (with_reducible repeat (first | apply Kd.aC | apply Kd.aA | apply Kd.ay)); exact D4.out⟩, ⟨vW⟩, ⟨ma⟩⟩
    case round =>
     clear H'
     try clear c16; try clear E0 E1 E2 E3 E4; try clear E5 E6 E7 E8 E9
     obtain ⟨A1, rfl, HA, HK2, A3, BK585, HB⟩ := hrel
     cases gk with
     | zero => exact absurd HA.out (by simp [aK.l0])
     | succ k2 =>
      have H := HA.out
      clear HA
      simp only [aK.l0] at H
      by_cases c25 : A1 < (A2.length : Int)
      ·rw [if_pos c25] at H
       have H4 := decide_eq_true c25
       clear c25
       replace H := ig_ H; obtain ⟨c26, H⟩ := H
       have O5 := decide_eq_true c26
       clear c26
       replace H := bo_ H; obtain ⟨N4, N5, H⟩ := H; (try dsimp only at H)
       by_cases c28 : N4 = true
       ·subst c28
        have H1 : (if A1 ≤ (A2.length : Int) then ((dE.f k2 (A2.take (A1 : Int).toNat) (rd A2 A1)).bind fun D5 => (if D5 = true then (some false) else (aK.l0 k2 (wrap64 (a0_0 * a0_1)) A2 A6 (wrap64 (A1 + 1))))) else (none)) = some r := by rw [if_pos rfl] at H; exact H
        clear H
        have H := H1
        clear H1
        have O6 := eq_true (of_decide_eq_true aX : 0 ≤ A1)
        replace H := ig_ H; obtain ⟨c30, H⟩ := H
        have O7 := eq_true c30
        have O8 := decide_eq_true c30
        clear c30
        obtain ⟨B4, D6⟩ : ∃ y_ : List Int, y_ = (A2.take (A1 : Int).toNat) := ⟨_, rfl⟩
        replace H : ((dE.f k2 B4 (rd A2 A1)).bind fun D5 => (if D5 = true then (some false) else (aK.l0 k2 (wrap64 (a0_0 * a0_1)) A2 A6 (wrap64 (A1 + 1))))) = some r := rh_ D6 H
        have C8 := a_ D6
        clear D6
        replace H := bo_ H; obtain ⟨D5, O9, H⟩ := H; (try dsimp only at H)
        by_cases c32 : D5 = true
        ·subst c32
         have H1 : (some false) = some r := by rw [if_pos rfl] at H; exact H
         clear H
         have H := H1
         clear H1
         obtain rfl := Option.some.inj H
         obtain ⟨P4, F0, N6⟩ := Kd.bg A3.out
         subst N6
         try go_wp2
         replace A3 := a_ (Kd.ay A3.out)
         replace BK585 := a_ (bv BK585.out)
         replace HB := a_ (aM HB.out)
         have B0 : 0 ≤ (A1 : Int) := of_decide_eq_true aX
         have B3 : A1 < (A2.length : Int) := of_decide_eq_true aX
         obtain ⟨A4, D7, A7⟩ := Kd.eF (Kd.aI A3.out).2.2 A1 B0 B3
         cases D7
         replace B0 := eq_true B0
         replace B3 := eq_true B3
         have C5 : 0 ≤ (A1 : Int) := of_decide_eq_true aX
         have C6 : A1 < (A2.length : Int) := of_decide_eq_true aX
         obtain ⟨D8, G8, A9⟩ := Kd.eF (Kd.aI A3.out).2.2 A1 C5 C6
         obtain rfl : A4 = D8 := (by injection G8)
         replace C5 := eq_true C5
         replace C6 := eq_true C6
         refine gW (n := 22) (S := fun w' => w'.cell? (A4.add (A1).toNat) = some (.int .i64 (rd A2 A1)) ∧ w'.cell? (A4.add (A1).toNat) = some (.int .i64 (rd A2 A1))) (ds := []) #[false, false, false, false, false, false, false, false, false, false, false, false, false, false, false, false, false, false, false, false, false, false] (by kernel_rfl) rfl rfl ⟨A7, A9⟩ (fun hHeld => ?_); refine fq aK.yU aK.vw (fun HT_ HW_ => ?_)
         generalize wr.drew = Q5 at A3 BK585 HB A7 A9 hHeld ⊢
         refine pv_ 0 (some 59) ?_
         refine pv_ 1 (some 60) ?_
         refine pv_ 2 (some 61) ?_
         refine pv_ 4 (some 63) ?_
         refine pv_ 5 (some 64) ?_
         refine pv_ 6 (some 65) ?_
         refine pv_ 7 (some 66) ?_
         refine pv_ 8 (some 67) ?_
         refine pv_ 9 (some 68) ?_
         refine ow (i := 3) (N := some 62) hHeld ?_
         refine on_ (i := 10) (N := some 69) (fun K hK => ?_)
         refine iQ Tryz.func57 (by kernel_rfl) rfl #[.int .i64 (rd A2 A1), .int .i64 A6, .int .i64 (wrap64 ((wrap64 (A6 + (wrap64 (2 * (wrap64 (a0_0 * a0_1)))))) - 1))] (by rfl) rfl rfl dN ?_
         with_reducible refine (gF.calls (rd A2 A1) A6 (wrap64 ((wrap64 (A6 + (wrap64 (2 * (wrap64 (a0_0 * a0_1)))))) - 1)) true _ N5.out).mono ?_
         rintro e w' ⟨rfl, ⟨nd, rfl⟩⟩
         refine ⟨_, rfl, ?_⟩
         have N7 : (A1 : Int) ≤ ((A2.length : Int) : Int) := of_decide_eq_true aX
         obtain ⟨i035, hi035, _, hsz35, _⟩ := info_parts jQ
         have hroom35 : A2.length ≤ F0 := (Kd.aI A3.out).2.1
         have hC35 : Kd.C (Kd.int .i64) _ (some A4) A2.length A2 := (Kd.aI A3.out).2.2
         have hcut35 := yN (P := Tryz.prog) 22 2 .i64 Tryz.underlying22 hi035 (some A4) A2.length F0 A1 (of_decide_eq_true aX) N7 hroom35
         have hr35 := Kd.yY (m := (A1 : Int).toNat) hC35 (by omega)
         have G9 : B4.length = (A1 : Int).toNat := (by rw [C8.out, List.length_take]; omega)
         rw [← C8.out] at hr35
         rw [← G9] at hcut35
         have HR600 := a_ hr35
         have D9 := a_ (show B4.length ≤ F0 from by omega)
         clear hr35 hC35 hroom35 hi035 hsz35
         have KY35 := a_ G9
         clear G9
         have KL35 := a_ (show (A1 : Int).toNat ≤ A2.length from by omega)
         replace N7 := eq_true N7
         refine hK.out _ _ ⟨hHeld.1, hHeld.2⟩ (fun hHeld => ?_)
         clear hK K
         refine nm_ ?_
         refine pv_ 11 (some 70) ?_
         refine pv_ 12 (some 71) ?_
         refine pv_ 13 (some 72) ?_
         refine pv_ 14 (some 73) ?_
         refine pv_ 15 (some 74) ?_
         refine pv_ 16 (some 75) ?_
         refine pv_ 17 (some 76) ?_
         refine pv_ 18 (some 77) ?_
         refine ow (i := 19) (N := some 78) hHeld ?_
         refine on_ (i := 20) (N := some 79) (fun K hK => ?_)
         refine iQ Tryz.func69 (by kernel_rfl) rfl #[.slice (some A4) B4.length F0, .int .i64 (rd A2 A1)] (by rfl) rfl rfl dN ?_
         with_reducible refine (dE.calls k2 _ _ B4 (rd A2 A1) true _ ?side1 ?side2 O9.out).mono ?_
         (case side1 => exact (by (repeat (first | exact (by repeat (first | (with_reducible exact HR600.out) | (with_reducible refine Kd.dD ?_ _) | (with_reducible refine Kd.dH ?_ _) | (with_reducible refine Kd.dZ ?_) | exact HR600.out)) | (with_reducible refine Kd.dD ?_ _) | (with_reducible refine Kd.dH ?_ _) | (with_reducible refine Kd.dZ ?_))); first | done | fail))
         (case side2 => exact D9.out)
         rintro e w' ⟨rfl, ⟨nd, rfl⟩⟩
         refine ⟨_, rfl, ?_⟩
         refine hK.out _ _ ⟨hHeld.1, hHeld.2⟩ (fun hHeld => ?_)
         clear hK K
         refine nm_ ?_
         refine pv_ 21 (some 80) ?_
         refine jl (iw HT_.out (by kernel_rfl)) ?_
         try go_wp2
         go_ret
         exact ⟨gy, ma⟩
        ·replace c32 := Bool.eq_false_iff.mpr c32
         subst c32
         have H1 : (aK.l0 k2 (wrap64 (a0_0 * a0_1)) A2 A6 (wrap64 (A1 + 1))) = some r := by rw [if_neg (show ¬ (false = true) by decide)] at H; exact H
         clear H
         have H := H1
         clear H1
         have H' := a_ H
         clear H
         obtain ⟨P5, F1, N8⟩ := Kd.bg A3.out
         subst N8
         try go_wp2
         replace A3 := a_ (Kd.ay A3.out)
         replace BK585 := a_ (bv BK585.out)
         replace HB := a_ (aM HB.out)
         have B0 : 0 ≤ (A1 : Int) := of_decide_eq_true aX
         have B3 : A1 < (A2.length : Int) := of_decide_eq_true aX
         obtain ⟨A4, D7, A7⟩ := Kd.eF (Kd.aI A3.out).2.2 A1 B0 B3
         cases D7
         replace B0 := eq_true B0
         replace B3 := eq_true B3
         have C5 : 0 ≤ (A1 : Int) := of_decide_eq_true aX
         have C6 : A1 < (A2.length : Int) := of_decide_eq_true aX
         obtain ⟨D8, G8, A9⟩ := Kd.eF (Kd.aI A3.out).2.2 A1 C5 C6
         obtain rfl : A4 = D8 := (by injection G8)
         replace C5 := eq_true C5
         replace C6 := eq_true C6
         refine gW (n := 22) (S := fun w' => w'.cell? (A4.add (A1).toNat) = some (.int .i64 (rd A2 A1)) ∧ w'.cell? (A4.add (A1).toNat) = some (.int .i64 (rd A2 A1))) (ds := []) #[false, false, false, false, false, false, false, false, false, false, false, false, false, false, false, false, false, false, false, false, false, false] (by kernel_rfl) rfl rfl ⟨A7, A9⟩ (fun hHeld => ?_); refine fq aK.yU aK.vw (fun HT_ HW_ => ?_)
         generalize wr.drew = Q6 at A3 BK585 HB A7 A9 hHeld ⊢
         refine pv_ 0 (some 59) ?_
         refine pv_ 1 (some 60) ?_
         refine pv_ 2 (some 61) ?_
         refine pv_ 4 (some 63) ?_
         refine pv_ 5 (some 64) ?_
         refine pv_ 6 (some 65) ?_
         refine pv_ 7 (some 66) ?_
         refine pv_ 8 (some 67) ?_
         refine pv_ 9 (some 68) ?_
         refine ow (i := 3) (N := some 62) hHeld ?_
         refine on_ (i := 10) (N := some 69) (fun K hK => ?_)
         refine iQ Tryz.func57 (by kernel_rfl) rfl #[.int .i64 (rd A2 A1), .int .i64 A6, .int .i64 (wrap64 ((wrap64 (A6 + (wrap64 (2 * (wrap64 (a0_0 * a0_1)))))) - 1))] (by rfl) rfl rfl dN ?_
         with_reducible refine (gF.calls (rd A2 A1) A6 (wrap64 ((wrap64 (A6 + (wrap64 (2 * (wrap64 (a0_0 * a0_1)))))) - 1)) true _ N5.out).mono ?_
         rintro e w' ⟨rfl, ⟨nd, rfl⟩⟩
         refine ⟨_, rfl, ?_⟩
         have N9 : (A1 : Int) ≤ ((A2.length : Int) : Int) := of_decide_eq_true aX
         obtain ⟨i038, hi038, _, hsz38, _⟩ := info_parts jQ
         have hroom38 : A2.length ≤ F1 := (Kd.aI A3.out).2.1
         have hC38 : Kd.C (Kd.int .i64) _ (some A4) A2.length A2 := (Kd.aI A3.out).2.2
         have hcut38 := yN (P := Tryz.prog) 22 2 .i64 Tryz.underlying22 hi038 (some A4) A2.length F1 A1 (of_decide_eq_true aX) N9 hroom38
         have hr38 := Kd.yY (m := (A1 : Int).toNat) hC38 (by omega)
         have H0 : B4.length = (A1 : Int).toNat := (by rw [C8.out, List.length_take]; omega)
         rw [← C8.out] at hr38
         rw [← H0] at hcut38
         have HR600 := a_ hr38
         have D9 := a_ (show B4.length ≤ F1 from by omega)
         clear hr38 hC38 hroom38 hi038 hsz38
         have KY38 := a_ H0
         clear H0
         have KL38 := a_ (show (A1 : Int).toNat ≤ A2.length from by omega)
         replace N9 := eq_true N9
         refine hK.out _ _ ⟨hHeld.1, hHeld.2⟩ (fun hHeld => ?_)
         clear hK K
         refine nm_ ?_
         refine pv_ 11 (some 70) ?_
         refine pv_ 12 (some 71) ?_
         refine pv_ 13 (some 72) ?_
         refine pv_ 14 (some 73) ?_
         refine pv_ 15 (some 74) ?_
         refine pv_ 16 (some 75) ?_
         refine pv_ 17 (some 76) ?_
         refine pv_ 18 (some 77) ?_
         refine ow (i := 19) (N := some 78) hHeld ?_
         refine on_ (i := 20) (N := some 79) (fun K hK => ?_)
         refine iQ Tryz.func69 (by kernel_rfl) rfl #[.slice (some A4) B4.length F1, .int .i64 (rd A2 A1)] (by rfl) rfl rfl dN ?_
         with_reducible refine (dE.calls k2 _ _ B4 (rd A2 A1) false _ ?side1 ?side2 O9.out).mono ?_
         (case side1 => exact (by (repeat (first | exact (by repeat (first | (with_reducible exact HR600.out) | (with_reducible refine Kd.dD ?_ _) | (with_reducible refine Kd.dH ?_ _) | (with_reducible refine Kd.dZ ?_) | exact HR600.out)) | (with_reducible refine Kd.dD ?_ _) | (with_reducible refine Kd.dH ?_ _) | (with_reducible refine Kd.dZ ?_))); first | done | fail))
         (case side2 => exact D9.out)
         rintro e w' ⟨rfl, ⟨nd, rfl⟩⟩
         refine ⟨_, rfl, ?_⟩
         refine hK.out _ _ ⟨hHeld.1, hHeld.2⟩ (fun hHeld => ?_)
         clear hK K
         refine nm_ ?_
         refine pv_ 21 (some 80) ?_
         refine jl (iw HT_.out (by kernel_rfl)) ?_
         try go_wp2
         go_roundg k2
         case measure => have := O4.out; have := HK2.out; omega
         case rel => exact ⟨(wrap64 (A1 + 1)), cz, H', ⟨by have := O4.out; have := HK2.out; omega⟩, ⟨by (with_reducible repeat (first | apply Kd.aC | apply Kd.aA | apply Kd.ay)); exact A3.out⟩, ⟨vW⟩, ⟨ma⟩⟩
       ·replace c28 := Bool.eq_false_iff.mpr c28
        subst c28
        have H1 : (some false) = some r := by rw [if_neg (show ¬ (false = true) by decide)] at H; exact H
        clear H
        have H := H1
        clear H1
        obtain rfl := Option.some.inj H
        obtain ⟨P6, P7, O0⟩ := Kd.bg A3.out
        subst O0
        try go_wp2
        replace A3 := a_ (Kd.ay A3.out)
        replace BK585 := a_ (bv BK585.out)
        replace HB := a_ (aM HB.out)
        have B0 : 0 ≤ (A1 : Int) := of_decide_eq_true aX
        have B3 : A1 < (A2.length : Int) := of_decide_eq_true aX
        obtain ⟨A4, D7, A7⟩ := Kd.eF (Kd.aI A3.out).2.2 A1 B0 B3
        cases D7
        replace B0 := eq_true B0
        replace B3 := eq_true B3
        refine gW (n := 22) (S := fun w' => w'.cell? (A4.add (A1).toNat) = some (.int .i64 (rd A2 A1))) (ds := []) #[false, false, false, false, false, false, false, false, false, false, false, false, false, false, false, false, false, false, false, false, false, false] (by kernel_rfl) rfl rfl (A7) (fun hHeld => ?_); refine fq aK.yU aK.vw (fun HT_ HW_ => ?_)
        generalize wr.drew = Q7 at A3 BK585 HB A7 hHeld ⊢
        refine pv_ 0 (some 59) ?_
        refine pv_ 1 (some 60) ?_
        refine pv_ 2 (some 61) ?_
        refine pv_ 4 (some 63) ?_
        refine pv_ 5 (some 64) ?_
        refine pv_ 6 (some 65) ?_
        refine pv_ 7 (some 66) ?_
        refine pv_ 8 (some 67) ?_
        refine pv_ 9 (some 68) ?_
        refine nH (i := 3) (N := some 62) (v := ?_) (a' := ?_) #[true, true, true, true, true, true, true, true, true, true, false, false, false, false, false, false, false, false, false, false, false, false] rfl rfl (kL HT_.out HW_.out (by kernel_rfl)) (fun _ _ _ h => h) (Or.inl ⟨by rfl, ?_⟩) hHeld ?_ ?_
        rotate_left
        ·intro w' s0
         go_simp
         with_reducible rfl
        rotate_left
        ·simp only [Act.put, List.setIfInBounds_toArray, List.set_cons_zero, List.set_cons_succ, eX, iI]
         rfl
        refine on_ (i := 10) (N := some 69) (fun K hK => ?_)
        refine iQ Tryz.func57 (by kernel_rfl) rfl #[.int .i64 (rd A2 A1), .int .i64 A6, .int .i64 (wrap64 ((wrap64 (A6 + (wrap64 (2 * (wrap64 (a0_0 * a0_1)))))) - 1))] (by rfl) rfl rfl dN ?_
        with_reducible refine (gF.calls (rd A2 A1) A6 (wrap64 ((wrap64 (A6 + (wrap64 (2 * (wrap64 (a0_0 * a0_1)))))) - 1)) false _ N5.out).mono ?_
        rintro e w' ⟨rfl, ⟨nd, rfl⟩⟩
        refine ⟨_, rfl, ?_⟩
        refine hK.out _ _ (hHeld) (fun hHeld => ?_)
        clear hK K
        refine nm_ ?_
        refine pv_ 11 (some 70) ?_
        refine pv_ 12 (some 71) ?_
        refine nU (i := 13) (N := some 72) (v := undef) (a' := ?_) #[true, true, true, true, true, true, true, true, true, true, true, true, true, true, false, false, false, false, false, false, false, false] rfl rfl (lU HT_.out (by kernel_rfl)) (fun _ _ _ h => h) (Or.inr ⟨by rfl, rfl⟩) ?_ ?_
        rotate_left
        ·simp only [Act.put, List.setIfInBounds_toArray, List.set_cons_zero, List.set_cons_succ, eX, iI]
         rfl
        refine nU (i := 14) (N := some 73) (v := undef) (a' := ?_) #[true, true, true, true, true, true, true, true, true, true, true, true, true, true, true, false, false, false, false, false, false, false] rfl rfl (lU HT_.out (by kernel_rfl)) (fun _ _ _ h => h) (Or.inr ⟨by rfl, rfl⟩) ?_ ?_
        rotate_left
        ·simp only [Act.put, List.setIfInBounds_toArray, List.set_cons_zero, List.set_cons_succ, eX, iI]
         rfl
        refine nU (i := 15) (N := some 74) (v := undef) (a' := ?_) #[true, true, true, true, true, true, true, true, true, true, true, true, true, true, true, true, false, false, false, false, false, false] rfl rfl (lU HT_.out (by kernel_rfl)) (fun _ _ _ h => h) (Or.inr ⟨by rfl, rfl⟩) ?_ ?_
        rotate_left
        ·simp only [Act.put, List.setIfInBounds_toArray, List.set_cons_zero, List.set_cons_succ, eX, iI]
         rfl
        refine nU (i := 16) (N := some 75) (v := undef) (a' := ?_) #[true, true, true, true, true, true, true, true, true, true, true, true, true, true, true, true, true, false, false, false, false, false] rfl rfl (lU HT_.out (by kernel_rfl)) (fun _ _ _ h => h) (Or.inr ⟨by rfl, rfl⟩) ?_ ?_
        rotate_left
        ·simp only [Act.put, List.setIfInBounds_toArray, List.set_cons_zero, List.set_cons_succ, eX, iI]
         rfl
        refine nU (i := 17) (N := some 76) (v := undef) (a' := ?_) #[true, true, true, true, true, true, true, true, true, true, true, true, true, true, true, true, true, true, false, false, false, false] rfl rfl (lU HT_.out (by kernel_rfl)) (fun _ _ _ h => h) (Or.inr ⟨by rfl, rfl⟩) ?_ ?_
        rotate_left
        ·simp only [Act.put, List.setIfInBounds_toArray, List.set_cons_zero, List.set_cons_succ, eX, iI]
         rfl
        refine nU (i := 18) (N := some 77) (v := undef) (a' := ?_) #[true, true, true, true, true, true, true, true, true, true, true, true, true, true, true, true, true, true, true, false, false, false] rfl rfl (lU HT_.out (by kernel_rfl)) (fun _ _ _ h => h) (Or.inr ⟨by rfl, rfl⟩) ?_ ?_
        rotate_left
        ·simp only [Act.put, List.setIfInBounds_toArray, List.set_cons_zero, List.set_cons_succ, eX, iI]
         rfl
        refine nU (i := 19) (N := some 78) (v := undef) (a' := ?_) #[true, true, true, true, true, true, true, true, true, true, true, true, true, true, true, true, true, true, true, true, false, false] rfl rfl (lU HT_.out (by kernel_rfl)) (fun _ _ _ h => h) (Or.inr ⟨by rfl, rfl⟩) ?_ ?_
        rotate_left
        ·simp only [Act.put, List.setIfInBounds_toArray, List.set_cons_zero, List.set_cons_succ, eX, iI]
         rfl
        refine nU (i := 20) (N := some 79) (v := undef) (a' := ?_) #[true, true, true, true, true, true, true, true, true, true, true, true, true, true, true, true, true, true, true, true, true, false] rfl rfl (lU HT_.out (by kernel_rfl)) (fun _ _ _ h => h) (Or.inr ⟨by rfl, rfl⟩) ?_ ?_
        rotate_left
        ·simp only [Act.put, List.setIfInBounds_toArray, List.set_cons_zero, List.set_cons_succ, eX, iI]
         rfl
        refine pv_ 21 (some 80) ?_
        refine jl (iw HT_.out (by kernel_rfl)) ?_
        try go_wp2
        go_ret
        exact ⟨gy, ma⟩
      rw [if_neg c25] at H
      have H4 := decide_eq_false c25
      clear c25
      by_cases c41 : A6 ≥ 1
      ·rw [if_pos c41] at H
       have H5 := decide_eq_true c41
       clear c41
       obtain rfl := Option.some.inj H
       obtain ⟨P8, P9, O1⟩ := Kd.bg A3.out
       subst O1
       go_wp2
       go_ret
       exact ⟨gy, ma⟩
      rw [if_neg c41] at H
      have H5 := decide_eq_false c41
      clear c41
      obtain rfl := Option.some.inj H
      obtain ⟨Q0, Q1, O2⟩ := Kd.bg A3.out
      subst O2
      go_wp2
      go_ret
      exact ⟨gy, ma⟩
end Go.Proofs.YtkpidjmhdagkfaaGreatDoor.QFnImposed
