-- Written by own_print.py of this session's repo over the kit's print (its output, turned at some places).
import Derived.Test.YtkpidjmhdagkfaaGreatDoorQFnImposedx0
import Derived.Test.YtkpidjmhdagkfaaGreatDoorQFnImposedx1
import Derived.Test.YtkpidjmhdagkfaaGreatDoorQFnImposedx3
namespace Go.Proofs.YtkpidjmhdagkfaaGreatDoor.QFnImposed
open Go.RowKit Go.Proofs.YtkpidjmhdagkfaaGreatDoorW.PrintWords Go.Proofs.YtkpidjmhdagkfaaGreatDoorW.PrintLast Go.Proofs.YtkpidjmhdagkfaaGreatDoorW.PrintMore
attribute [local go_sem] fU fT gP gQ fw fA fQ fV
set_option maxHeartbeats 8000000
set_option maxRecDepth 100000
set_option linter.unusedVariables false
set_option linter.unusedSimpArgs false
def bM.l0 : Nat → Int → List Int → Int → Int → Option (Bool)
 | 0, _, _, _, _ => none
 | k + 1, x5, x17, x18, x19 => if x19 < x18 then (if 0 ≤ x19 then (if x19 < (x17.length : Int) then (if (rd x17 x19) = (wrap64 (x5 + x19)) then (bM.l0 k x5 x17 x18 (wrap64 (x19 + 1))) else (some false)) else (none)) else (none)) else (some true)
def bM.f (k : Nat) (a0_0 : Int) (a0_1 : Int) (l0_2 : List Int) (l0_3 : List Int) (l0_4 : List Int) (a1 : ByteArray) : Option (Bool) := (aZ.f k l0_2).bind fun t196 => ((aZ.f k l0_3).bind fun t197 => ((aV.f k a0_0 a0_1 l0_2 l0_3 l0_4 a1).bind fun t198 => (bM.l0 k (mn t196 t197) t198 (t198.length : Int) 0)))
theorem bM.dC : ∀ k, (∀ y0 y1 y2 y3, LeO (bM.l0 k y0 y1 y2 y3) (bM.l0 (k + 1) y0 y1 y2 y3))
 | 0 => fun _ _ _ _ r h => by simp [bM.l0] at h
 | k + 1 => by
  have ih0 := bM.dC k
  ·intro y0 y1 y2 y3
   unfold bM.l0
   repeat' first | (with_reducible first | exact ih0 .. | exact aV.mono .. | exact aZ.mono .. | exact LeO.refl .. | exact LeO.none .. | refine LeO.ite ?_ ?_ | refine LeO.bind ?_ (fun _ => ?_))
theorem bM.mono : ∀ a0 a1 a2 a3 a4 a5 k, LeO (bM.f k a0 a1 a2 a3 a4 a5) (bM.f (k + 1) a0 a1 a2 a3 a4 a5) := by
 intro a0 a1 a2 a3 a4 a5 k
 have ih0 := bM.dC k
 unfold bM.f
 repeat' first | (with_reducible first | exact ih0 .. | exact aV.mono .. | exact aZ.mono .. | exact LeO.refl .. | exact LeO.none .. | refine LeO.ite ?_ ?_ | refine LeO.bind ?_ (fun _ => ?_))
def bM.T1 : Bool × List (List Nat × List Nat) := (true, [([], []), ([0], [0]), ([1], [1]), ([], []), ([3], [3]), ([4, 2], [4]), ([2, 5], [2, 5]), ([6, 5, 0, 1, 2, 3, 4, 5, 6], [6])])
def bM.B1 : List Nat := [0, 1, 3, 0, 8, 31, 63, 127]
theorem bM.CF : ig .any (opsOf Tryz.f40 1) = bM.T1 := by kernel_rfl
theorem bM.Cf : gm bM.T1.2 bM.B1 = true := by kernel_rfl
theorem bM.calls (k : Nat) (a0_0 : Int) (a0_1 : Int) (A8 : Option Addr) (A9 : Nat) (l0_2 : List Int) (B0 : Option Addr) (B3 : Nat) (l0_3 : List Int) (C1 : Option Addr) (C2 : Nat) (l0_4 : List Int) (a1 : ByteArray) (r : Bool) (w : World) (hr0_2 : Kd.C (Kd.int .i64) w A8 l0_2.length l0_2) (hc0_2 : l0_2.length ≤ A9) (hr0_3 : Kd.C (Kd.int .i64) w B0 l0_3.length l0_3) (hc0_3 : l0_3.length ≤ B3) (hr0_4 : Kd.C (Kd.int .i64) w C1 l0_4.length l0_4) (hc0_4 : l0_4.length ≤ C2) (h : bM.f k a0_0 a0_1 l0_2 l0_3 l0_4 a1 = some r) :
  Calls Tryz.prog 40 #[.agg #[.int .i64 a0_0, .int .i64 a0_1, .slice A8 l0_2.length A9, .slice B0 l0_3.length B3, .slice C1 l0_4.length C2], .string a1] w fun e w' => e = .returned (.bool r) ∧ Below w.heap.size w w' := by
 have hu28 := Tryz.underlying28
 have D7 := a_ hr0_2
 have D8 := a_ hc0_2
 clear hr0_2 hc0_2
 have D9 := a_ hr0_3
 have E0 := a_ hc0_3
 clear hr0_3 hc0_3
 have HR0_4 := a_ hr0_4
 have E4 := a_ hc0_4
 clear hr0_4 hc0_4
 have HB := a_ (Below.refl w.heap.size w)
 have H : ((aZ.f k l0_2).bind fun C3 => ((aZ.f k l0_3).bind fun C4 => ((aV.f k a0_0 a0_1 l0_2 l0_3 l0_4 a1).bind fun A5 => (bM.l0 k (mn C3 C4) A5 (A5.length : Int) 0)))) = some r := h
 clear h
 replace H := bo_ H; obtain ⟨C3, A3, H⟩ := H; (try dsimp only at H)
 replace H := bo_ H; obtain ⟨C4, A4, H⟩ := H; (try dsimp only at H)
 obtain ⟨E1, B4⟩ : ∃ j_ : Int, (mn C3 C4) = j_ := ⟨_, rfl⟩
 replace H : ((aV.f k a0_0 a0_1 l0_2 l0_3 l0_4 a1).bind fun A5 => (bM.l0 k E1 A5 (A5.length : Int) 0)) = some r := by first | (rw [B4] at H; exact H) | (simp only [B4] at H ⊢; exact H)
 (try rw [B4] at A3)
 (try rw [B4] at A4)
 have hji5_ : (if C4 < C3 then C4 else C3) = E1 := B4
 replace H := bo_ H; obtain ⟨A5, A6, H⟩ := H; (try dsimp only at H)
 have H' := a_ H
 clear H
 go_enter Tryz.func40, Tryz.ntmps40
 try go_wp2_with (first | ((with_reducible refine bn (N := 2) rfl ?_); refine bG ?hg (N := 2) ?hd (cs := #[.int .i64 a0_0, .int .i64 a0_1, .slice A8 l0_2.length A9, .slice B0 l0_3.length B3, .slice C1 l0_4.length C2]) (t := 28) ?hr ?_; (case hd => rfl); (case hg => rfl); (case hr => first | (go_simp; done) | (go_simp; rfl)); intro A7 hg w7 hbox hb; have A1 := a_ (hbox); have F2 := a_ ((fO : w.heap.size ≤ A7)); have GE195 := a_ ((fO : w.heap.size ≤ A7)); replace HB := cK bX hb; clear hb hbox hg))
 replace A1 := a_ (bv A1.out)
 replace HB := a_ (aM HB.out)
 refine gW (n := 8) (S := fun w' => w'.cell? ⟨A7, 0, none⟩ = some (.int .i64 a0_0) ∧ w'.cell? ⟨A7, 1, none⟩ = some (.int .i64 a0_1) ∧ w'.cell? ⟨A7, 2, none⟩ = some (.slice A8 l0_2.length A9) ∧ w'.cell? ⟨A7, 3, none⟩ = some (.slice B0 l0_3.length B3) ∧ w'.cell? ⟨A7, 4, none⟩ = some (.slice C1 l0_4.length C2)) (ds := []) #[false, false, false, false, false, false, false, false] (by kernel_rfl) rfl rfl ⟨(aa A1.out 0).trans rfl, (aa A1.out 1).trans rfl, (aa A1.out 2).trans rfl, (aa A1.out 3).trans rfl, (aa A1.out 4).trans rfl⟩ (fun hHeld => ?_); refine fq bM.CF bM.Cf (fun HT_ HW_ => ?_)
 generalize w7.drew = w8 at A1 HB hHeld ⊢
 refine pv_ 0 (some 8) ?_
 refine pv_ 3 (some 11) ?_
 refine xU (i := 1) (N := some 9) hHeld ?_
 refine xU (i := 4) (N := some 12) hHeld ?_
 refine on_ (i := 2) (N := some 10) (fun K hK => ?_)
 refine iQ Tryz.func78 (by kernel_rfl) rfl #[.slice A8 l0_2.length A9] (by rfl) rfl rfl dN ?_
 with_reducible refine (aZ.calls k _ _ l0_2 C3 _ ?side1 ?side2 A3.out).mono ?_
 (case side1 => exact kc_ (Kd.bT D7.out HB.out))
 (case side2 => exact D8.out)
 rintro e w9 ⟨rfl, hb⟩
 refine ⟨_, rfl, ?_⟩
 replace A1 := bb_ A7 A1 hb
 replace HB := cK vH hb
 (try clear hb)
 (try clear hb2)
 (try clear hk)
 (try clear hi)
 refine hK.out _ _ ⟨(aa A1.out 0).trans rfl, (aa A1.out 1).trans rfl, (aa A1.out 2).trans rfl, (aa A1.out 3).trans rfl, (aa A1.out 4).trans rfl⟩ (fun hHeld => ?_)
 clear hK K
 refine nm_ ?_
 refine on_ (i := 5) (N := some 13) (fun K hK => ?_)
 refine iQ Tryz.func78 (by kernel_rfl) rfl #[.slice B0 l0_3.length B3] (by rfl) rfl rfl dN ?_
 with_reducible refine (aZ.calls k _ _ l0_3 C4 _ ?side1 ?side2 A4.out).mono ?_
 (case side1 => exact kc_ (Kd.bT D9.out HB.out))
 (case side2 => exact E0.out)
 rintro e F5 ⟨rfl, hb⟩
 refine ⟨_, rfl, ?_⟩
 replace A1 := bb_ A7 A1 hb
 replace HB := cK vH hb
 (try clear hb)
 (try clear hb2)
 (try clear hk)
 (try clear hi)
 refine hK.out _ _ ⟨(aa A1.out 0).trans rfl, (aa A1.out 1).trans rfl, (aa A1.out 2).trans rfl, (aa A1.out 3).trans rfl, (aa A1.out 4).trans rfl⟩ (fun hHeld => ?_)
 clear hK K
 refine nm_ ?_
 refine pv_ 6 (some 14) ?_
 refine pv_ 7 (some 5) ?_
 refine jl (iw HT_.out (by kernel_rfl)) ?_
 obtain ⟨C6, C7, C8, C9, D0, D1, D2, D3, D4, D5⟩ := eU (w := F5) A1.out
 try go_wp2_with (first | ((with_reducible refine av (f := 70) rfl ?_); refine bJ (some 17) rfl rfl Tryz.func70 (by kernel_rfl) rfl #[.agg #[.int .i64 a0_0, .int .i64 a0_1, .slice A8 l0_2.length A9, .slice B0 l0_3.length B3, .slice C1 l0_4.length C2], .string a1] rfl dN ?_; (with_reducible refine (aV.calls k a0_0 a0_1 _ _ l0_2 _ _ l0_3 _ _ l0_4 a1 A5 _ ?side1 ?side2 ?side3 ?side4 ?side5 ?side6 A6.out).mono ?_); (case side1 => exact kc_ (Kd.bT D7.out HB.out)); (case side2 => exact D8.out); (case side3 => exact kc_ (Kd.bT D9.out HB.out)); (case side4 => exact E0.out); (case side5 => exact kc_ (Kd.bT HR0_4.out HB.out)); (case side6 => exact E4.out); rintro e F7 ⟨F6, rfl, ho0, hb⟩; refine ⟨_, rfl, ?_⟩; have E2 := a_ (Kd.bE ho0 (ai vH)); replace A1 := bb_ A7 A1 hb; replace HB := cK vH hb; (try clear hb); (try clear ho0); obtain ⟨E9, F0, F1⟩ := Kd.bg E2.out; subst F1))
 go_loopg [19] k (fun kq v19 w' => ∃ (A2 : Int), v19 = .int .i64 A2 ∧ af (bM.l0 kq E1 A5 (A5.length : Int) A2 = some r) ∧ af (kq ≤ k) ∧ af (Kd.R (Kd.int .i64) 2 w' w.heap.size (fun _ => True) (.slice E9 A5.length F0) A5) ∧ af (w'.heap[A7]? = some (.cells #[.int .i64 a0_0, .int .i64 a0_1, (.slice A8 l0_2.length A9), (.slice B0 l0_3.length B3), (.slice C1 l0_4.length C2)] 28 (0, 0))) ∧ af (Below w.heap.size w w'))
 case atStart => exact ⟨(0), cz, H', ⟨Nat.le_refl _⟩, ⟨by (with_reducible repeat (first | apply Kd.aC | apply Kd.aA | apply Kd.ay)); exact E2.out⟩, ⟨by (with_reducible repeat (first | refine bO ?_ _ | refine bv ?_ | refine bN ?_ _)); exact A1.out⟩, ⟨vH⟩⟩
 case round =>
  clear H'
  try clear C6 C7 C8 C9 D0; try clear D1 D2 D3 D4 D5
  obtain ⟨A2, rfl, HA, HK1, C5, A1, HB⟩ := hrel
  cases gk with
  | zero => exact absurd HA.out (by simp [bM.l0])
  | succ k1 =>
   have H := HA.out
   clear HA
   simp only [bM.l0] at H
   by_cases c14 : A2 < (A5.length : Int)
   ·rw [if_pos c14] at H
    have E5 := decide_eq_true c14
    clear c14
    replace H := ig_ H; obtain ⟨c15, H⟩ := H
    have F3 := decide_eq_true c15
    clear c15
    replace H := ig_ H; obtain ⟨c16, H⟩ := H
    have F4 := decide_eq_true c16
    clear c16
    by_cases c17 : (rd A5 A2) = (wrap64 (E1 + A2))
    ·rw [if_pos c17] at H
     have E6 : ((rd A5 A2) == (wrap64 (E1 + A2))) = true := beq_iff_eq.mpr c17
     have E7 : ((rd A5 A2) != (wrap64 (E1 + A2))) = false := bne_eq_false_iff_eq.mpr c17
     clear c17
     have H' := a_ H
     clear H
     have B7 : 0 ≤ (A2 : Int) := of_decide_eq_true aX
     have C0 : A2 < (A5.length : Int) := of_decide_eq_true aX
     obtain ⟨E8, E3, D6⟩ := Kd.eF (Kd.aI C5.out).2.2 A2 B7 C0
     cases E3
     replace B7 := eq_true B7
     replace C0 := eq_true C0
     go_wp2
     go_roundg k1
     case measure => have := HK1.out; omega
     case rel => exact ⟨(wrap64 (A2 + 1)), cz, H', ⟨kW⟩, ⟨by (with_reducible repeat (first | apply Kd.aC | apply Kd.aA | apply Kd.ay)); exact C5.out⟩, ⟨by (with_reducible repeat (first | refine bO ?_ _ | refine bv ?_ | refine bN ?_ _)); exact A1.out⟩, ⟨vH⟩⟩
    rw [if_neg c17] at H
    have E6 : ((rd A5 A2) == (wrap64 (E1 + A2))) = false := beq_eq_false_iff_ne.mpr c17
    have E7 : ((rd A5 A2) != (wrap64 (E1 + A2))) = true := bne_iff_ne.mpr c17
    obtain rfl := Option.some.inj H
    have B7 : 0 ≤ (A2 : Int) := of_decide_eq_true aX
    have C0 : A2 < (A5.length : Int) := of_decide_eq_true aX
    obtain ⟨E8, E3, D6⟩ := Kd.eF (Kd.aI C5.out).2.2 A2 B7 C0
    cases E3
    replace B7 := eq_true B7
    replace C0 := eq_true C0
    go_wp2
    go_ret
    exact ⟨by first | rfl | (simp only [Go.IntWalk.i64_left]; first | done | rfl) | (simp [gM, gN] <;> rfl) | (simp only [← B4]; first | rfl | (simp [gM, gN] <;> rfl)) | (simp [*, gM, gN] <;> rfl), vH⟩
   rw [if_neg c14] at H
   have E5 := decide_eq_false c14
   clear c14
   obtain rfl := Option.some.inj H
   go_wp2
   go_ret
   exact ⟨by first | rfl | (simp only [Go.IntWalk.i64_left]; first | done | rfl) | (simp [gM, gN] <;> rfl) | (simp only [← B4]; first | rfl | (simp [gM, gN] <;> rfl)) | (simp [*, gM, gN] <;> rfl), vH⟩
def dY.f (k : Nat) (a0_0 : Int) (a0_1 : Int) (l0_2 : List Int) (l0_3 : List Int) (l0_4 : List Int) (a1 : ByteArray) : Option (Bool × Int) := (ed.f k a0_0 a0_1 l0_2 l0_3 l0_4 a1).bind fun t203 => (if t203 = 0 then ((bM.f k a0_0 a0_1 l0_2 l0_3 l0_4 a1).bind fun t204 => (some (t204, 0))) else (some (false, t203)))
theorem dY.mono : ∀ a0 a1 a2 a3 a4 a5 k, LeO (dY.f k a0 a1 a2 a3 a4 a5) (dY.f (k + 1) a0 a1 a2 a3 a4 a5) := by
 intro a0 a1 a2 a3 a4 a5 k
 unfold dY.f
 repeat' first | (with_reducible first | exact ed.mono .. | exact bM.mono .. | exact LeO.refl .. | exact LeO.none .. | refine LeO.ite ?_ ?_ | refine LeO.bind ?_ (fun _ => ?_))
theorem dY.calls (k : Nat) (a0_0 : Int) (a0_1 : Int) (A6 : Option Addr) (A7 : Nat) (l0_2 : List Int) (A8 : Option Addr) (A9 : Nat) (l0_3 : List Int) (B0 : Option Addr) (B3 : Nat) (l0_4 : List Int) (a1 : ByteArray) (r1 : Bool) (r2 : Int) (w : World) (hr0_2 : Kd.C (Kd.int .i64) w A6 l0_2.length l0_2) (hc0_2 : l0_2.length ≤ A7) (hr0_3 : Kd.C (Kd.int .i64) w A8 l0_3.length l0_3) (hc0_3 : l0_3.length ≤ A9) (hr0_4 : Kd.C (Kd.int .i64) w B0 l0_4.length l0_4) (hc0_4 : l0_4.length ≤ B3) (h : dY.f k a0_0 a0_1 l0_2 l0_3 l0_4 a1 = some (r1, r2)) :
  Calls Tryz.prog 10 #[.agg #[.int .i64 a0_0, .int .i64 a0_1, .slice A6 l0_2.length A7, .slice A8 l0_3.length A9, .slice B0 l0_4.length B3], .string a1] w fun e w' => e = .returned (.tuple #[.bool r1, .int .i64 r2]) ∧ Below w.heap.size w w' := by
 have hu28 := Tryz.underlying28
 have B4 := a_ hr0_2
 have B7 := a_ hc0_2
 clear hr0_2 hc0_2
 have C0 := a_ hr0_3
 have C1 := a_ hc0_3
 clear hr0_3 hc0_3
 have HR0_4 := a_ hr0_4
 have C2 := a_ hc0_4
 clear hr0_4 hc0_4
 have HB := a_ (Below.refl w.heap.size w)
 have H : ((ed.f k a0_0 a0_1 l0_2 l0_3 l0_4 a1).bind fun A4 => (if A4 = 0 then ((bM.f k a0_0 a0_1 l0_2 l0_3 l0_4 a1).bind fun C3 => (some (C3, 0))) else (some (false, A4)))) = some (r1, r2) := h
 clear h
 replace H := bo_ H; obtain ⟨A4, A3, H⟩ := H; (try dsimp only at H)
 by_cases c4 : A4 = 0
 ·rw [if_pos c4] at H
  have D5 : (A4 == 0) = true := beq_iff_eq.mpr c4
  have D6 : (A4 != 0) = false := bne_eq_false_iff_eq.mpr c4
  clear c4
  replace H := bo_ H; obtain ⟨C3, A5, H⟩ := H; (try dsimp only at H)
  simp only [Option.some.injEq, Prod.mk.injEq] at H
  obtain ⟨rfl, rfl⟩ := H
  go_enter Tryz.func10, Tryz.ntmps10
  go_wp2_with (first | ((with_reducible refine bn (N := 2) rfl ?_); refine bG ?hg (N := 2) ?hd (cs := #[.int .i64 a0_0, .int .i64 a0_1, .slice A6 l0_2.length A7, .slice A8 l0_3.length A9, .slice B0 l0_4.length B3]) (t := 28) ?hr ?_; (case hd => rfl); (case hg => rfl); (case hr => first | (go_simp; done) | (go_simp; rfl)); intro A2 hg w6 hbox hb; have A1 := a_ (hbox); have C4 := a_ ((fO : w.heap.size ≤ A2)); have GE202 := a_ ((fO : w.heap.size ≤ A2)); replace HB := cK bX hb; clear hb hbox hg; obtain ⟨D7, D8, D9, E0, E1, E2, E3, E4, E5, E6⟩ := eU (w := w6) A1.out) | ((with_reducible refine av (f := 39) rfl ?_); refine bJ (some 9) rfl rfl Tryz.func39 (by kernel_rfl) rfl #[.agg #[.int .i64 a0_0, .int .i64 a0_1, .slice A6 l0_2.length A7, .slice A8 l0_3.length A9, .slice B0 l0_4.length B3], .string a1] rfl dN ?_; (with_reducible refine (ed.calls k a0_0 a0_1 _ _ l0_2 _ _ l0_3 _ _ l0_4 a1 A4 _ ?side1 ?side2 ?side3 ?side4 ?side5 ?side6 A3.out).mono ?_); (case side1 => exact kc_ (Kd.bT B4.out HB.out)); (case side2 => exact B7.out); (case side3 => exact kc_ (Kd.bT C0.out HB.out)); (case side4 => exact C1.out); (case side5 => exact kc_ (Kd.bT HR0_4.out HB.out)); (case side6 => exact C2.out); rintro e w8 ⟨rfl, hb⟩; refine ⟨_, rfl, ?_⟩; replace A1 := bb_ A2 A1 hb; replace HB := cK yR hb; (try clear hb); obtain ⟨E7, E8, E9, F0, F1, F2, F3, F4, F5, F6⟩ := eU (w := w8) A1.out) | ((with_reducible refine av (f := 40) rfl ?_); refine bJ (some 15) rfl rfl Tryz.func40 (by kernel_rfl) rfl #[.agg #[.int .i64 a0_0, .int .i64 a0_1, .slice A6 l0_2.length A7, .slice A8 l0_3.length A9, .slice B0 l0_4.length B3], .string a1] rfl dN ?_; (with_reducible refine (bM.calls k a0_0 a0_1 _ _ l0_2 _ _ l0_3 _ _ l0_4 a1 C3 _ ?side1 ?side2 ?side3 ?side4 ?side5 ?side6 A5.out).mono ?_); (case side1 => exact kc_ (Kd.bT B4.out HB.out)); (case side2 => exact B7.out); (case side3 => exact kc_ (Kd.bT C0.out HB.out)); (case side4 => exact C1.out); (case side5 => exact kc_ (Kd.bT HR0_4.out HB.out)); (case side6 => exact C2.out); rintro e F8 ⟨rfl, hb⟩; refine ⟨_, rfl, ?_⟩; replace A1 := bb_ A2 A1 hb; replace HB := cK yR hb; (try clear hb)))
  go_ret2
  exact ⟨gy, yR⟩
 rw [if_neg c4] at H
 have D5 : (A4 == 0) = false := beq_eq_false_iff_ne.mpr c4
 have D6 : (A4 != 0) = true := bne_iff_ne.mpr c4
 simp only [Option.some.injEq, Prod.mk.injEq] at H
 obtain ⟨rfl, rfl⟩ := H
 go_enter Tryz.func10, Tryz.ntmps10
 go_wp2_with (first | ((with_reducible refine bn (N := 2) rfl ?_); refine bG ?hg (N := 2) ?hd (cs := #[.int .i64 a0_0, .int .i64 a0_1, .slice A6 l0_2.length A7, .slice A8 l0_3.length A9, .slice B0 l0_4.length B3]) (t := 28) ?hr ?_; (case hd => rfl); (case hg => rfl); (case hr => first | (go_simp; done) | (go_simp; rfl)); intro A2 hg F7 hbox hb; have A1 := a_ (hbox); have C4 := a_ ((fO : w.heap.size ≤ A2)); have GE202 := a_ ((fO : w.heap.size ≤ A2)); replace HB := cK bX hb; clear hb hbox hg; obtain ⟨C5, C6, C7, C8, C9, D0, D1, D2, D3, D4⟩ := eU (w := F7) A1.out) | ((with_reducible refine av (f := 39) rfl ?_); refine bJ (some 9) rfl rfl Tryz.func39 (by kernel_rfl) rfl #[.agg #[.int .i64 a0_0, .int .i64 a0_1, .slice A6 l0_2.length A7, .slice A8 l0_3.length A9, .slice B0 l0_4.length B3], .string a1] rfl dN ?_; (with_reducible refine (ed.calls k a0_0 a0_1 _ _ l0_2 _ _ l0_3 _ _ l0_4 a1 A4 _ ?side1 ?side2 ?side3 ?side4 ?side5 ?side6 A3.out).mono ?_); (case side1 => exact kc_ (Kd.bT B4.out HB.out)); (case side2 => exact B7.out); (case side3 => exact kc_ (Kd.bT C0.out HB.out)); (case side4 => exact C1.out); (case side5 => exact kc_ (Kd.bT HR0_4.out HB.out)); (case side6 => exact C2.out); rintro e F9 ⟨rfl, hb⟩; refine ⟨_, rfl, ?_⟩; replace A1 := bb_ A2 A1 hb; replace HB := cK yR hb; (try clear hb)))
 go_ret2
 exact ⟨gy, yR⟩
def kI.f (l0 : List Int) : Option (Bool) := some (decide ((l0.length : Int) > 4096))
theorem kI.calls (A0 : Option Addr) (c0 : Nat) (l0 : List Int) (r : Bool) (w : World) (hr0 : Kd.C (Kd.int .u8) w A0 l0.length l0) (hc0 : l0.length ≤ c0) (h : kI.f l0 = some r) :
  Calls Tryz.prog 12 #[.slice A0 l0.length c0] w fun e w' => e = .returned (.bool r) ∧ fJ w w' := by
 have HR0 := a_ hr0
 have A1 := a_ hc0
 clear hr0 hc0
 have H : (some (decide ((l0.length : Int) > 4096))) = some r := h
 clear h
 obtain rfl := Option.some.inj H
 go_enter Tryz.func12, Tryz.ntmps12
 go_wp2
 go_ret
 exact ⟨gT, fI⟩
def ak (w0 W : World) (g : Nat) (f0 : List Int) (f1 : Int) (f2 : Int) : Prop := ∃ A0 c0, W.heap[g]? = some (.cells #[.slice A0 f0.length c0, .int .i64 f1, .int .i64 f2] 94 (0, 0)) ∧ w0.heap.size ≤ g ∧ Kd.C (Kd.int .u8) w0 A0 f0.length f0
theorem ak.grown {w0 W : World} {g : Nat} {f0 : List Int} {f1 : Int} {f2 : Int} {W1 : World} {row : Option Nat} (h : ak w0 W g f0 f1 f2) (hw : W.grownBy W1 row) (hne : some g ≠ row) : ak w0 W1 g f0 f1 f2 := by
 obtain ⟨A0, c0, hb, hg, hr0⟩ := h
 exact ⟨A0, c0, eY hb hw hne, hg, hr0⟩
theorem ak.Ck {w0 W : World} {g : Nat} {f0 : List Int} {f1 : Int} {f2 : Int} {α : Type} {d : Kd α} {e : Nat} {base : Nat} {ok : Nat → Prop} {v : Value} {xs : List α} (h : ak w0 W g f0 f1 f2) (ho : Kd.N d e W base ok v xs) (ht : e ≠ 94) : some g ≠ v.ownBlock := by
 obtain ⟨A0, c0, hb, hg, hr0⟩ := h
 exact Kd.Cy ho hb ht
theorem ak.fresh {w0 W : World} {g : Nat} {f0 : List Int} {f1 : Int} {f2 : Int} (h : ak w0 W g f0 f1 f2) : ∀ k, W.heap.size ≤ k → k ≠ g := by
 obtain ⟨A0, c0, hb, hg, hr0⟩ := h
 exact Kd.ll hb
theorem ak.kept {w0 W : World} {g : Nat} {f0 : List Int} {f1 : Int} {f2 : Int} {W1 : World} {S : Nat → Prop} (h : ak w0 W g f0 f1 f2) (hk : Kept W W1 S) (hne : ¬ S g) : ak w0 W1 g f0 f1 f2 := by
 obtain ⟨A0, c0, hb, hg, hr0⟩ := h
 exact ⟨A0, c0, yw hb hk hne, hg, hr0⟩
theorem ak.below {w0 W : World} {g : Nat} {f0 : List Int} {f1 : Int} {f2 : Int} {W1 : World} (h : ak w0 W g f0 f1 f2) (hw : Below W.heap.size W W1) : ak w0 W1 g f0 f1 f2 := h.grown (mr hw none) (by simp)
theorem ak.alloc {w0 W : World} {g : Nat} {f0 : List Int} {f1 : Int} {f2 : Int} (h : ak w0 W g f0 f1 f2) (o : Obj) : ak w0 (W.alloc o) g f0 f1 f2 := h.below (aN (Below.refl _ _) o)
theorem ak.drewN {w0 W : World} {g : Nat} {f0 : List Int} {f1 : Int} {f2 : Int} (h : ak w0 W g f0 f1 f2) (m : Nat) : ak w0 (W.drewN m) g f0 f1 f2 := h
theorem ak.drew {w0 W : World} {g : Nat} {f0 : List Int} {f1 : Int} {f2 : Int} (h : ak w0 W g f0 f1 f2) : ak w0 W.drew g f0 f1 f2 := h
theorem ak.at_ {w0 W : World} {g : Nat} {f0 : List Int} {f1 : Int} {f2 : Int} {w' : World} {m : Nat} (hq : W.drewN m = w') (h : ak w0 W g f0 f1 f2) : ak w0 w' g f0 f1 f2 := by subst hq; exact ak.drewN h m
theorem ak.apart {w0 W : World} {g : Nat} {f0 : List Int} {f1 : Int} {f2 : Int} {α : Type} {d : Kd α} {e : Nat} {base : Nat} {ok : Nat → Prop} {v : Value} {xs : List α} (h : ak w0 W g f0 f1 f2) (ho : d.R e W base ok v xs) (ht : ∀ q, q ∈ e :: d.E → q ≠ 94) : d.R e W base (fun k => ok k ∧ k ≠ g) v xs := by
 obtain ⟨A0, c0, hb, hg, hr0⟩ := h
 exact Kd.dR ho hb ht
theorem ak.own_ne {w0 W : World} {g : Nat} {f0 : List Int} {f1 : Int} {f2 : Int} {α : Type} {d : Kd α} {e : Nat} {base : Nat} {ok : Nat → Prop} {v : Value} {xs : List α} (h : ak w0 W g f0 f1 f2) (ho : d.R e W base ok v xs) (ht : e ≠ 94) : some g ≠ v.ownBlock := by
 obtain ⟨A0, c0, hb, hg, hr0⟩ := h
 exact Kd.iU ho hb ht
theorem ak.Cq {w0 W : World} {g : Nat} {f0 : List Int} {f1 : Int} {f2 : Int} {α : Type} {d : Kd α} {e : Nat} {base : Nat} {ok : Nat → Prop} {v : Value} {xs : List α} (h : ak w0 W g f0 f1 f2) (ho : d.Q e W base ok v xs) (ht : ∀ q, q ∈ e :: d.E → q ≠ 94) : d.Q e W base (fun k => ok k ∧ k ≠ g) v xs := by
 obtain ⟨A0, c0, hb, hg, hr0⟩ := h
 exact Kd.zK ho hb ht
theorem ak.Ci {w0 W : World} {g : Nat} {f0 : List Int} {f1 : Int} {f2 : Int} {α : Type} {d : Kd α} {e : Nat} {base : Nat} {ok : Nat → Prop} {v : Value} {xs : List α} (h : ak w0 W g f0 f1 f2) (ho : d.Q e W base ok v xs) (ht : e ≠ 94) : some g ≠ v.ownBlock := by
 obtain ⟨A0, c0, hb, hg, hr0⟩ := h
 exact Kd.Cv ho hb ht
theorem ak.Cn {w0 W : World} {g : Nat} {f0 : List Int} {f1 : Int} {f2 : Int} {α : Type} {d : Kd α} {e : Nat} {base : Nat} {ok : Nat → Prop} {v : Value} {xs : List α} (h : ak w0 W g f0 f1 f2) (ho : d.S e W base ok v xs) (ht : ∀ q, q ∈ e :: d.E → q ≠ 94) : d.S e W base (fun k => ok k ∧ k ≠ g) v xs := by
 obtain ⟨A0, c0, hb, hg, hr0⟩ := h
 exact Kd.zX ho hb ht
theorem ak.Cj {w0 W : World} {g : Nat} {f0 : List Int} {f1 : Int} {f2 : Int} {α : Type} {d : Kd α} {e : Nat} {base : Nat} {ok : Nat → Prop} {v : Value} {xs : List α} (h : ak w0 W g f0 f1 f2) (ho : d.S e W base ok v xs) (ht : e ≠ 94) : some g ≠ v.ownBlock := by
 obtain ⟨A0, c0, hb, hg, hr0⟩ := h
 exact Kd.Cz ho hb ht
theorem ak.lt {w0 W : World} {g : Nat} {f0 : List Int} {f1 : Int} {f2 : Int} (h : ak w0 W g f0 f1 f2) : g < W.heap.size := by
 obtain ⟨A0, c0, hb, hg, hr0⟩ := h
 exact dI hb
theorem ak.ge {w0 W : World} {g : Nat} {f0 : List Int} {f1 : Int} {f2 : Int} (h : ak w0 W g f0 f1 f2) : w0.heap.size ≤ g := by
 obtain ⟨A0, c0, hb, hg, hr0⟩ := h
 exact hg
theorem ak.sS {w0 W : World} {g : Nat} {f0 : List Int} {f1 : Int} {f2 : Int} {a : Nat} {cs : Array Value} {t : TypeId} {fr : Nat × Nat} (h : ak w0 W g f0 f1 f2) (hb2 : W.heap[a]? = some (.cells cs t fr)) (ht : t ≠ 94) : g ≠ a := by
 obtain ⟨A0, c0, hb, hg, hr0⟩ := h
 rintro rfl
 rw [hb] at hb2
 injection hb2 with hb2
 injection hb2 with _ ht2
 exact ht ht2.symm
theorem ak.far {w0 W : World} {g : Nat} {f0 : List Int} {f1 : Int} {f2 : Int} {p : Addr} (h : ak w0 W g f0 f1 f2) (hne : g ≠ p.block) (u : Value) : ak w0 (W.setCell p u) g f0 f1 f2 := by
 obtain ⟨A0, c0, hb, hg, hr0⟩ := h
 exact ⟨A0, c0, fK hb hne u, hg, hr0⟩
theorem nz {W : World} {g : Nat} {A0 : Option Addr} {c0 : Nat} {f0 : List Int} {f1 : Int} {f2 : Int} (h : W.heap[g]? = some (.cells #[.slice A0 f0.length c0, .int .i64 f1, .int .i64 f2] 94 (0, 0))) : W.cell? ⟨g, 0, none⟩ = some (.slice A0 f0.length c0) := (aa h 0).trans rfl
theorem mR {W : World} {g : Nat} {A0 : Option Addr} {c0 : Nat} {f0 : List Int} {f1 : Int} {f2 : Int} (h : W.heap[g]? = some (.cells #[.slice A0 f0.length c0, .int .i64 f1, .int .i64 f2] 94 (0, 0))) : W.cell? ⟨g, 1, none⟩ = some (.int .i64 f1) := (aa h 1).trans rfl
theorem ak.ou {w0 W : World} {g : Nat} {f0 : List Int} {f1 : Int} {f2 : Int} (h : ak w0 W g f0 f1 f2) (x : Int) : ak w0 (W.setCell ⟨g, 1, none⟩ (.int .i64 x)) g f0 x f2 := by
 obtain ⟨A0, c0, hb, hg, hr0⟩ := h
 exact ⟨A0, c0, by simpa using uo hb 1 (.int .i64 x), hg, hr0⟩
theorem mM {W : World} {g : Nat} {A0 : Option Addr} {c0 : Nat} {f0 : List Int} {f1 : Int} {f2 : Int} (h : W.heap[g]? = some (.cells #[.slice A0 f0.length c0, .int .i64 f1, .int .i64 f2] 94 (0, 0))) : W.cell? ⟨g, 2, none⟩ = some (.int .i64 f2) := (aa h 2).trans rfl
theorem ak.oC {w0 W : World} {g : Nat} {f0 : List Int} {f1 : Int} {f2 : Int} (h : ak w0 W g f0 f1 f2) (x : Int) : ak w0 (W.setCell ⟨g, 2, none⟩ (.int .i64 x)) g f0 f1 x := by
 obtain ⟨A0, c0, hb, hg, hr0⟩ := h
 exact ⟨A0, c0, by simpa using uo hb 2 (.int .i64 x), hg, hr0⟩
theorem ak.new (w0 W : World) (A0 : Option Addr) (c0 : Nat) (f0 : List Int) (f1 : Int) (f2 : Int) (hB : Below w0.heap.size w0 W) (hr0 : Kd.C (Kd.int .u8) w0 A0 f0.length f0) : ak w0 (W.alloc (.cells #[.slice A0 f0.length c0, .int .i64 f1, .int .i64 f2] 94)) W.heap.size f0 f1 f2 := ⟨A0, c0, by simpa using heap_alloc_new W _, hB.size, hr0⟩
def bf.f (s0_0 : List Int) (s0_1 : Int) (s0_2 : Int) (a1 : Int) : Option (Int × Int × Int) := if a1 ≤ 1 then (some (0, s0_1, s0_2)) else (if s0_1 < (s0_0.length : Int) then (if 0 ≤ s0_1 then (if a1 ≤ 256 then (if (Int.tmod (wrap64 (s0_1 + 1)) 2) = 0 then (if 0 ≤ (wrap64 ((wrap64 (s0_1 + 1)) - 1)) then (if (wrap64 ((wrap64 (s0_1 + 1)) - 1)) < (s0_0.length : Int) then (if a1 = 0 then (none) else (some (Int.tmod (wrap64 (rd s0_0 (wrap64 ((wrap64 (s0_1 + 1)) - 1)))) a1, wrap64 (s0_1 + 1), Int.tmod (wrap64 ((wrap64 (s0_2 * 48271)) + 61)) 2147483647))) else (none)) else (none)) else (if a1 = 0 then (none) else (some (Int.tmod (wrap64 ((wrap64 (Int.tdiv (Int.tmod (wrap64 ((wrap64 (s0_2 * 48271)) + 61)) 2147483647) 31)) + (wrap64 (rd s0_0 s0_1)))) a1, wrap64 (s0_1 + 1), Int.tmod (wrap64 ((wrap64 (s0_2 * 48271)) + 61)) 2147483647)))) else (if a1 = 0 then (none) else (some (Int.tmod (wrap64 ((wrap64 (Int.tdiv (Int.tmod (wrap64 ((wrap64 (s0_2 * 48271)) + 61)) 2147483647) 31)) + (wrap64 (rd s0_0 s0_1)))) a1, wrap64 (s0_1 + 1), Int.tmod (wrap64 ((wrap64 (s0_2 * 48271)) + 61)) 2147483647)))) else (none)) else (if a1 = 0 then (none) else (some (Int.tmod (wrap64 (Int.tdiv (Int.tmod (wrap64 ((wrap64 (s0_2 * 48271)) + 61)) 2147483647) 31)) a1, s0_1, Int.tmod (wrap64 ((wrap64 (s0_2 * 48271)) + 61)) 2147483647))))
theorem bf.calls (g : Nat) (s0_0 : List Int) (s0_1 : Int) (s0_2 : Int) (a1 : Int) (r1 : Int) (r2 : Int) (r3 : Int) (w0 w : World) (hI : ak w0 w g s0_0 s0_1 s0_2) (hB : Below w0.heap.size w0 w) (h : bf.f s0_0 s0_1 s0_2 a1 = some (r1, r2, r3)) :
  Calls Tryz.prog 52 #[.pointer (some ⟨g, 0, none⟩), .int .i64 a1] w fun e w' => e = .returned (.int .i64 r1) ∧ ak w0 w' g s0_0 r2 r3 ∧ Below w0.heap.size w0 w' ∧ az w w' g none := by
 have HI0 := a_ hI
 have HK := a_ (az.refl w g none)
 have HL := af.mk hB.size
 clear hI
 have HW0 := af.mk hB.size
 have HB := a_ hB
 clear hB
 have H : (if a1 ≤ 1 then (some (0, s0_1, s0_2)) else (if s0_1 < (s0_0.length : Int) then (if 0 ≤ s0_1 then (if a1 ≤ 256 then (if (Int.tmod (wrap64 (s0_1 + 1)) 2) = 0 then (if 0 ≤ (wrap64 ((wrap64 (s0_1 + 1)) - 1)) then (if (wrap64 ((wrap64 (s0_1 + 1)) - 1)) < (s0_0.length : Int) then (if a1 = 0 then (none) else (some (Int.tmod (wrap64 (rd s0_0 (wrap64 ((wrap64 (s0_1 + 1)) - 1)))) a1, wrap64 (s0_1 + 1), Int.tmod (wrap64 ((wrap64 (s0_2 * 48271)) + 61)) 2147483647))) else (none)) else (none)) else (if a1 = 0 then (none) else (some (Int.tmod (wrap64 ((wrap64 (Int.tdiv (Int.tmod (wrap64 ((wrap64 (s0_2 * 48271)) + 61)) 2147483647) 31)) + (wrap64 (rd s0_0 s0_1)))) a1, wrap64 (s0_1 + 1), Int.tmod (wrap64 ((wrap64 (s0_2 * 48271)) + 61)) 2147483647)))) else (if a1 = 0 then (none) else (some (Int.tmod (wrap64 ((wrap64 (Int.tdiv (Int.tmod (wrap64 ((wrap64 (s0_2 * 48271)) + 61)) 2147483647) 31)) + (wrap64 (rd s0_0 s0_1)))) a1, wrap64 (s0_1 + 1), Int.tmod (wrap64 ((wrap64 (s0_2 * 48271)) + 61)) 2147483647)))) else (none)) else (if a1 = 0 then (none) else (some (Int.tmod (wrap64 (Int.tdiv (Int.tmod (wrap64 ((wrap64 (s0_2 * 48271)) + 61)) 2147483647) 31)) a1, s0_1, Int.tmod (wrap64 ((wrap64 (s0_2 * 48271)) + 61)) 2147483647))))) = some (r1, r2, r3) := h
 clear h
 by_cases c3 : a1 ≤ 1
 ·rw [if_pos c3] at H
  have E2 := decide_eq_true c3
  clear c3
  simp only [Option.some.injEq, Prod.mk.injEq] at H
  obtain ⟨rfl, rfl, rfl⟩ := H
  go_enter Tryz.func52, Tryz.ntmps52
  go_wp2
  repeat (go_quiet (fail); try go_wp2)
  go_ret
  exact ⟨gy, eO, gq, fB⟩
 rw [if_neg c3] at H
 have E2 := decide_eq_false c3
 clear c3
 by_cases c4 : s0_1 < (s0_0.length : Int)
 ·rw [if_pos c4] at H
  have E3 := decide_eq_true c4
  clear c4
  replace H := ig_ H; obtain ⟨c5, H⟩ := H
  have F7 := decide_eq_true c5
  clear c5
  by_cases c6 : a1 ≤ 256
  ·rw [if_pos c6] at H
   have E4 := decide_eq_true c6
   clear c6
   by_cases c7 : (Int.tmod (wrap64 (s0_1 + 1)) 2) = 0
   ·rw [if_pos c7] at H
    have E5 : ((Int.tmod (wrap64 (s0_1 + 1)) 2) == 0) = true := beq_iff_eq.mpr c7
    have E6 : ((Int.tmod (wrap64 (s0_1 + 1)) 2) != 0) = false := bne_eq_false_iff_eq.mpr c7
    clear c7
    obtain ⟨B3, B0⟩ : ∃ j_ : Int, (wrap64 ((wrap64 (s0_1 + 1)) - 1)) = j_ := ⟨_, rfl⟩
    replace H : (if 0 ≤ (B3) then (if (B3) < (s0_0.length : Int) then (if a1 = 0 then (none) else (some (Int.tmod (wrap64 (rd s0_0 (B3))) a1, wrap64 (s0_1 + 1), Int.tmod (wrap64 ((wrap64 (s0_2 * 48271)) + 61)) 2147483647))) else (none)) else (none)) = some (r1, r2, r3) := by first | (rw [B0] at H; exact H) | (simp only [B0] at H ⊢; exact H)
    have hji8w : (IntKind.i64.wrap ((wrap64 (s0_1 + 1)) - 1)) = B3 := (eX _).trans B0
    replace H := ig_ H; obtain ⟨c9, H⟩ := H
    have F8 := decide_eq_true c9
    clear c9
    replace H := ig_ H; obtain ⟨c10, H⟩ := H
    have E8 := decide_eq_true c10
    clear c10
    replace H := in_ H; obtain ⟨c11, H⟩ := H
    have E9 : (a1 == 0) = false := beq_eq_false_iff_ne.mpr c11
    have F0 : (a1 != 0) = true := bne_iff_ne.mpr c11
    simp only [Option.some.injEq, Prod.mk.injEq] at H
    obtain ⟨rfl, rfl, rfl⟩ := H
    obtain ⟨ASz12_0, cSz12_0, HGz12, hgz12, HSz12_0⟩ := HI0.out
    have C1 := nz HGz12
    have C2 := mR HGz12
    have C3 := mM HGz12
    have C4 := bi HGz12 1
    have C5 := bi HGz12 2
    clear HGz12 hgz12
    have A6 : 0 ≤ (s0_1 : Int) := of_decide_eq_true aX
    have A7 : s0_1 < (s0_0.length : Int) := of_decide_eq_true aX
    obtain ⟨A3, A9, A1⟩ := Kd.eF HSz12_0 s0_1 A6 A7
    cases A9
    have hn205_0 : A3.block ≠ g := Nat.ne_of_lt (Nat.lt_of_lt_of_le (by have := World.block_lt_of_cell? _ _ A1; first | rwa [add_block] at this | exact this) (ak.ge HI0.out))
    replace A1 := iE HB.out A1
    replace A1 := (cell_far (p := ⟨g, 2, none⟩) AP (.int .i64 (Int.tmod (wrap64 ((wrap64 (s0_2 * 48271)) + 61)) 2147483647))).trans A1
    (try have A8 := fun (n_ : Nat) => (show (((w.drewN n_).setCell ⟨g, 2, none⟩ (.int .i64 (Int.tmod (wrap64 ((wrap64 (s0_2 * 48271)) + 61)) 2147483647)))).cell? _ = some _ from A1))
    clear hn205_0
    replace A6 := eq_true A6
    replace A7 := eq_true A7
    have B4 : 0 ≤ ((B3) : Int) := of_decide_eq_true aX
    have B7 : (B3) < (s0_0.length : Int) := of_decide_eq_true aX
    obtain ⟨C0, E7, A2⟩ := Kd.eF HSz12_0 (B3) B4 B7
    obtain rfl : A3 = C0 := (by injection E7)
    have A4 : A3.block ≠ g := Nat.ne_of_lt (Nat.lt_of_lt_of_le (by have := World.block_lt_of_cell? _ _ A2; first | rwa [add_block] at this | exact this) (ak.ge HI0.out))
    have A5 : A3.block ≠ g := Nat.ne_of_lt (Nat.lt_of_lt_of_le (by have := World.block_lt_of_cell? _ _ A2; first | rwa [add_block] at this | exact this) (ak.ge HI0.out))
    replace A2 := iE HB.out A2
    replace A2 := (cell_far (p := ⟨g, 2, none⟩) (by first | (rw [add_block]; exact A4) | (show (Addr.add _ _).block ≠ _; rw [add_block]; exact A4) | exact A4) (.int .i64 (Int.tmod (wrap64 ((wrap64 (s0_2 * 48271)) + 61)) 2147483647))).trans A2
    replace A2 := (cell_far (p := ⟨g, 1, none⟩) (by first | (rw [add_block]; exact A5) | (show (Addr.add _ _).block ≠ _; rw [add_block]; exact A5) | exact A5) (.int .i64 (wrap64 (s0_1 + 1)))).trans A2
    (try have C6 := fun (n_ : Nat) => (show ((((w.drewN n_).setCell ⟨g, 2, none⟩ (.int .i64 (Int.tmod (wrap64 ((wrap64 (s0_2 * 48271)) + 61)) 2147483647))).setCell ⟨g, 1, none⟩ (.int .i64 (wrap64 (s0_1 + 1))))).cell? _ = some _ from A2))
    (try have hz206_0 := fun (n_ : Nat) => (show ((((w.setCell ⟨g, 2, none⟩ (.int .i64 (Int.tmod (wrap64 ((wrap64 (s0_2 * 48271)) + 61)) 2147483647))).drewN n_).setCell ⟨g, 1, none⟩ (.int .i64 (wrap64 (s0_1 + 1))))).cell? _ = some _ from A2))
    clear A4; clear A5
    replace B4 := eq_true B4
    replace B7 := eq_true B7
    go_enter Tryz.func52, Tryz.ntmps52
    go_wp2
    repeat (go_quiet (fail); try go_wp2)
    go_ret
    exact ⟨by first | rfl | (simp only [Go.IntWalk.i64_left]; first | done | rfl) | (simp [gM, gN] <;> rfl) | (simp only [← B0]; first | rfl | (simp [gM, gN] <;> rfl)) | (simp [*, gM, gN] <;> rfl), eO, gq, fB⟩
   rw [if_neg c7] at H
   have E5 : ((Int.tmod (wrap64 (s0_1 + 1)) 2) == 0) = false := beq_eq_false_iff_ne.mpr c7
   have E6 : ((Int.tmod (wrap64 (s0_1 + 1)) 2) != 0) = true := bne_iff_ne.mpr c7
   replace H := in_ H; obtain ⟨c13, H⟩ := H
   have F1 : (a1 == 0) = false := beq_eq_false_iff_ne.mpr c13
   have F2 : (a1 != 0) = true := bne_iff_ne.mpr c13
   simp only [Option.some.injEq, Prod.mk.injEq] at H
   obtain ⟨rfl, rfl, rfl⟩ := H
   obtain ⟨ASz14_0, cSz14_0, HGz14, hgz14, HSz14_0⟩ := HI0.out
   have C7 := nz HGz14
   have C8 := mR HGz14
   have C9 := mM HGz14
   have D0 := bi HGz14 1
   have D1 := bi HGz14 2
   clear HGz14 hgz14
   have A6 : 0 ≤ (s0_1 : Int) := of_decide_eq_true aX
   have A7 : s0_1 < (s0_0.length : Int) := of_decide_eq_true aX
   obtain ⟨A3, A9, A1⟩ := Kd.eF HSz14_0 s0_1 A6 A7
   cases A9
   have hn205_0 : A3.block ≠ g := Nat.ne_of_lt (Nat.lt_of_lt_of_le (by have := World.block_lt_of_cell? _ _ A1; first | rwa [add_block] at this | exact this) (ak.ge HI0.out))
   replace A1 := iE HB.out A1
   replace A1 := (cell_far (p := ⟨g, 2, none⟩) AP (.int .i64 (Int.tmod (wrap64 ((wrap64 (s0_2 * 48271)) + 61)) 2147483647))).trans A1
   (try have A8 := fun (n_ : Nat) => (show (((w.drewN n_).setCell ⟨g, 2, none⟩ (.int .i64 (Int.tmod (wrap64 ((wrap64 (s0_2 * 48271)) + 61)) 2147483647)))).cell? _ = some _ from A1))
   clear hn205_0
   replace A6 := eq_true A6
   replace A7 := eq_true A7
   go_enter Tryz.func52, Tryz.ntmps52
   go_wp2
   repeat (go_quiet (fail); try go_wp2)
   go_ret
   exact ⟨gy, eO, gq, fB⟩
  rw [if_neg c6] at H
  have E4 := decide_eq_false c6
  clear c6
  replace H := in_ H; obtain ⟨c15, H⟩ := H
  have F3 : (a1 == 0) = false := beq_eq_false_iff_ne.mpr c15
  have F4 : (a1 != 0) = true := bne_iff_ne.mpr c15
  simp only [Option.some.injEq, Prod.mk.injEq] at H
  obtain ⟨rfl, rfl, rfl⟩ := H
  obtain ⟨ASz16_0, cSz16_0, HGz16, hgz16, HSz16_0⟩ := HI0.out
  have D2 := nz HGz16
  have D3 := mR HGz16
  have D4 := mM HGz16
  have D5 := bi HGz16 1
  have D6 := bi HGz16 2
  clear HGz16 hgz16
  have A6 : 0 ≤ (s0_1 : Int) := of_decide_eq_true aX
  have A7 : s0_1 < (s0_0.length : Int) := of_decide_eq_true aX
  obtain ⟨A3, A9, A1⟩ := Kd.eF HSz16_0 s0_1 A6 A7
  cases A9
  have hn205_0 : A3.block ≠ g := Nat.ne_of_lt (Nat.lt_of_lt_of_le (by have := World.block_lt_of_cell? _ _ A1; first | rwa [add_block] at this | exact this) (ak.ge HI0.out))
  replace A1 := iE HB.out A1
  replace A1 := (cell_far (p := ⟨g, 2, none⟩) AP (.int .i64 (Int.tmod (wrap64 ((wrap64 (s0_2 * 48271)) + 61)) 2147483647))).trans A1
  (try have A8 := fun (n_ : Nat) => (show (((w.drewN n_).setCell ⟨g, 2, none⟩ (.int .i64 (Int.tmod (wrap64 ((wrap64 (s0_2 * 48271)) + 61)) 2147483647)))).cell? _ = some _ from A1))
  clear hn205_0
  replace A6 := eq_true A6
  replace A7 := eq_true A7
  go_enter Tryz.func52, Tryz.ntmps52
  go_wp2
  repeat (go_quiet (fail); try go_wp2)
  go_ret
  exact ⟨gy, eO, gq, fB⟩
 rw [if_neg c4] at H
 have E3 := decide_eq_false c4
 clear c4
 replace H := in_ H; obtain ⟨c17, H⟩ := H
 have F5 : (a1 == 0) = false := beq_eq_false_iff_ne.mpr c17
 have F6 : (a1 != 0) = true := bne_iff_ne.mpr c17
 simp only [Option.some.injEq, Prod.mk.injEq] at H
 obtain ⟨rfl, rfl, rfl⟩ := H
 obtain ⟨ASz18_0, cSz18_0, HGz18, hgz18, HSz18_0⟩ := HI0.out
 have D7 := nz HGz18
 have D8 := mR HGz18
 have D9 := mM HGz18
 have E0 := bi HGz18 1
 have E1 := bi HGz18 2
 clear HGz18 hgz18
 go_enter Tryz.func52, Tryz.ntmps52
 go_wp2
 repeat (go_quiet (fail); try go_wp2)
 go_ret
 exact ⟨gy, eO, gq, fB⟩
def dQ.f (s0_0 : List Int) (s0_1 : Int) (s0_2 : Int) (l1 : List Int) : Option (Int × Int × Int) := (bf.f s0_0 s0_1 s0_2 (l1.length : Int)).bind fun bt207 => (if 0 ≤ bt207.1 then (if bt207.1 < (l1.length : Int) then (some (rd l1 bt207.1, bt207.2.1, bt207.2.2)) else (none)) else (none))
theorem dQ.calls (g : Nat) (s0_0 : List Int) (s0_1 : Int) (s0_2 : Int) (A1 : Option Addr) (c1 : Nat) (l1 : List Int) (r1 : Int) (r2 : Int) (r3 : Int) (w0 w : World) (hI : ak w0 w g s0_0 s0_1 s0_2) (hB : Below w0.heap.size w0 w) (hr1 : Kd.C (Kd.int .i64) w A1 l1.length l1) (hc1 : l1.length ≤ c1) (hf1 : ∀ ad, A1 = some ad → 0 < l1.length → ad.block ≠ g) (h : dQ.f s0_0 s0_1 s0_2 l1 = some (r1, r2, r3)) :
  Calls Tryz.prog 53 #[.pointer (some ⟨g, 0, none⟩), .slice A1 l1.length c1] w fun e w' => e = .returned (.int .i64 r1) ∧ ak w0 w' g s0_0 r2 r3 ∧ Below w0.heap.size w0 w' ∧ az w w' g none := by
 have HR1 := a_ hr1
 have C0 := a_ hc1
 clear hr1 hc1
 have HI0 := a_ hI
 have HK := a_ (az.refl w g none)
 have HL := af.mk hB.size
 clear hI
 have HW0 := af.mk hB.size
 have HB := a_ hB
 clear hB
 have H : ((bf.f s0_0 s0_1 s0_2 (l1.length : Int)).bind fun A2 => (if 0 ≤ A2.1 then (if A2.1 < (l1.length : Int) then (some (rd l1 A2.1, A2.2.1, A2.2.2)) else (none)) else (none))) = some (r1, r2, r3) := h
 clear h
 replace H := bo_ H; obtain ⟨⟨A5, A9, B0⟩, A3, H⟩ := H; (try dsimp only at H)
 replace H := ig_ H; obtain ⟨c4, H⟩ := H
 have B4 := decide_eq_true c4
 clear c4
 replace H := ig_ H; obtain ⟨c5, H⟩ := H
 have B7 := decide_eq_true c5
 clear c5
 simp only [Option.some.injEq, Prod.mk.injEq] at H
 obtain ⟨rfl, rfl, rfl⟩ := H
 go_enter Tryz.func53, Tryz.ntmps53
 go_wp2_with (first | ((with_reducible refine av (f := 52) rfl ?_); refine bJ (some 9) rfl rfl Tryz.func52 (by kernel_rfl) rfl #[.pointer (some ⟨g, 0, none⟩), .int .i64 (l1.length : Int)] rfl dN ?_; (with_reducible refine (bf.calls g s0_0 s0_1 s0_2 (l1.length : Int) A5 A9 B0 w0 _ ?side1 ?side2 A3.out).mono ?_); (case side1 => exact eO); (case side2 => exact gq); rintro e w6 ⟨rfl, hi, hb, hk⟩; refine ⟨_, rfl, ?_⟩; replace HK := a_ (az.trans fB hk (.inl rfl)); replace HB := a_ (hb); replace HI0 := a_ (hi); (try clear hb); (try clear hk); (try clear hi); have A6 : 0 ≤ (A5 : Int) := of_decide_eq_true aX; have A7 : A5 < (l1.length : Int) := of_decide_eq_true aX; obtain ⟨A8, B3, A4⟩ := Kd.eF HR1.out A5 A6 A7; cases B3; replace A4 := mX HK.out A4 (by first | (rw [add_block]; exact hf1 _ rfl (by omega)) | exact hf1 _ rfl (by omega) | exact hf1 A8 rfl (by omega)); replace A6 := eq_true A6; replace A7 := eq_true A7))
 go_ret
 exact ⟨gy, eO, gq, fB⟩
def eQ.f (s0_0 : List Int) (s0_1 : Int) (s0_2 : Int) : Option (Int × Int × Int) := (bf.f s0_0 s0_1 s0_2 40).bind fun bt211 => (if bt211.1 = 0 then ((dQ.f s0_0 bt211.2.1 bt211.2.2 (([0, 3, (-1), 16] : List Int))).bind fun bt217 => (some (bt217.1, bt217.2.1, bt217.2.2))) else ((dQ.f s0_0 bt211.2.1 bt211.2.2 (([1, 2, 2, 4, 4, 8] : List Int))).bind fun bt223 => (some (bt223.1, bt223.2.1, bt223.2.2))))
theorem eQ.calls (g : Nat) (s0_0 : List Int) (s0_1 : Int) (s0_2 : Int) (r1 : Int) (r2 : Int) (r3 : Int) (w0 w : World) (hI : ak w0 w g s0_0 s0_1 s0_2) (hB : Below w0.heap.size w0 w) (h : eQ.f s0_0 s0_1 s0_2 = some (r1, r2, r3)) :
  Calls Tryz.prog 79 #[.pointer (some ⟨g, 0, none⟩)] w fun e w' => e = .returned (.int .i64 r1) ∧ ak w0 w' g s0_0 r2 r3 ∧ Below w0.heap.size w0 w' ∧ az w w' g none := by
 have HI0 := a_ hI
 have HK := a_ (az.refl w g none)
 have HL := af.mk hB.size
 clear hI
 have HW0 := af.mk hB.size
 have HB := a_ hB
 clear hB
 have H : ((bf.f s0_0 s0_1 s0_2 40).bind fun A7 => (if A7.1 = 0 then ((dQ.f s0_0 A7.2.1 A7.2.2 (([0, 3, (-1), 16] : List Int))).bind fun A1 => (some (A1.1, A1.2.1, A1.2.2))) else ((dQ.f s0_0 A7.2.1 A7.2.2 (([1, 2, 2, 4, 4, 8] : List Int))).bind fun A3 => (some (A3.1, A3.2.1, A3.2.2))))) = some (r1, r2, r3) := h
 clear h
 replace H := bo_ H; obtain ⟨⟨B0, A8, A9⟩, A2, H⟩ := H; (try dsimp only at H)
 by_cases c3 : B0 = 0
 ·rw [if_pos c3] at H
  have C3 : (B0 == 0) = true := beq_iff_eq.mpr c3
  have C4 : (B0 != 0) = false := bne_eq_false_iff_eq.mpr c3
  clear c3
  obtain ⟨C1, B3⟩ : ∃ y_ : List Int, y_ = (([0, 3, (-1), 16] : List Int)) := ⟨_, rfl⟩
  replace H : ((dQ.f s0_0 A8 A9 C1).bind fun A1 => (some (A1.1, A1.2.1, A1.2.2))) = some (r1, r2, r3) := rh_ B3 H
  have B7 := a_ B3
  clear B3
  replace H := bo_ H; obtain ⟨⟨C5, C6, C7⟩, A4, H⟩ := H; (try dsimp only at H)
  simp only [Option.some.injEq, Prod.mk.injEq] at H
  obtain ⟨rfl, rfl, rfl⟩ := H
  go_enter Tryz.func79, Tryz.ntmps79
  go_wp2_with (first | ((with_reducible refine av (f := 52) rfl ?_); refine bJ (some 4) rfl rfl Tryz.func52 (by kernel_rfl) rfl #[.pointer (some ⟨g, 0, none⟩), .int .i64 40] rfl dN ?_; (with_reducible refine (bf.calls g s0_0 s0_1 s0_2 40 B0 A8 A9 w0 _ ?side1 ?side2 A2.out).mono ?_); (case side1 => exact eO); (case side2 => exact gq); rintro e w5 ⟨rfl, hi, hb, hk⟩; refine ⟨_, rfl, ?_⟩; replace HK := a_ (az.trans fB hk (.inl rfl)); replace HB := a_ (hb); replace HI0 := a_ (hi); (try clear hb); (try clear hk); (try clear hi)) | ((with_reducible refine bn (N := 7) rfl ?_); refine Kd.iM (Kd.int .i64) _ 2 ?hg (N := 7) ?hd (xs := ([0, 3, (-1), 16] : List Int)) (inner := [.int .i64 0, .int .i64 3, .int .i64 (-1), .int .i64 16]) (ok := fun _ => True) (okp := fun _ => True) ?hr ?hp (fun _ hk => hk) trivial (Below.refl _ _) (Nat.le_refl _) (by simp) ?_; (case hd => rfl); (case hg => rfl); (case hr => first | (go_simp; done) | (go_simp; rfl)); (case hp => exact (dG.one (show Kd.M (Kd.int .i64) _ _ _ 0 [.int .i64 0] from rfl) (dG.one (show Kd.M (Kd.int .i64) _ _ _ 3 [.int .i64 3] from rfl) (dG.one (show Kd.M (Kd.int .i64) _ _ _ (-1) [.int .i64 (-1)] from rfl) (dG.one (show Kd.M (Kd.int .i64) _ _ _ 16 [.int .i64 16] from rfl) (dG.none _ _)))))); intro D4 w6 ho7 hb hg_ hnew_; clear hg_ hnew_; (first | rw [← B7.out] at ho7 | (simp only [Int.reduceToNat] at ho7; rw [← B7.out] at ho7)); have A5 := a_ (Kd.bE ho7 (eB (w := w) (g := g) (row := none) fB)); replace HK := a_ (az.trans fB (az.of_below hb g none) (.inl rfl)); replace HB := cK gq hb; replace HI0 := a_ (ak.below eO hb); clear hb ho7; obtain ⟨D5, D6, D7⟩ := Kd.bg A5.out; subst D7) | ((with_reducible refine av (f := 53) rfl ?_); refine bJ (some 8) rfl rfl Tryz.func53 (by kernel_rfl) rfl #[.pointer (some ⟨g, 0, none⟩), .slice D5 C1.length D6] rfl dN ?_; (with_reducible refine (dQ.calls g s0_0 A8 A9 _ _ C1 C5 C6 C7 w0 _ ?side1 ?side2 ?side3 ?side4 ?side5 A4.out).mono ?_); (case side1 => exact eO); (case side2 => exact gq); (case side3 => exact (by (repeat (first | exact (Kd.aI A5.out).2.2 | (with_reducible refine Kd.dD ?_ _) | (with_reducible refine Kd.dH ?_ _) | (with_reducible refine Kd.dZ ?_))); first | done | fail)); (case side4 => exact (Kd.aI A5.out).2.1); (case side5 => exact lJ (ak.own_ne HI0.out A5.out (by decide))); rintro e w9 ⟨rfl, hi, hb, hk⟩; refine ⟨_, rfl, ?_⟩; replace A5 := a_ (Kd.ae (Kd.dx (ak.apart (show ak w0 _ g s0_0 A8 A9 from eO) (ra_ A5.out) (by decide)) hk (fun _ h => h.2)) (fun _ h => h.1)); replace HK := a_ (az.trans fB hk (.inl rfl)); replace HB := a_ (hb); replace HI0 := a_ (hi); (try clear hb); (try clear hk); (try clear hi)))
  go_ret
  exact ⟨gy, eO, gq, fB⟩
 rw [if_neg c3] at H
 have C3 : (B0 == 0) = false := beq_eq_false_iff_ne.mpr c3
 have C4 : (B0 != 0) = true := bne_iff_ne.mpr c3
 obtain ⟨C2, B4⟩ : ∃ y_ : List Int, y_ = (([1, 2, 2, 4, 4, 8] : List Int)) := ⟨_, rfl⟩
 replace H : ((dQ.f s0_0 A8 A9 C2).bind fun A3 => (some (A3.1, A3.2.1, A3.2.2))) = some (r1, r2, r3) := rh_ B4 H
 have C0 := a_ B4
 clear B4
 replace H := bo_ H; obtain ⟨⟨C8, C9, D0⟩, D8, H⟩ := H; (try dsimp only at H)
 simp only [Option.some.injEq, Prod.mk.injEq] at H
 obtain ⟨rfl, rfl, rfl⟩ := H
 go_enter Tryz.func79, Tryz.ntmps79
 go_wp2_with (first | ((with_reducible refine av (f := 52) rfl ?_); refine bJ (some 4) rfl rfl Tryz.func52 (by kernel_rfl) rfl #[.pointer (some ⟨g, 0, none⟩), .int .i64 40] rfl dN ?_; (with_reducible refine (bf.calls g s0_0 s0_1 s0_2 40 B0 A8 A9 w0 _ ?side1 ?side2 A2.out).mono ?_); (case side1 => exact eO); (case side2 => exact gq); rintro e E0 ⟨rfl, hi, hb, hk⟩; refine ⟨_, rfl, ?_⟩; replace HK := a_ (az.trans fB hk (.inl rfl)); replace HB := a_ (hb); replace HI0 := a_ (hi); (try clear hb); (try clear hk); (try clear hi)) | ((with_reducible refine bn (N := 10) rfl ?_); refine Kd.iM (Kd.int .i64) _ 2 ?hg (N := 10) ?hd (xs := ([1, 2, 2, 4, 4, 8] : List Int)) (inner := [.int .i64 1, .int .i64 2, .int .i64 2, .int .i64 4, .int .i64 4, .int .i64 8]) (ok := fun _ => True) (okp := fun _ => True) ?hr ?hp (fun _ hk => hk) trivial (Below.refl _ _) (Nat.le_refl _) (by simp) ?_; (case hd => rfl); (case hg => rfl); (case hr => first | (go_simp; done) | (go_simp; rfl)); (case hp => exact (dG.one (show Kd.M (Kd.int .i64) _ _ _ 1 [.int .i64 1] from rfl) (dG.one (show Kd.M (Kd.int .i64) _ _ _ 2 [.int .i64 2] from rfl) (dG.one (show Kd.M (Kd.int .i64) _ _ _ 2 [.int .i64 2] from rfl) (dG.one (show Kd.M (Kd.int .i64) _ _ _ 4 [.int .i64 4] from rfl) (dG.one (show Kd.M (Kd.int .i64) _ _ _ 4 [.int .i64 4] from rfl) (dG.one (show Kd.M (Kd.int .i64) _ _ _ 8 [.int .i64 8] from rfl) (dG.none _ _)))))))); intro D9 E1 ho13 hb hg_ hnew_; clear hg_ hnew_; (first | rw [← C0.out] at ho13 | (simp only [Int.reduceToNat] at ho13; rw [← C0.out] at ho13)); have A6 := a_ (Kd.bE ho13 (eB (w := w) (g := g) (row := none) fB)); replace HK := a_ (az.trans fB (az.of_below hb g none) (.inl rfl)); replace HB := cK gq hb; replace HI0 := a_ (ak.below eO hb); clear hb ho13; obtain ⟨D1, D2, D3⟩ := Kd.bg A6.out; subst D3) | ((with_reducible refine av (f := 53) rfl ?_); refine bJ (some 11) rfl rfl Tryz.func53 (by kernel_rfl) rfl #[.pointer (some ⟨g, 0, none⟩), .slice D1 C2.length D2] rfl dN ?_; (with_reducible refine (dQ.calls g s0_0 A8 A9 _ _ C2 C8 C9 D0 w0 _ ?side1 ?side2 ?side3 ?side4 ?side5 D8.out).mono ?_); (case side1 => exact eO); (case side2 => exact gq); (case side3 => exact (by (repeat (first | exact (Kd.aI A6.out).2.2 | (with_reducible refine Kd.dD ?_ _) | (with_reducible refine Kd.dH ?_ _) | (with_reducible refine Kd.dZ ?_))); first | done | fail)); (case side4 => exact (Kd.aI A6.out).2.1); (case side5 => exact lJ (ak.own_ne HI0.out A6.out (by decide))); rintro e E2 ⟨rfl, hi, hb, hk⟩; refine ⟨_, rfl, ?_⟩; replace A6 := a_ (Kd.ae (Kd.dx (ak.apart (show ak w0 _ g s0_0 A8 A9 from eO) (ra_ A6.out) (by decide)) hk (fun _ h => h.2)) (fun _ h => h.1)); replace HK := a_ (az.trans fB hk (.inl rfl)); replace HB := a_ (hb); replace HI0 := a_ (hi); (try clear hb); (try clear hk); (try clear hi)))
 go_ret
 exact ⟨gy, eO, gq, fB⟩
def bL.f (a0 : Int) : Option (Int × Bool) := if a0 = 1 then (some (0, true)) else (if a0 = 2 then (some (1, true)) else (if a0 = 4 then (some (2, true)) else (if a0 = 8 then (some (3, true)) else (some (0, false)))))
theorem bL.calls (a0 : Int) (r1 : Int) (r2 : Bool) (w : World) (h : bL.f a0 = some (r1, r2)) :
  Calls Tryz.prog 80 #[.int .i64 a0] w fun e w' => e = .returned (.tuple #[.int .i64 r1, .bool r2]) ∧ fJ w w' := by
 have H : (if a0 = 1 then (some (0, true)) else (if a0 = 2 then (some (1, true)) else (if a0 = 4 then (some (2, true)) else (if a0 = 8 then (some (3, true)) else (some (0, false)))))) = some (r1, r2) := h
 clear h
 by_cases c2 : a0 = 1
 ·rw [if_pos c2] at H
  have A1 : (a0 == 1) = true := beq_iff_eq.mpr c2
  have A2 : (a0 != 1) = false := bne_eq_false_iff_eq.mpr c2
  clear c2
  simp only [Option.some.injEq, Prod.mk.injEq] at H
  obtain ⟨rfl, rfl⟩ := H
  go_enter Tryz.func80, Tryz.ntmps80
  go_wp2
  go_ret2
  exact ⟨gT, fI⟩
 rw [if_neg c2] at H
 have A1 : (a0 == 1) = false := beq_eq_false_iff_ne.mpr c2
 have A2 : (a0 != 1) = true := bne_iff_ne.mpr c2
 by_cases c3 : a0 = 2
 ·rw [if_pos c3] at H
  have A3 : (a0 == 2) = true := beq_iff_eq.mpr c3
  have A4 : (a0 != 2) = false := bne_eq_false_iff_eq.mpr c3
  clear c3
  simp only [Option.some.injEq, Prod.mk.injEq] at H
  obtain ⟨rfl, rfl⟩ := H
  go_enter Tryz.func80, Tryz.ntmps80
  go_wp2
  go_ret2
  exact ⟨gT, fI⟩
 rw [if_neg c3] at H
 have A3 : (a0 == 2) = false := beq_eq_false_iff_ne.mpr c3
 have A4 : (a0 != 2) = true := bne_iff_ne.mpr c3
 by_cases c4 : a0 = 4
 ·rw [if_pos c4] at H
  have A5 : (a0 == 4) = true := beq_iff_eq.mpr c4
  have A6 : (a0 != 4) = false := bne_eq_false_iff_eq.mpr c4
  clear c4
  simp only [Option.some.injEq, Prod.mk.injEq] at H
  obtain ⟨rfl, rfl⟩ := H
  go_enter Tryz.func80, Tryz.ntmps80
  go_wp2
  go_ret2
  exact ⟨gT, fI⟩
 rw [if_neg c4] at H
 have A5 : (a0 == 4) = false := beq_eq_false_iff_ne.mpr c4
 have A6 : (a0 != 4) = true := bne_iff_ne.mpr c4
 by_cases c5 : a0 = 8
 ·rw [if_pos c5] at H
  have A7 : (a0 == 8) = true := beq_iff_eq.mpr c5
  have A8 : (a0 != 8) = false := bne_eq_false_iff_eq.mpr c5
  clear c5
  simp only [Option.some.injEq, Prod.mk.injEq] at H
  obtain ⟨rfl, rfl⟩ := H
  go_enter Tryz.func80, Tryz.ntmps80
  go_wp2
  go_ret2
  exact ⟨gT, fI⟩
 rw [if_neg c5] at H
 have A7 : (a0 == 8) = false := beq_eq_false_iff_ne.mpr c5
 have A8 : (a0 != 8) = true := bne_iff_ne.mpr c5
 simp only [Option.some.injEq, Prod.mk.injEq] at H
 obtain ⟨rfl, rfl⟩ := H
 go_enter Tryz.func80, Tryz.ntmps80
 go_wp2
 go_ret2
 exact ⟨gT, fI⟩
end Go.Proofs.YtkpidjmhdagkfaaGreatDoor.QFnImposed
