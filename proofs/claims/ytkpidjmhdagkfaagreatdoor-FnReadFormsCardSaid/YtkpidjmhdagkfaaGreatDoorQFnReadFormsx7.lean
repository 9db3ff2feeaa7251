-- Written by own_print.py of this session's repo over the kit's print (its output, turned at some places).
import Derived.Test.YtkpidjmhdagkfaaGreatDoorQFnReadFormsx0
import Derived.Test.YtkpidjmhdagkfaaGreatDoorQFnReadFormsx1
import Derived.Test.YtkpidjmhdagkfaaGreatDoorQFnReadFormsx5
import Derived.Test.YtkpidjmhdagkfaaGreatDoorQFnReadFormsx6
namespace Go.Proofs.YtkpidjmhdagkfaaGreatDoor.QFnReadForms
open Go.RowKit Go.Proofs.YtkpidjmhdagkfaaGreatDoorW.PrintWords Go.Proofs.YtkpidjmhdagkfaaGreatDoorW.PrintLast Go.Proofs.YtkpidjmhdagkfaaGreatDoorW.PrintMore
attribute [local go_sem] ik iq iR iT gD gF il iw
set_option maxHeartbeats 8000000
set_option maxRecDepth 100000
set_option linter.unusedVariables false
set_option linter.unusedSimpArgs false
def bL.l0 : Nat → Int → List Int → Int → Int → Option (Bool)
 | 0, _, _, _, _ => none
 | k + 1, x5, x17, x18, x19 => if x19 < x18 then (if 0 ≤ x19 then (if x19 < (x17.length : Int) then (if (rd x17 x19) = (wrap64 (x5 + x19)) then (bL.l0 k x5 x17 x18 (wrap64 (x19 + 1))) else (some false)) else (none)) else (none)) else (some true)
def bL.f (k : Nat) (a0_0 : Int) (a0_1 : Int) (l0_2 : List Int) (l0_3 : List Int) (l0_4 : List Int) (a1 : ByteArray) : Option (Bool) := (aV.f k l0_2).bind fun t376 => ((aV.f k l0_3).bind fun t377 => ((aQ.f k a0_0 a0_1 l0_2 l0_3 l0_4 a1).bind fun t378 => (bL.l0 k (mn t376 t377) t378 (t378.length : Int) 0)))
theorem bL.di : ∀ k, (∀ y0 y1 y2 y3, LeO (bL.l0 k y0 y1 y2 y3) (bL.l0 (k + 1) y0 y1 y2 y3))
 | 0 => fun _ _ _ _ r h => by simp [bL.l0] at h
 | k + 1 => by
  have ih0 := bL.di k
  ·intro y0 y1 y2 y3
   unfold bL.l0
   repeat' first | (with_reducible first | exact ih0 .. | exact aQ.mono .. | exact aV.mono .. | exact LeO.refl .. | exact LeO.none .. | refine LeO.ite ?_ ?_ | refine LeO.bind ?_ (fun _ => ?_))
theorem bL.mono : ∀ a0 a1 a2 a3 a4 a5 k, LeO (bL.f k a0 a1 a2 a3 a4 a5) (bL.f (k + 1) a0 a1 a2 a3 a4 a5) := by
 intro a0 a1 a2 a3 a4 a5 k
 have ih0 := bL.di k
 unfold bL.f
 repeat' first | (with_reducible first | exact ih0 .. | exact aQ.mono .. | exact aV.mono .. | exact LeO.refl .. | exact LeO.none .. | refine LeO.ite ?_ ?_ | refine LeO.bind ?_ (fun _ => ?_))
def bL.T1 : Bool × List (List Nat × List Nat) := (true, [([], []), ([0], [0]), ([1], [1]), ([], []), ([3], [3]), ([4, 2], [4]), ([2, 5], [2, 5]), ([6, 5, 0, 1, 2, 3, 4, 5, 6], [6])])
def bL.B1 : List Nat := [0, 1, 3, 0, 8, 31, 63, 127]
theorem bL.Dt : ic .any (opsOf Tryz.f40 1) = bL.T1 := by kernel_rfl
theorem bL.Cu : fZ bL.T1.2 bL.B1 = true := by kernel_rfl
theorem bL.calls (k : Nat) (a0_0 : Int) (a0_1 : Int) (A8 : Option Addr) (A9 : Nat) (l0_2 : List Int) (B0 : Option Addr) (B3 : Nat) (l0_3 : List Int) (C1 : Option Addr) (C2 : Nat) (l0_4 : List Int) (a1 : ByteArray) (r : Bool) (w : World) (hr0_2 : Kd.C (Kd.int .i64) w A8 l0_2.length l0_2) (hc0_2 : l0_2.length ≤ A9) (hr0_3 : Kd.C (Kd.int .i64) w B0 l0_3.length l0_3) (hc0_3 : l0_3.length ≤ B3) (hr0_4 : Kd.C (Kd.int .i64) w C1 l0_4.length l0_4) (hc0_4 : l0_4.length ≤ C2) (h : bL.f k a0_0 a0_1 l0_2 l0_3 l0_4 a1 = some r) :
  Calls Tryz.prog 40 #[.agg #[.int .i64 a0_0, .int .i64 a0_1, .slice A8 l0_2.length A9, .slice B0 l0_3.length B3, .slice C1 l0_4.length C2], .string a1] w fun e w' => e = .returned (.bool r) ∧ Below w.heap.size w w' := by
 have hu28 := Tryz.underlying28
 have D7 := a_ hr0_2
 have D8 := a_ hc0_2
 clear hr0_2 hc0_2
 have D9 := a_ hr0_3
 have E0 := a_ hc0_3
 clear hr0_3 hc0_3
 have HR0_4 := a_ hr0_4
 have E4 := a_ hc0_4
 clear hr0_4 hc0_4
 have HB := a_ (Below.refl w.heap.size w)
 have H : ((aV.f k l0_2).bind fun C3 => ((aV.f k l0_3).bind fun C4 => ((aQ.f k a0_0 a0_1 l0_2 l0_3 l0_4 a1).bind fun A5 => (bL.l0 k (mn C3 C4) A5 (A5.length : Int) 0)))) = some r := h
 clear h
 replace H := bo_ H; obtain ⟨C3, A3, H⟩ := H; (try dsimp only at H)
 replace H := bo_ H; obtain ⟨C4, A4, H⟩ := H; (try dsimp only at H)
 obtain ⟨E1, B4⟩ : ∃ j_ : Int, (mn C3 C4) = j_ := ⟨_, rfl⟩
 replace H : ((aQ.f k a0_0 a0_1 l0_2 l0_3 l0_4 a1).bind fun A5 => (bL.l0 k E1 A5 (A5.length : Int) 0)) = some r := by first | (rw [B4] at H; exact H) | (simp only [B4] at H ⊢; exact H)
 (try rw [B4] at A3)
 (try rw [B4] at A4)
 have hji5_ : (if C4 < C3 then C4 else C3) = E1 := B4
 replace H := bo_ H; obtain ⟨A5, A6, H⟩ := H; (try dsimp only at H)
 have H' := a_ H
 clear H
 go_enter Tryz.func40, Tryz.ntmps40
 try go_wp2_with (first | ((with_reducible refine bf (N := 2) rfl ?_); refine cz ?hg (N := 2) ?hd (cs := #[.int .i64 a0_0, .int .i64 a0_1, .slice A8 l0_2.length A9, .slice B0 l0_3.length B3, .slice C1 l0_4.length C2]) (t := 28) ?hr ?_; (case hd => rfl); (case hg => rfl); (case hr => first | (go_simp; done) | (go_simp; rfl)); intro A7 hg w7 hbox hb; have A1 := a_ (hbox); have F2 := a_ ((fG : w.heap.size ≤ A7)); have GE375 := a_ ((fG : w.heap.size ≤ A7)); replace HB := df bO hb; clear hb hbox hg))
 replace A1 := a_ (bU A1.out)
 replace HB := a_ (aU HB.out)
 refine gQ (n := 8) (S := fun w' => w'.cell? ⟨A7, 0, none⟩ = some (.int .i64 a0_0) ∧ w'.cell? ⟨A7, 1, none⟩ = some (.int .i64 a0_1) ∧ w'.cell? ⟨A7, 2, none⟩ = some (.slice A8 l0_2.length A9) ∧ w'.cell? ⟨A7, 3, none⟩ = some (.slice B0 l0_3.length B3) ∧ w'.cell? ⟨A7, 4, none⟩ = some (.slice C1 l0_4.length C2)) (ds := []) #[false, false, false, false, false, false, false, false] (by kernel_rfl) rfl rfl ⟨(ai A1.out 0).trans rfl, (ai A1.out 1).trans rfl, (ai A1.out 2).trans rfl, (ai A1.out 3).trans rfl, (ai A1.out 4).trans rfl⟩ (fun hHeld => ?_); refine fI bL.Dt bL.Cu (fun HT_ HW_ => ?_)
 generalize w7.drew = w8 at A1 HB hHeld ⊢
 refine pv_ 0 (some 8) ?_
 refine pv_ 3 (some 11) ?_
 refine xM (i := 1) (N := some 9) hHeld ?_
 refine xM (i := 4) (N := some 12) hHeld ?_
 refine on_ (i := 2) (N := some 10) (fun K hK => ?_)
 refine jq Tryz.func78 (by kernel_rfl) rfl #[.slice A8 l0_2.length A9] (by rfl) rfl rfl dL ?_
 with_reducible refine (aV.calls k _ _ l0_2 C3 _ ?side1 ?side2 A3.out).mono ?_
 (case side1 => exact kc_ (Kd.bE D7.out HB.out))
 (case side2 => exact D8.out)
 rintro e w9 ⟨rfl, hb⟩
 refine ⟨_, rfl, ?_⟩
 replace A1 := bb_ A7 A1 hb
 replace HB := df vQ hb
 (try clear hb)
 (try clear hb2)
 (try clear hk)
 (try clear hi)
 refine hK.out _ _ ⟨(ai A1.out 0).trans rfl, (ai A1.out 1).trans rfl, (ai A1.out 2).trans rfl, (ai A1.out 3).trans rfl, (ai A1.out 4).trans rfl⟩ (fun hHeld => ?_)
 clear hK K
 refine nm_ ?_
 refine on_ (i := 5) (N := some 13) (fun K hK => ?_)
 refine jq Tryz.func78 (by kernel_rfl) rfl #[.slice B0 l0_3.length B3] (by rfl) rfl rfl dL ?_
 with_reducible refine (aV.calls k _ _ l0_3 C4 _ ?side1 ?side2 A4.out).mono ?_
 (case side1 => exact kc_ (Kd.bE D9.out HB.out))
 (case side2 => exact E0.out)
 rintro e F5 ⟨rfl, hb⟩
 refine ⟨_, rfl, ?_⟩
 replace A1 := bb_ A7 A1 hb
 replace HB := df vQ hb
 (try clear hb)
 (try clear hb2)
 (try clear hk)
 (try clear hi)
 refine hK.out _ _ ⟨(ai A1.out 0).trans rfl, (ai A1.out 1).trans rfl, (ai A1.out 2).trans rfl, (ai A1.out 3).trans rfl, (ai A1.out 4).trans rfl⟩ (fun hHeld => ?_)
 clear hK K
 refine nm_ ?_
 refine pv_ 6 (some 14) ?_
 refine pv_ 7 (some 5) ?_
 refine ja (gU HT_.out (by kernel_rfl)) ?_
 obtain ⟨C6, C7, C8, C9, D0, D1, D2, D3, D4, D5⟩ := eH (w := F5) A1.out
 try go_wp2_with (first | ((with_reducible refine av (f := 70) rfl ?_); refine bI (some 17) rfl rfl Tryz.func70 (by kernel_rfl) rfl #[.agg #[.int .i64 a0_0, .int .i64 a0_1, .slice A8 l0_2.length A9, .slice B0 l0_3.length B3, .slice C1 l0_4.length C2], .string a1] rfl dL ?_; (with_reducible refine (aQ.calls k a0_0 a0_1 _ _ l0_2 _ _ l0_3 _ _ l0_4 a1 A5 _ ?side1 ?side2 ?side3 ?side4 ?side5 ?side6 A6.out).mono ?_); (case side1 => exact kc_ (Kd.bE D7.out HB.out)); (case side2 => exact D8.out); (case side3 => exact kc_ (Kd.bE D9.out HB.out)); (case side4 => exact E0.out); (case side5 => exact kc_ (Kd.bE HR0_4.out HB.out)); (case side6 => exact E4.out); rintro e F7 ⟨F6, rfl, ho0, hb⟩; refine ⟨_, rfl, ?_⟩; have E2 := a_ (Kd.bu ho0 (af vQ)); replace A1 := bb_ A7 A1 hb; replace HB := df vQ hb; (try clear hb); (try clear ho0); obtain ⟨E9, F0, F1⟩ := Kd.bg E2.out; subst F1))
 go_loopg [19] k (fun kq v19 w' => ∃ (A2 : Int), v19 = .int .i64 A2 ∧ ah (bL.l0 kq E1 A5 (A5.length : Int) A2 = some r) ∧ ah (kq ≤ k) ∧ ah (Kd.R (Kd.int .i64) 2 w' w.heap.size (fun _ => True) (.slice E9 A5.length F0) A5) ∧ ah (w'.heap[A7]? = some (.cells #[.int .i64 a0_0, .int .i64 a0_1, (.slice A8 l0_2.length A9), (.slice B0 l0_3.length B3), (.slice C1 l0_4.length C2)] 28 (0, 0))) ∧ ah (Below w.heap.size w w'))
 case atStart => exact ⟨(0), bZ, H', ⟨Nat.le_refl _⟩, ⟨by (with_reducible repeat (first | apply Kd.aC | apply Kd.aD | apply Kd.az)); exact E2.out⟩, ⟨by (with_reducible repeat (first | refine dz ?_ _ | refine bU ?_ | refine dx ?_ _)); exact A1.out⟩, ⟨vQ⟩⟩
 case round =>
  clear H'
  try clear C6 C7 C8 C9 D0; try clear D1 D2 D3 D4 D5
  obtain ⟨A2, rfl, HA, HK1, C5, A1, HB⟩ := hrel
  cases gk with
  | zero => exact absurd HA.out (by simp [bL.l0])
  | succ k1 =>
   have H := HA.out
   clear HA
   simp only [bL.l0] at H
   by_cases c14 : A2 < (A5.length : Int)
   ·rw [if_pos c14] at H
    have E5 := decide_eq_true c14
    clear c14
    replace H := ig_ H; obtain ⟨c15, H⟩ := H
    have F3 := decide_eq_true c15
    clear c15
    replace H := ig_ H; obtain ⟨c16, H⟩ := H
    have F4 := decide_eq_true c16
    clear c16
    by_cases c17 : (rd A5 A2) = (wrap64 (E1 + A2))
    ·rw [if_pos c17] at H
     have E6 : ((rd A5 A2) == (wrap64 (E1 + A2))) = true := beq_iff_eq.mpr c17
     have E7 : ((rd A5 A2) != (wrap64 (E1 + A2))) = false := bne_eq_false_iff_eq.mpr c17
     clear c17
     have H' := a_ H
     clear H
     have B7 : 0 ≤ (A2 : Int) := of_decide_eq_true aG
     have C0 : A2 < (A5.length : Int) := of_decide_eq_true aG
     obtain ⟨E8, E3, D6⟩ := Kd.dM (Kd.aH C5.out).2.2 A2 B7 C0
     cases E3
     replace B7 := eq_true B7
     replace C0 := eq_true C0
     go_wp2
     go_roundg k1
     case measure => have := HK1.out; omega
     case rel => exact ⟨(wrap64 (A2 + 1)), bZ, H', ⟨jR⟩, ⟨by (with_reducible repeat (first | apply Kd.aC | apply Kd.aD | apply Kd.az)); exact C5.out⟩, ⟨by (with_reducible repeat (first | refine dz ?_ _ | refine bU ?_ | refine dx ?_ _)); exact A1.out⟩, ⟨vQ⟩⟩
    rw [if_neg c17] at H
    have E6 : ((rd A5 A2) == (wrap64 (E1 + A2))) = false := beq_eq_false_iff_ne.mpr c17
    have E7 : ((rd A5 A2) != (wrap64 (E1 + A2))) = true := bne_iff_ne.mpr c17
    obtain rfl := Option.some.inj H
    have B7 : 0 ≤ (A2 : Int) := of_decide_eq_true aG
    have C0 : A2 < (A5.length : Int) := of_decide_eq_true aG
    obtain ⟨E8, E3, D6⟩ := Kd.dM (Kd.aH C5.out).2.2 A2 B7 C0
    cases E3
    replace B7 := eq_true B7
    replace C0 := eq_true C0
    go_wp2
    go_ret
    exact ⟨by first | rfl | (simp only [Go.IntWalk.i64_left]; first | done | rfl) | (simp [gV, gW] <;> rfl) | (simp only [← B4]; first | rfl | (simp [gV, gW] <;> rfl)) | (simp [*, gV, gW] <;> rfl), vQ⟩
   rw [if_neg c14] at H
   have E5 := decide_eq_false c14
   clear c14
   obtain rfl := Option.some.inj H
   go_wp2
   go_ret
   exact ⟨by first | rfl | (simp only [Go.IntWalk.i64_left]; first | done | rfl) | (simp [gV, gW] <;> rfl) | (simp only [← B4]; first | rfl | (simp [gV, gW] <;> rfl)) | (simp [*, gV, gW] <;> rfl), vQ⟩
def dK.f (k : Nat) (a0_0 : Int) (a0_1 : Int) (l0_2 : List Int) (l0_3 : List Int) (l0_4 : List Int) (a1 : ByteArray) : Option (Bool × Int) := (dU.f k a0_0 a0_1 l0_2 l0_3 l0_4 a1).bind fun t383 => (if t383 = 0 then ((bL.f k a0_0 a0_1 l0_2 l0_3 l0_4 a1).bind fun t384 => (some (t384, 0))) else (some (false, t383)))
theorem dK.mono : ∀ a0 a1 a2 a3 a4 a5 k, LeO (dK.f k a0 a1 a2 a3 a4 a5) (dK.f (k + 1) a0 a1 a2 a3 a4 a5) := by
 intro a0 a1 a2 a3 a4 a5 k
 unfold dK.f
 repeat' first | (with_reducible first | exact dU.mono .. | exact bL.mono .. | exact LeO.refl .. | exact LeO.none .. | refine LeO.ite ?_ ?_ | refine LeO.bind ?_ (fun _ => ?_))
theorem dK.calls (k : Nat) (a0_0 : Int) (a0_1 : Int) (A6 : Option Addr) (A7 : Nat) (l0_2 : List Int) (A8 : Option Addr) (A9 : Nat) (l0_3 : List Int) (B0 : Option Addr) (B3 : Nat) (l0_4 : List Int) (a1 : ByteArray) (r1 : Bool) (r2 : Int) (w : World) (hr0_2 : Kd.C (Kd.int .i64) w A6 l0_2.length l0_2) (hc0_2 : l0_2.length ≤ A7) (hr0_3 : Kd.C (Kd.int .i64) w A8 l0_3.length l0_3) (hc0_3 : l0_3.length ≤ A9) (hr0_4 : Kd.C (Kd.int .i64) w B0 l0_4.length l0_4) (hc0_4 : l0_4.length ≤ B3) (h : dK.f k a0_0 a0_1 l0_2 l0_3 l0_4 a1 = some (r1, r2)) :
  Calls Tryz.prog 10 #[.agg #[.int .i64 a0_0, .int .i64 a0_1, .slice A6 l0_2.length A7, .slice A8 l0_3.length A9, .slice B0 l0_4.length B3], .string a1] w fun e w' => e = .returned (.tuple #[.bool r1, .int .i64 r2]) ∧ Below w.heap.size w w' := by
 have hu28 := Tryz.underlying28
 have B4 := a_ hr0_2
 have B7 := a_ hc0_2
 clear hr0_2 hc0_2
 have C0 := a_ hr0_3
 have C1 := a_ hc0_3
 clear hr0_3 hc0_3
 have HR0_4 := a_ hr0_4
 have C2 := a_ hc0_4
 clear hr0_4 hc0_4
 have HB := a_ (Below.refl w.heap.size w)
 have H : ((dU.f k a0_0 a0_1 l0_2 l0_3 l0_4 a1).bind fun A4 => (if A4 = 0 then ((bL.f k a0_0 a0_1 l0_2 l0_3 l0_4 a1).bind fun C3 => (some (C3, 0))) else (some (false, A4)))) = some (r1, r2) := h
 clear h
 replace H := bo_ H; obtain ⟨A4, A3, H⟩ := H; (try dsimp only at H)
 by_cases c4 : A4 = 0
 ·rw [if_pos c4] at H
  have D5 : (A4 == 0) = true := beq_iff_eq.mpr c4
  have D6 : (A4 != 0) = false := bne_eq_false_iff_eq.mpr c4
  clear c4
  replace H := bo_ H; obtain ⟨C3, A5, H⟩ := H; (try dsimp only at H)
  simp only [Option.some.injEq, Prod.mk.injEq] at H
  obtain ⟨rfl, rfl⟩ := H
  go_enter Tryz.func10, Tryz.ntmps10
  go_wp2_with (first | ((with_reducible refine bf (N := 2) rfl ?_); refine cz ?hg (N := 2) ?hd (cs := #[.int .i64 a0_0, .int .i64 a0_1, .slice A6 l0_2.length A7, .slice A8 l0_3.length A9, .slice B0 l0_4.length B3]) (t := 28) ?hr ?_; (case hd => rfl); (case hg => rfl); (case hr => first | (go_simp; done) | (go_simp; rfl)); intro A2 hg w6 hbox hb; have A1 := a_ (hbox); have C4 := a_ ((fG : w.heap.size ≤ A2)); have GE382 := a_ ((fG : w.heap.size ≤ A2)); replace HB := df bO hb; clear hb hbox hg; obtain ⟨D7, D8, D9, E0, E1, E2, E3, E4, E5, E6⟩ := eH (w := w6) A1.out) | ((with_reducible refine av (f := 39) rfl ?_); refine bI (some 9) rfl rfl Tryz.func39 (by kernel_rfl) rfl #[.agg #[.int .i64 a0_0, .int .i64 a0_1, .slice A6 l0_2.length A7, .slice A8 l0_3.length A9, .slice B0 l0_4.length B3], .string a1] rfl dL ?_; (with_reducible refine (dU.calls k a0_0 a0_1 _ _ l0_2 _ _ l0_3 _ _ l0_4 a1 A4 _ ?side1 ?side2 ?side3 ?side4 ?side5 ?side6 A3.out).mono ?_); (case side1 => exact kc_ (Kd.bE B4.out HB.out)); (case side2 => exact B7.out); (case side3 => exact kc_ (Kd.bE C0.out HB.out)); (case side4 => exact C1.out); (case side5 => exact kc_ (Kd.bE HR0_4.out HB.out)); (case side6 => exact C2.out); rintro e w8 ⟨rfl, hb⟩; refine ⟨_, rfl, ?_⟩; replace A1 := bb_ A2 A1 hb; replace HB := df zm hb; (try clear hb); obtain ⟨E7, E8, E9, F0, F1, F2, F3, F4, F5, F6⟩ := eH (w := w8) A1.out) | ((with_reducible refine av (f := 40) rfl ?_); refine bI (some 15) rfl rfl Tryz.func40 (by kernel_rfl) rfl #[.agg #[.int .i64 a0_0, .int .i64 a0_1, .slice A6 l0_2.length A7, .slice A8 l0_3.length A9, .slice B0 l0_4.length B3], .string a1] rfl dL ?_; (with_reducible refine (bL.calls k a0_0 a0_1 _ _ l0_2 _ _ l0_3 _ _ l0_4 a1 C3 _ ?side1 ?side2 ?side3 ?side4 ?side5 ?side6 A5.out).mono ?_); (case side1 => exact kc_ (Kd.bE B4.out HB.out)); (case side2 => exact B7.out); (case side3 => exact kc_ (Kd.bE C0.out HB.out)); (case side4 => exact C1.out); (case side5 => exact kc_ (Kd.bE HR0_4.out HB.out)); (case side6 => exact C2.out); rintro e F8 ⟨rfl, hb⟩; refine ⟨_, rfl, ?_⟩; replace A1 := bb_ A2 A1 hb; replace HB := df zm hb; (try clear hb)))
  go_ret2
  exact ⟨fO, zm⟩
 rw [if_neg c4] at H
 have D5 : (A4 == 0) = false := beq_eq_false_iff_ne.mpr c4
 have D6 : (A4 != 0) = true := bne_iff_ne.mpr c4
 simp only [Option.some.injEq, Prod.mk.injEq] at H
 obtain ⟨rfl, rfl⟩ := H
 go_enter Tryz.func10, Tryz.ntmps10
 go_wp2_with (first | ((with_reducible refine bf (N := 2) rfl ?_); refine cz ?hg (N := 2) ?hd (cs := #[.int .i64 a0_0, .int .i64 a0_1, .slice A6 l0_2.length A7, .slice A8 l0_3.length A9, .slice B0 l0_4.length B3]) (t := 28) ?hr ?_; (case hd => rfl); (case hg => rfl); (case hr => first | (go_simp; done) | (go_simp; rfl)); intro A2 hg F7 hbox hb; have A1 := a_ (hbox); have C4 := a_ ((fG : w.heap.size ≤ A2)); have GE382 := a_ ((fG : w.heap.size ≤ A2)); replace HB := df bO hb; clear hb hbox hg; obtain ⟨C5, C6, C7, C8, C9, D0, D1, D2, D3, D4⟩ := eH (w := F7) A1.out) | ((with_reducible refine av (f := 39) rfl ?_); refine bI (some 9) rfl rfl Tryz.func39 (by kernel_rfl) rfl #[.agg #[.int .i64 a0_0, .int .i64 a0_1, .slice A6 l0_2.length A7, .slice A8 l0_3.length A9, .slice B0 l0_4.length B3], .string a1] rfl dL ?_; (with_reducible refine (dU.calls k a0_0 a0_1 _ _ l0_2 _ _ l0_3 _ _ l0_4 a1 A4 _ ?side1 ?side2 ?side3 ?side4 ?side5 ?side6 A3.out).mono ?_); (case side1 => exact kc_ (Kd.bE B4.out HB.out)); (case side2 => exact B7.out); (case side3 => exact kc_ (Kd.bE C0.out HB.out)); (case side4 => exact C1.out); (case side5 => exact kc_ (Kd.bE HR0_4.out HB.out)); (case side6 => exact C2.out); rintro e F9 ⟨rfl, hb⟩; refine ⟨_, rfl, ?_⟩; replace A1 := bb_ A2 A1 hb; replace HB := df zm hb; (try clear hb)))
 go_ret2
 exact ⟨fO, zm⟩
def kH.f (l0 : List Int) : Option (Bool) := some (decide ((l0.length : Int) > 4096))
theorem kH.calls (A0 : Option Addr) (c0 : Nat) (l0 : List Int) (r : Bool) (w : World) (hr0 : Kd.C (Kd.int .u8) w A0 l0.length l0) (hc0 : l0.length ≤ c0) (h : kH.f l0 = some r) :
  Calls Tryz.prog 12 #[.slice A0 l0.length c0] w fun e w' => e = .returned (.bool r) ∧ eY w w' := by
 have HR0 := a_ hr0
 have A1 := a_ hc0
 clear hr0 hc0
 have H : (some (decide ((l0.length : Int) > 4096))) = some r := h
 clear h
 obtain rfl := Option.some.inj H
 go_enter Tryz.func12, Tryz.ntmps12
 go_wp2
 go_ret
 exact ⟨fT, eQ⟩
def fD.f (k : Nat) (a0_0 : Int) (a0_1 : Int) (l0_2 : List Int) (l0_3 : List Int) (l0_4 : List Int) (a1 : ByteArray) : Option (List Int × Int) := (dU.f k a0_0 a0_1 l0_2 l0_3 l0_4 a1).bind fun t386 => (if t386 = 0 then ((aQ.f k a0_0 a0_1 l0_2 l0_3 l0_4 a1).bind fun t387 => (some (t387, 0))) else (some (([] : List Int), t386)))
theorem fD.mono : ∀ a0 a1 a2 a3 a4 a5 k, LeO (fD.f k a0 a1 a2 a3 a4 a5) (fD.f (k + 1) a0 a1 a2 a3 a4 a5) := by
 intro a0 a1 a2 a3 a4 a5 k
 unfold fD.f
 repeat' first | (with_reducible first | exact dU.mono .. | exact aQ.mono .. | exact LeO.refl .. | exact LeO.none .. | refine LeO.ite ?_ ?_ | refine LeO.bind ?_ (fun _ => ?_))
theorem fD.calls (k : Nat) (a0_0 : Int) (a0_1 : Int) (A6 : Option Addr) (A7 : Nat) (l0_2 : List Int) (A8 : Option Addr) (A9 : Nat) (l0_3 : List Int) (B0 : Option Addr) (B3 : Nat) (l0_4 : List Int) (a1 : ByteArray) (r1 : List Int) (r2 : Int) (w : World) (hr0_2 : Kd.C (Kd.int .i64) w A6 l0_2.length l0_2) (hc0_2 : l0_2.length ≤ A7) (hr0_3 : Kd.C (Kd.int .i64) w A8 l0_3.length l0_3) (hc0_3 : l0_3.length ≤ A9) (hr0_4 : Kd.C (Kd.int .i64) w B0 l0_4.length l0_4) (hc0_4 : l0_4.length ≤ B3) (h : fD.f k a0_0 a0_1 l0_2 l0_3 l0_4 a1 = some (r1, r2)) :
  Calls Tryz.prog 22 #[.agg #[.int .i64 a0_0, .int .i64 a0_1, .slice A6 l0_2.length A7, .slice A8 l0_3.length A9, .slice B0 l0_4.length B3], .string a1] w fun e w' => ∃ v0_ : Value, e = .returned (.tuple #[v0_, .int .i64 r2]) ∧ Kd.R (Kd.int .i64) 2 w' w.heap.size (fun _ => True) v0_ r1 ∧ Below w.heap.size w w' := by
 have hu28 := Tryz.underlying28
 have B4 := a_ hr0_2
 have B7 := a_ hc0_2
 clear hr0_2 hc0_2
 have C0 := a_ hr0_3
 have C1 := a_ hc0_3
 clear hr0_3 hc0_3
 have HR0_4 := a_ hr0_4
 have C2 := a_ hc0_4
 clear hr0_4 hc0_4
 have HB := a_ (Below.refl w.heap.size w)
 have H : ((dU.f k a0_0 a0_1 l0_2 l0_3 l0_4 a1).bind fun A4 => (if A4 = 0 then ((aQ.f k a0_0 a0_1 l0_2 l0_3 l0_4 a1).bind fun C3 => (some (C3, 0))) else (some (([] : List Int), A4)))) = some (r1, r2) := h
 clear h
 replace H := bo_ H; obtain ⟨A4, A3, H⟩ := H; (try dsimp only at H)
 by_cases c4 : A4 = 0
 ·rw [if_pos c4] at H
  have D6 : (A4 == 0) = true := beq_iff_eq.mpr c4
  have D7 : (A4 != 0) = false := bne_eq_false_iff_eq.mpr c4
  clear c4
  replace H := bo_ H; obtain ⟨C3, A5, H⟩ := H; (try dsimp only at H)
  simp only [Option.some.injEq, Prod.mk.injEq] at H
  obtain ⟨rfl, rfl⟩ := H
  go_enter Tryz.func22, Tryz.ntmps22
  go_wp2_with (first | ((with_reducible refine bf (N := 2) rfl ?_); refine cz ?hg (N := 2) ?hd (cs := #[.int .i64 a0_0, .int .i64 a0_1, .slice A6 l0_2.length A7, .slice A8 l0_3.length A9, .slice B0 l0_4.length B3]) (t := 28) ?hr ?_; (case hd => rfl); (case hg => rfl); (case hr => first | (go_simp; done) | (go_simp; rfl)); intro A2 hg w6 hbox hb; have A1 := a_ (hbox); have C4 := a_ ((fG : w.heap.size ≤ A2)); have GE385 := a_ ((fG : w.heap.size ≤ A2)); replace HB := df bO hb; clear hb hbox hg; obtain ⟨D8, D9, E0, E1, E2, E3, E4, E5, E6, E7⟩ := eH (w := w6) A1.out) | ((with_reducible refine av (f := 39) rfl ?_); refine bI (some 9) rfl rfl Tryz.func39 (by kernel_rfl) rfl #[.agg #[.int .i64 a0_0, .int .i64 a0_1, .slice A6 l0_2.length A7, .slice A8 l0_3.length A9, .slice B0 l0_4.length B3], .string a1] rfl dL ?_; (with_reducible refine (dU.calls k a0_0 a0_1 _ _ l0_2 _ _ l0_3 _ _ l0_4 a1 A4 _ ?side1 ?side2 ?side3 ?side4 ?side5 ?side6 A3.out).mono ?_); (case side1 => exact kc_ (Kd.bE B4.out HB.out)); (case side2 => exact B7.out); (case side3 => exact kc_ (Kd.bE C0.out HB.out)); (case side4 => exact C1.out); (case side5 => exact kc_ (Kd.bE HR0_4.out HB.out)); (case side6 => exact C2.out); rintro e w8 ⟨rfl, hb⟩; refine ⟨_, rfl, ?_⟩; replace A1 := bb_ A2 A1 hb; replace HB := df xV hb; (try clear hb); obtain ⟨E8, E9, F0, F1, F2, F3, F4, F5, F6, F7⟩ := eH (w := w8) A1.out) | ((with_reducible refine av (f := 70) rfl ?_); refine bI (some 15) rfl rfl Tryz.func70 (by kernel_rfl) rfl #[.agg #[.int .i64 a0_0, .int .i64 a0_1, .slice A6 l0_2.length A7, .slice A8 l0_3.length A9, .slice B0 l0_4.length B3], .string a1] rfl dL ?_; (with_reducible refine (aQ.calls k a0_0 a0_1 _ _ l0_2 _ _ l0_3 _ _ l0_4 a1 C3 _ ?side1 ?side2 ?side3 ?side4 ?side5 ?side6 A5.out).mono ?_); (case side1 => exact kc_ (Kd.bE B4.out HB.out)); (case side2 => exact B7.out); (case side3 => exact kc_ (Kd.bE C0.out HB.out)); (case side4 => exact C1.out); (case side5 => exact kc_ (Kd.bE HR0_4.out HB.out)); (case side6 => exact C2.out); rintro e G0 ⟨F8, rfl, ho0, hb⟩; refine ⟨_, rfl, ?_⟩; have C5 := a_ (Kd.bu ho0 (af xV)); replace A1 := bb_ A2 A1 hb; replace HB := df xV hb; (try clear hb); (try clear ho0)))
  go_ret2
  exact ⟨_, fO, by (with_reducible repeat (first | apply Kd.aC | apply Kd.aD | apply Kd.az)); exact C5.out, xV⟩
 rw [if_neg c4] at H
 have D6 : (A4 == 0) = false := beq_eq_false_iff_ne.mpr c4
 have D7 : (A4 != 0) = true := bne_iff_ne.mpr c4
 simp only [Option.some.injEq, Prod.mk.injEq] at H
 obtain ⟨rfl, rfl⟩ := H
 go_enter Tryz.func22, Tryz.ntmps22
 go_wp2_with (first | ((with_reducible refine bf (N := 2) rfl ?_); refine cz ?hg (N := 2) ?hd (cs := #[.int .i64 a0_0, .int .i64 a0_1, .slice A6 l0_2.length A7, .slice A8 l0_3.length A9, .slice B0 l0_4.length B3]) (t := 28) ?hr ?_; (case hd => rfl); (case hg => rfl); (case hr => first | (go_simp; done) | (go_simp; rfl)); intro A2 hg F9 hbox hb; have A1 := a_ (hbox); have C4 := a_ ((fG : w.heap.size ≤ A2)); have GE385 := a_ ((fG : w.heap.size ≤ A2)); replace HB := df bO hb; clear hb hbox hg; obtain ⟨C6, C7, C8, C9, D0, D1, D2, D3, D4, D5⟩ := eH (w := F9) A1.out) | ((with_reducible refine av (f := 39) rfl ?_); refine bI (some 9) rfl rfl Tryz.func39 (by kernel_rfl) rfl #[.agg #[.int .i64 a0_0, .int .i64 a0_1, .slice A6 l0_2.length A7, .slice A8 l0_3.length A9, .slice B0 l0_4.length B3], .string a1] rfl dL ?_; (with_reducible refine (dU.calls k a0_0 a0_1 _ _ l0_2 _ _ l0_3 _ _ l0_4 a1 A4 _ ?side1 ?side2 ?side3 ?side4 ?side5 ?side6 A3.out).mono ?_); (case side1 => exact kc_ (Kd.bE B4.out HB.out)); (case side2 => exact B7.out); (case side3 => exact kc_ (Kd.bE C0.out HB.out)); (case side4 => exact C1.out); (case side5 => exact kc_ (Kd.bE HR0_4.out HB.out)); (case side6 => exact C2.out); rintro e G1 ⟨rfl, hb⟩; refine ⟨_, rfl, ?_⟩; replace A1 := bb_ A2 A1 hb; replace HB := df xV hb; (try clear hb)))
 go_ret2
 exact ⟨_, fO, xX, xV⟩
def aj (w0 W : World) (g : Nat) (f0 : List Int) (f1 : Int) (f2 : Int) : Prop := ∃ A0 c0, W.heap[g]? = some (.cells #[.slice A0 f0.length c0, .int .i64 f1, .int .i64 f2] 94 (0, 0)) ∧ w0.heap.size ≤ g ∧ Kd.C (Kd.int .u8) w0 A0 f0.length f0
theorem aj.grown {w0 W : World} {g : Nat} {f0 : List Int} {f1 : Int} {f2 : Int} {W1 : World} {row : Option Nat} (h : aj w0 W g f0 f1 f2) (hw : W.grownBy W1 row) (hne : some g ≠ row) : aj w0 W1 g f0 f1 f2 := by
 obtain ⟨A0, c0, hb, hg, hr0⟩ := h
 exact ⟨A0, c0, dA hb hw hne, hg, hr0⟩
theorem aj.CZ {w0 W : World} {g : Nat} {f0 : List Int} {f1 : Int} {f2 : Int} {α : Type} {d : Kd α} {e : Nat} {base : Nat} {ok : Nat → Prop} {v : Value} {xs : List α} (h : aj w0 W g f0 f1 f2) (ho : Kd.N d e W base ok v xs) (ht : e ≠ 94) : some g ≠ v.ownBlock := by
 obtain ⟨A0, c0, hb, hg, hr0⟩ := h
 exact Kd.De ho hb ht
theorem aj.fresh {w0 W : World} {g : Nat} {f0 : List Int} {f1 : Int} {f2 : Int} (h : aj w0 W g f0 f1 f2) : ∀ k, W.heap.size ≤ k → k ≠ g := by
 obtain ⟨A0, c0, hb, hg, hr0⟩ := h
 exact Kd.lg hb
theorem aj.kept {w0 W : World} {g : Nat} {f0 : List Int} {f1 : Int} {f2 : Int} {W1 : World} {S : Nat → Prop} (h : aj w0 W g f0 f1 f2) (hk : Kept W W1 S) (hne : ¬ S g) : aj w0 W1 g f0 f1 f2 := by
 obtain ⟨A0, c0, hb, hg, hr0⟩ := h
 exact ⟨A0, c0, yD hb hk hne, hg, hr0⟩
theorem aj.below {w0 W : World} {g : Nat} {f0 : List Int} {f1 : Int} {f2 : Int} {W1 : World} (h : aj w0 W g f0 f1 f2) (hw : Below W.heap.size W W1) : aj w0 W1 g f0 f1 f2 := h.grown (mq hw none) (by simp)
theorem aj.alloc {w0 W : World} {g : Nat} {f0 : List Int} {f1 : Int} {f2 : Int} (h : aj w0 W g f0 f1 f2) (o : Obj) : aj w0 (W.alloc o) g f0 f1 f2 := h.below (aW (Below.refl _ _) o)
theorem aj.drewN {w0 W : World} {g : Nat} {f0 : List Int} {f1 : Int} {f2 : Int} (h : aj w0 W g f0 f1 f2) (m : Nat) : aj w0 (W.drewN m) g f0 f1 f2 := h
theorem aj.drew {w0 W : World} {g : Nat} {f0 : List Int} {f1 : Int} {f2 : Int} (h : aj w0 W g f0 f1 f2) : aj w0 W.drew g f0 f1 f2 := h
theorem aj.at_ {w0 W : World} {g : Nat} {f0 : List Int} {f1 : Int} {f2 : Int} {w' : World} {m : Nat} (hq : W.drewN m = w') (h : aj w0 W g f0 f1 f2) : aj w0 w' g f0 f1 f2 := by subst hq; exact aj.drewN h m
theorem aj.apart {w0 W : World} {g : Nat} {f0 : List Int} {f1 : Int} {f2 : Int} {α : Type} {d : Kd α} {e : Nat} {base : Nat} {ok : Nat → Prop} {v : Value} {xs : List α} (h : aj w0 W g f0 f1 f2) (ho : d.R e W base ok v xs) (ht : ∀ q, q ∈ e :: d.E → q ≠ 94) : d.R e W base (fun k => ok k ∧ k ≠ g) v xs := by
 obtain ⟨A0, c0, hb, hg, hr0⟩ := h
 exact Kd.eT ho hb ht
theorem aj.own_ne {w0 W : World} {g : Nat} {f0 : List Int} {f1 : Int} {f2 : Int} {α : Type} {d : Kd α} {e : Nat} {base : Nat} {ok : Nat → Prop} {v : Value} {xs : List α} (h : aj w0 W g f0 f1 f2) (ho : d.R e W base ok v xs) (ht : e ≠ 94) : some g ≠ v.ownBlock := by
 obtain ⟨A0, c0, hb, hg, hr0⟩ := h
 exact Kd.gp ho hb ht
theorem aj.Di {w0 W : World} {g : Nat} {f0 : List Int} {f1 : Int} {f2 : Int} {α : Type} {d : Kd α} {e : Nat} {base : Nat} {ok : Nat → Prop} {v : Value} {xs : List α} (h : aj w0 W g f0 f1 f2) (ho : d.Q e W base ok v xs) (ht : ∀ q, q ∈ e :: d.E → q ≠ 94) : d.Q e W base (fun k => ok k ∧ k ≠ g) v xs := by
 obtain ⟨A0, c0, hb, hg, hr0⟩ := h
 exact Kd.zD ho hb ht
theorem aj.Da {w0 W : World} {g : Nat} {f0 : List Int} {f1 : Int} {f2 : Int} {α : Type} {d : Kd α} {e : Nat} {base : Nat} {ok : Nat → Prop} {v : Value} {xs : List α} (h : aj w0 W g f0 f1 f2) (ho : d.Q e W base ok v xs) (ht : e ≠ 94) : some g ≠ v.ownBlock := by
 obtain ⟨A0, c0, hb, hg, hr0⟩ := h
 exact Kd.Df ho hb ht
theorem aj.Dj {w0 W : World} {g : Nat} {f0 : List Int} {f1 : Int} {f2 : Int} {α : Type} {d : Kd α} {e : Nat} {base : Nat} {ok : Nat → Prop} {v : Value} {xs : List α} (h : aj w0 W g f0 f1 f2) (ho : d.S e W base ok v xs) (ht : ∀ q, q ∈ e :: d.E → q ≠ 94) : d.S e W base (fun k => ok k ∧ k ≠ g) v xs := by
 obtain ⟨A0, c0, hb, hg, hr0⟩ := h
 exact Kd.zG ho hb ht
theorem aj.Db {w0 W : World} {g : Nat} {f0 : List Int} {f1 : Int} {f2 : Int} {α : Type} {d : Kd α} {e : Nat} {base : Nat} {ok : Nat → Prop} {v : Value} {xs : List α} (h : aj w0 W g f0 f1 f2) (ho : d.S e W base ok v xs) (ht : e ≠ 94) : some g ≠ v.ownBlock := by
 obtain ⟨A0, c0, hb, hg, hr0⟩ := h
 exact Kd.Dh ho hb ht
theorem aj.lt {w0 W : World} {g : Nat} {f0 : List Int} {f1 : Int} {f2 : Int} (h : aj w0 W g f0 f1 f2) : g < W.heap.size := by
 obtain ⟨A0, c0, hb, hg, hr0⟩ := h
 exact fF hb
theorem aj.ge {w0 W : World} {g : Nat} {f0 : List Int} {f1 : Int} {f2 : Int} (h : aj w0 W g f0 f1 f2) : w0.heap.size ≤ g := by
 obtain ⟨A0, c0, hb, hg, hr0⟩ := h
 exact hg
theorem aj.pF {w0 W : World} {g : Nat} {f0 : List Int} {f1 : Int} {f2 : Int} {a : Nat} {cs : Array Value} {t : TypeId} {fr : Nat × Nat} (h : aj w0 W g f0 f1 f2) (hb2 : W.heap[a]? = some (.cells cs t fr)) (ht : t ≠ 94) : g ≠ a := by
 obtain ⟨A0, c0, hb, hg, hr0⟩ := h
 rintro rfl
 rw [hb] at hb2
 injection hb2 with hb2
 injection hb2 with _ ht2
 exact ht ht2.symm
theorem aj.far {w0 W : World} {g : Nat} {f0 : List Int} {f1 : Int} {f2 : Int} {p : Addr} (h : aj w0 W g f0 f1 f2) (hne : g ≠ p.block) (u : Value) : aj w0 (W.setCell p u) g f0 f1 f2 := by
 obtain ⟨A0, c0, hb, hg, hr0⟩ := h
 exact ⟨A0, c0, gu hb hne u, hg, hr0⟩
theorem mV {W : World} {g : Nat} {A0 : Option Addr} {c0 : Nat} {f0 : List Int} {f1 : Int} {f2 : Int} (h : W.heap[g]? = some (.cells #[.slice A0 f0.length c0, .int .i64 f1, .int .i64 f2] 94 (0, 0))) : W.cell? ⟨g, 0, none⟩ = some (.slice A0 f0.length c0) := (ai h 0).trans rfl
theorem mW {W : World} {g : Nat} {A0 : Option Addr} {c0 : Nat} {f0 : List Int} {f1 : Int} {f2 : Int} (h : W.heap[g]? = some (.cells #[.slice A0 f0.length c0, .int .i64 f1, .int .i64 f2] 94 (0, 0))) : W.cell? ⟨g, 1, none⟩ = some (.int .i64 f1) := (ai h 1).trans rfl
theorem aj.nL {w0 W : World} {g : Nat} {f0 : List Int} {f1 : Int} {f2 : Int} (h : aj w0 W g f0 f1 f2) (x : Int) : aj w0 (W.setCell ⟨g, 1, none⟩ (.int .i64 x)) g f0 x f2 := by
 obtain ⟨A0, c0, hb, hg, hr0⟩ := h
 exact ⟨A0, c0, by simpa using qB hb 1 (.int .i64 x), hg, hr0⟩
theorem mX {W : World} {g : Nat} {A0 : Option Addr} {c0 : Nat} {f0 : List Int} {f1 : Int} {f2 : Int} (h : W.heap[g]? = some (.cells #[.slice A0 f0.length c0, .int .i64 f1, .int .i64 f2] 94 (0, 0))) : W.cell? ⟨g, 2, none⟩ = some (.int .i64 f2) := (ai h 2).trans rfl
theorem aj.nM {w0 W : World} {g : Nat} {f0 : List Int} {f1 : Int} {f2 : Int} (h : aj w0 W g f0 f1 f2) (x : Int) : aj w0 (W.setCell ⟨g, 2, none⟩ (.int .i64 x)) g f0 f1 x := by
 obtain ⟨A0, c0, hb, hg, hr0⟩ := h
 exact ⟨A0, c0, by simpa using qB hb 2 (.int .i64 x), hg, hr0⟩
theorem aj.new (w0 W : World) (A0 : Option Addr) (c0 : Nat) (f0 : List Int) (f1 : Int) (f2 : Int) (hB : Below w0.heap.size w0 W) (hr0 : Kd.C (Kd.int .u8) w0 A0 f0.length f0) : aj w0 (W.alloc (.cells #[.slice A0 f0.length c0, .int .i64 f1, .int .i64 f2] 94)) W.heap.size f0 f1 f2 := ⟨A0, c0, by simpa using heap_alloc_new W _, hB.size, hr0⟩
def bM.l0 : Nat → List Int → Int → List Int → Int → Int → Option (List Int × Int × Int)
 | 0, _, _, _, _, _ => none
 | k + 1, x0, x4, x391000, x391001, x391002 => if x4 < (x0.length : Int) then (if x4 < 64 then (if 0 ≤ x4 then (bM.l0 k x0 (wrap64 (x4 + 1)) x391000 x391001 (Int.tmod (wrap64 ((wrap64 (x391002 * 71)) + (wrap64 (rd x0 x4)))) 2147483647)) else (none)) else (some (x391000, x391001, x391002))) else (some (x391000, x391001, x391002))
def bM.f (k : Nat) (l0 : List Int) : Option (List Int × Int × Int) := bM.l0 k l0 0 l0 0 88007
theorem bM.di : ∀ k, (∀ y0 y1 y2 y3 y4, LeO (bM.l0 k y0 y1 y2 y3 y4) (bM.l0 (k + 1) y0 y1 y2 y3 y4))
 | 0 => fun _ _ _ _ _ r h => by simp [bM.l0] at h
 | k + 1 => by
  have ih0 := bM.di k
  ·intro y0 y1 y2 y3 y4
   unfold bM.l0
   repeat' first | (with_reducible first | exact ih0 .. | exact LeO.refl .. | exact LeO.none .. | refine LeO.ite ?_ ?_ | refine LeO.bind ?_ (fun _ => ?_))
theorem bM.mono : ∀ a0 k, LeO (bM.f k a0) (bM.f (k + 1) a0) := by
 intro a0 k
 have ih0 := bM.di k
 unfold bM.f
 repeat' first | (with_reducible first | exact ih0 .. | exact LeO.refl .. | exact LeO.none .. | refine LeO.ite ?_ ?_ | refine LeO.bind ?_ (fun _ => ?_))
def bM.T5 : Bool × List (List Nat × List Nat) := (true, [([], []), ([], []), ([1], [1]), ([2], [2]), ([3], [3]), ([4], [4]), ([], []), ([], []), ([6, 7], [6, 7]), ([8], [8]), ([9], [9]), ([5, 10], [5, 10]), ([11], [11]), ([0, 0, 1, 2, 3, 4, 5, 6, 7, 8, 9, 10, 11, 12], [0]), ([13, 0, 1, 2, 3, 4, 5, 6, 7, 8, 9, 10, 11, 12], [13]), ([14, 12, 0, 1, 2, 3, 4, 5, 6, 7, 8, 9, 10, 11, 12], [12, 14])])
def bM.B5 : List Nat := [0, 0, 2, 6, 14, 30, 0, 0, 192, 448, 960, 2046, 4094, 8191, 16383, 32767]
theorem bM.Bo : ic .any (opsOf Tryz.f42 5) = bM.T5 := by kernel_rfl
theorem bM.yB : fZ bM.T5.2 bM.B5 = true := by kernel_rfl
theorem bM.calls (k : Nat) (A0 : Option Addr) (c0 : Nat) (l0 : List Int) (r1 : List Int) (r2 : Int) (r3 : Int) (w0 w : World) (hB : Below w0.heap.size w0 w) (hr0 : Kd.C (Kd.int .u8) w0 A0 l0.length l0) (hc0 : l0.length ≤ c0) (h : bM.f k l0 = some (r1, r2, r3)) :
  Calls Tryz.prog 42 #[.slice A0 l0.length c0] w fun e w' => ∃ g_ : Nat, e = .returned (.pointer (some ⟨g_, 0, none⟩)) ∧ aj w0 w' g_ r1 r2 r3 ∧ Below w0.heap.size w0 w' ∧ Below w.heap.size w w' := by
 have hu94 := Tryz.underlying94
 have HR0 := a_ hr0
 have B7 := a_ hc0
 clear hr0 hc0
 have HBW := a_ (Below.refl w.heap.size w)
 have HW0 := ah.mk hB.size
 have HB := a_ hB
 clear hB
 have H : (bM.l0 k l0 0 l0 0 88007) = some (r1, r2, r3) := h
 clear h
 have H' := a_ H
 clear H
 go_enter Tryz.func42, Tryz.ntmps42
 go_wp2_with (first | ((with_reducible refine bf (N := 7) rfl ?_); refine cz ?hg (N := 7) ?hd (cs := #[.slice A0 l0.length c0, .int .i64 0, .int .i64 88007]) (t := 94) ?hr ?_; (case hd => rfl); (case hg => rfl); (case hr => first | (go_simp; done) | (go_simp; rfl)); intro A2 hg w2 hbox hb; replace HB := df bO hb; have BK390 := a_ (hbox); have GW390 := a_ ((by rw [hg]; exact (af (by repeat (first | (with_reducible first | exact HBW.out | apply aW | apply aN | apply aU) | exact HBW.out))) : w.heap.size ≤ A2)); have GE390 := a_ ((Nat.le_trans HW0.out (by rw [hg]; exact (af (by repeat (first | (with_reducible first | exact HBW.out | apply aW | apply aN | apply aU) | exact HBW.out))) : w.heap.size ≤ A2) : w0.heap.size ≤ A2)); replace HBW := a_ (jo HBW.out hb); clear hb hbox hg))
 go_loopg [4] k (fun kq v4 w' => ∃ (A3 : Int) (A1 : Int), v4 = .int .i64 A3 ∧ ah (bM.l0 kq l0 A3 l0 0 A1 = some (r1, r2, r3)) ∧ ah (kq ≤ k) ∧ ah (w'.heap[A2]? = some (.cells #[(.slice A0 l0.length c0), .int .i64 0, .int .i64 A1] 94 (0, 0))) ∧ ah (Below w0.heap.size w0 w') ∧ ah (Below w.heap.size w w'))
 case atStart => exact ⟨(0), (88007), bZ, H', ⟨Nat.le_refl _⟩, ⟨BS⟩, ⟨Ab⟩, ⟨Aa⟩⟩
 case round =>
  clear H'
  obtain ⟨A3, A1, rfl, HA, HK1, BK390, HB, HBW⟩ := hrel
  cases gk with
  | zero => exact absurd HA.out (by simp [bM.l0])
  | succ k1 =>
   have H := HA.out
   clear HA
   simp only [bM.l0] at H
   by_cases c3 : A3 < (l0.length : Int)
   ·rw [if_pos c3] at H
    have A9 := decide_eq_true c3
    clear c3
    by_cases c4 : A3 < 64
    ·rw [if_pos c4] at H
     have B0 := decide_eq_true c4
     clear c4
     replace H := ig_ H; obtain ⟨c5, H⟩ := H
     have B4 := decide_eq_true c5
     clear c5
     have H' := a_ H
     clear H
     try go_wp2
     have n0_ := a_ (bU BK390.out)
     have n1_ := a_ (aU HB.out)
     have n9_ := a_ (aU HBW.out)
     clear HBW
     have HBW := n9_
     clear n9_; clear BK390; clear HB
     have BK390 := n0_
     have HB := n1_
     clear n0_ n1_
     have A7 : 0 ≤ (A3 : Int) := of_decide_eq_true aG
     have A8 : A3 < (l0.length : Int) := of_decide_eq_true aG
     obtain ⟨A6, B3, A4⟩ := Kd.dM HR0.out A3 A7 A8
     have A5 := A4
     cases B3
     replace A4 := iB HB.out A4
     replace A7 := eq_true A7
     replace A8 := eq_true A8
     refine gQ (n := 16) (S := fun w' => w'.cell? ⟨A2, 0, none⟩ = some (.slice (some A6) l0.length c0) ∧ w'.cell? ⟨A2, 1, none⟩ = some (.int .i64 0) ∧ w'.cell? ⟨A2, 2, none⟩ = some (.int .i64 A1) ∧ w'.cell? (A6.add (A3).toNat) = some (.int .u8 (rd l0 A3))) (ds := [15]) #[false, false, false, false, false, false, false, false, false, false, false, false, false, false, false, false] (by kernel_rfl) rfl rfl ⟨(ai BK390.out 0).trans rfl, (ai BK390.out 1).trans rfl, (ai BK390.out 2).trans rfl, ((HB.out.cell (World.block_lt_of_cell? _ _ A5)).trans A5)⟩ (fun hHeld => ?_); refine fI bM.Bo bM.yB (fun HT_ HW_ => ?_)
     generalize wr.drew = w6 at BK390 HB HBW A4 hHeld ⊢
     refine pv_ 0 (some 18) ?_
     refine pv_ 1 (some 19) ?_
     refine pv_ 2 (some 20) ?_
     refine pv_ 3 (some 21) ?_
     refine pv_ 6 (some 24) ?_
     refine pv_ 7 (some 25) ?_
     refine pv_ 8 (some 26) ?_
     refine mf 4 (some 22) hHeld ?_
     refine pv_ 5 (some 23) ?_
     refine mf 9 (some 27) hHeld ?_
     refine pv_ 10 (some 28) ?_
     refine pv_ 11 (some 29) ?_
     refine pv_ 12 (some 30) ?_
     refine pv_ 13 (some 31) ?_
     refine pv_ 14 (some 32) ?_
     refine la_ (i := 15) (N := none) (fun K hK => ?_)
     have C0 : w6.cell? ⟨A2, 2, none⟩ = some (.int .i64 A1) := (ai BK390.out 2).trans rfl
     have hfs7 := bG BK390.out 2
     refine tK (w1 := ?_) (by rfl) rfl ?_ ?_
     rotate_left
     ·go_simp
      rfl
     refine hK.out _ _ ?_
     clear hK K
     refine ja (gU HT_.out (by kernel_rfl)) ?_
     try go_wp2
     go_roundg k1
     case measure => have := HK1.out; omega
     case rel => exact ⟨(wrap64 (A3 + 1)), (Int.tmod (wrap64 ((wrap64 (A1 * 71)) + (wrap64 (rd l0 A3)))) 2147483647), bZ, H', ⟨jR⟩, ⟨by (with_reducible repeat (first | refine dz ?_ _ | refine bU ?_ | refine dx ?_ _)); refine fP (cs := #[.slice (some A6) l0.length c0, .int .i64 0, .int .i64 A1]) ?_ 2 _ rfl; (with_reducible repeat (first | refine dz ?_ _ | refine bU ?_ | refine dx ?_ _)); exact BK390.out⟩, ⟨Ab⟩, ⟨Aa⟩⟩
    rw [if_neg c4] at H
    have B0 := decide_eq_false c4
    clear c4
    simp only [Option.some.injEq, Prod.mk.injEq] at H
    obtain ⟨rfl, rfl, rfl⟩ := H
    go_wp2
    go_ret
    exact ⟨_, rfl, (show aj w0 _ A2 l0 0 A1 from ⟨_, _, BS, GE390.out, HR0.out⟩), Ab, Aa⟩
   rw [if_neg c3] at H
   have A9 := decide_eq_false c3
   clear c3
   simp only [Option.some.injEq, Prod.mk.injEq] at H
   obtain ⟨rfl, rfl, rfl⟩ := H
   go_wp2
   go_ret
   exact ⟨_, rfl, (show aj w0 _ A2 l0 0 A1 from ⟨_, _, BS, GE390.out, HR0.out⟩), Ab, Aa⟩
def fA.f (k : Nat) (a0 : Int) (a1 : Int) (a2 : ByteArray) : Option (Int) := (dE.f a0 a1).bind fun t392 => (if t392 = true then ((aZ.f k a0 a1 a2).bind fun t393 => (if t393 = true then (some 0) else (some 2))) else (some 1))
theorem fA.mono : ∀ a0 a1 a2 k, LeO (fA.f k a0 a1 a2) (fA.f (k + 1) a0 a1 a2) := by
 intro a0 a1 a2 k
 unfold fA.f
 repeat' first | (with_reducible first | exact aZ.mono .. | exact LeO.refl .. | exact LeO.none .. | refine LeO.ite ?_ ?_ | refine LeO.bind ?_ (fun _ => ?_))
theorem fA.calls (k : Nat) (a0 : Int) (a1 : Int) (a2 : ByteArray) (r : Int) (w : World) (h : fA.f k a0 a1 a2 = some r) :
  Calls Tryz.prog 49 #[.int .i64 a0, .int .i64 a1, .string a2] w fun e w' => e = .returned (.int .i64 r) ∧ eY w w' := by
 have H : ((dE.f a0 a1).bind fun A2 => (if A2 = true then ((aZ.f k a0 a1 a2).bind fun A1 => (if A1 = true then (some 0) else (some 2))) else (some 1))) = some r := h
 clear h
 replace H := bo_ H; obtain ⟨A2, A4, H⟩ := H; (try dsimp only at H)
 by_cases c5 : A2 = true
 ·subst c5
  have H1 : ((aZ.f k a0 a1 a2).bind fun A1 => (if A1 = true then (some 0) else (some 2))) = some r := by rw [if_pos rfl] at H; exact H
  clear H
  have H := H1
  clear H1
  replace H := bo_ H; obtain ⟨A1, A6, H⟩ := H; (try dsimp only at H)
  by_cases c7 : A1 = true
  ·subst c7
   have H1 : (some 0) = some r := by rw [if_pos rfl] at H; exact H
   clear H
   have H := H1
   clear H1
   obtain rfl := Option.some.inj H
   go_enter Tryz.func49, Tryz.ntmps49
   go_wp2_with (first | ((with_reducible refine av (f := 66) rfl ?_); refine bI (some 10) rfl rfl Tryz.func66 (by kernel_rfl) rfl #[.int .i64 a0, .int .i64 a1] rfl dL ?_; (with_reducible refine (dE.calls a0 a1 true _ A4.out).mono ?_); rintro e w' ⟨rfl, ⟨nd, rfl⟩⟩; refine ⟨_, rfl, ?_⟩) | ((with_reducible refine av (f := 76) rfl ?_); refine bI (some 16) rfl rfl Tryz.func76 (by kernel_rfl) rfl #[.int .i64 a0, .int .i64 a1, .string a2] rfl dL ?_; (with_reducible refine (aZ.calls k a0 a1 a2 true _ A6.out).mono ?_); rintro e w' ⟨rfl, ⟨nd, rfl⟩⟩; refine ⟨_, rfl, ?_⟩))
   go_ret
   exact ⟨fT, eQ⟩
  ·replace c7 := Bool.eq_false_iff.mpr c7
   subst c7
   have H1 : (some 2) = some r := by rw [if_neg (show ¬ (false = true) by decide)] at H; exact H
   clear H
   have H := H1
   clear H1
   obtain rfl := Option.some.inj H
   go_enter Tryz.func49, Tryz.ntmps49
   go_wp2_with (first | ((with_reducible refine av (f := 66) rfl ?_); refine bI (some 10) rfl rfl Tryz.func66 (by kernel_rfl) rfl #[.int .i64 a0, .int .i64 a1] rfl dL ?_; (with_reducible refine (dE.calls a0 a1 true _ A4.out).mono ?_); rintro e w' ⟨rfl, ⟨nd, rfl⟩⟩; refine ⟨_, rfl, ?_⟩) | ((with_reducible refine av (f := 76) rfl ?_); refine bI (some 16) rfl rfl Tryz.func76 (by kernel_rfl) rfl #[.int .i64 a0, .int .i64 a1, .string a2] rfl dL ?_; (with_reducible refine (aZ.calls k a0 a1 a2 false _ A6.out).mono ?_); rintro e w' ⟨rfl, ⟨nd, rfl⟩⟩; refine ⟨_, rfl, ?_⟩))
   go_ret
   exact ⟨fT, eQ⟩
 ·replace c5 := Bool.eq_false_iff.mpr c5
  subst c5
  have H1 : (some 1) = some r := by rw [if_neg (show ¬ (false = true) by decide)] at H; exact H
  clear H
  have H := H1
  clear H1
  obtain rfl := Option.some.inj H
  go_enter Tryz.func49, Tryz.ntmps49
  go_wp2_with (first | ((with_reducible refine av (f := 66) rfl ?_); refine bI (some 10) rfl rfl Tryz.func66 (by kernel_rfl) rfl #[.int .i64 a0, .int .i64 a1] rfl dL ?_; (with_reducible refine (dE.calls a0 a1 false _ A4.out).mono ?_); rintro e w' ⟨rfl, ⟨nd, rfl⟩⟩; refine ⟨_, rfl, ?_⟩))
  go_ret
  exact ⟨fT, eQ⟩
end Go.Proofs.YtkpidjmhdagkfaaGreatDoor.QFnReadForms
