-- Written by own_print.py of this session's repo over the kit's print (its output, turned at some places).
import Derived.Test.YtkpidjmhdagkfaaGreatDoorQFnImposedx0
import Derived.Test.YtkpidjmhdagkfaaGreatDoorQFnImposedx9
import Derived.Test.YtkpidjmhdagkfaaGreatDoorQFnImposedx12
import Derived.Test.YtkpidjmhdagkfaaGreatDoorQFnImposedx1
import Derived.Test.YtkpidjmhdagkfaaGreatDoorQFnImposedx3
namespace Go.Proofs.YtkpidjmhdagkfaaGreatDoor.QFnImposed
open Go.RowKit Go.Proofs.YtkpidjmhdagkfaaGreatDoorW.PrintWords Go.Proofs.YtkpidjmhdagkfaaGreatDoorW.PrintLast Go.Proofs.YtkpidjmhdagkfaaGreatDoorW.PrintMore
attribute [local go_sem] fU fT gP gQ fw fA fQ fV
set_option maxHeartbeats 8000000
set_option maxRecDepth 100000
set_option linter.unusedVariables false
set_option linter.unusedSimpArgs false
def dA.f (k : Nat) (a0_0 : Int) (a0_1 : Int) (l0_2 : List Int) (l0_3 : List Int) (l0_4 : List Int) (a1 : Int) : Option (Int × Int × List Int × List Int × List Int × Int) := (aK.f k a0_0 a0_1 l0_2 l0_3 l0_4).bind fun t605 => (if t605 = true then ((gF.f a1 (-1000000000) 1000000000).bind fun t606 => (if t606 = true then ((bz.f k l0_2 a1).bind fun t607 => ((bz.f k l0_3 a1).bind fun t610 => ((gG.f l0_4).bind fun t613 => ((aK.f k a0_0 a0_1 t607 t610 t613).bind fun t617 => (if t617 = true then (some (a0_0, a0_1, t607, t610, t613, 0)) else (some (0, 0, ([] : List Int), ([] : List Int), ([] : List Int), 3))))))) else (some (0, 0, ([] : List Int), ([] : List Int), ([] : List Int), 2)))) else (some (0, 0, ([] : List Int), ([] : List Int), ([] : List Int), 1)))
theorem dA.mono : ∀ a0 a1 a2 a3 a4 a5 k, LeO (dA.f k a0 a1 a2 a3 a4 a5) (dA.f (k + 1) a0 a1 a2 a3 a4 a5) := by
 intro a0 a1 a2 a3 a4 a5 k
 unfold dA.f
 repeat' first | (with_reducible first | exact aK.mono .. | exact bz.mono .. | exact LeO.refl .. | exact LeO.none .. | refine LeO.ite ?_ ?_ | refine LeO.bind ?_ (fun _ => ?_))
def dA.T5 : Bool × List (List Nat × List Nat) := (true, [([], []), ([0], [0]), ([], []), ([2], [2]), ([], []), ([4], [4]), ([], []), ([5, 6], [5, 6]), ([], []), ([8], [8]), ([], []), ([9, 10, 7], [9, 10]), ([], []), ([12], [12]), ([13, 11], [13]), ([1, 3, 7, 11, 14], [1, 3, 7, 11, 14]), ([], []), ([16, 15, 14, 0, 1, 2, 3, 4, 5, 6, 7, 8, 9, 10, 11, 12, 13, 14, 15, 16], [15, 16])])
def dA.B5 : List Nat := [0, 1, 0, 4, 0, 16, 0, 112, 0, 256, 0, 2032, 0, 4096, 16368, 32767, 0, 131071]
theorem dA.vP : ig .any (opsOf Tryz.f18 5) = dA.T5 := by kernel_rfl
theorem dA.qU : gm dA.T5.2 dA.B5 = true := by kernel_rfl
theorem dA.calls (k : Nat) (a0_0 : Int) (a0_1 : Int) (E5 : Option Addr) (E6 : Nat) (l0_2 : List Int) (E7 : Option Addr) (E8 : Nat) (l0_3 : List Int) (E9 : Option Addr) (F0 : Nat) (l0_4 : List Int) (a1 : Int) (r1 : Int) (r2 : Int) (r3 : List Int) (r4 : List Int) (r5 : List Int) (r6 : Int) (w : World) (hr0_2 : Kd.C (Kd.int .i64) w E5 l0_2.length l0_2) (hc0_2 : l0_2.length ≤ E6) (hr0_3 : Kd.C (Kd.int .i64) w E7 l0_3.length l0_3) (hc0_3 : l0_3.length ≤ E8) (hr0_4 : Kd.C (Kd.int .i64) w E9 l0_4.length l0_4) (hc0_4 : l0_4.length ≤ F0) (h : dA.f k a0_0 a0_1 l0_2 l0_3 l0_4 a1 = some (r1, r2, r3, r4, r5, r6)) :
  Calls Tryz.prog 18 #[.agg #[.int .i64 a0_0, .int .i64 a0_1, .slice E5 l0_2.length E6, .slice E7 l0_3.length E8, .slice E9 l0_4.length F0], .int .i64 a1] w fun e w' => ∃ v2_ v3_ v4_ : Value, e = .returned (.tuple #[.agg #[.int .i64 r1, .int .i64 r2, v2_, v3_, v4_], .int .i64 r6]) ∧ Kd.R (Kd.int .i64) 2 w' w.heap.size (fun k_ => some k_ ≠ (v3_ : Value).ownBlock ∧ some k_ ≠ (v4_ : Value).ownBlock) v2_ r3 ∧ Kd.R (Kd.int .i64) 2 w' w.heap.size (fun k_ => some k_ ≠ (v2_ : Value).ownBlock ∧ some k_ ≠ (v4_ : Value).ownBlock) v3_ r4 ∧ Kd.R (Kd.int .i64) 2 w' w.heap.size (fun k_ => some k_ ≠ (v2_ : Value).ownBlock ∧ some k_ ≠ (v3_ : Value).ownBlock) v4_ r5 ∧ Below w.heap.size w w' := by
 have hu28 := Tryz.underlying28
 have G0 := a_ hr0_2
 have G1 := a_ hc0_2
 clear hr0_2 hc0_2
 have G2 := a_ hr0_3
 have G3 := a_ hc0_3
 clear hr0_3 hc0_3
 have HR0_4 := a_ hr0_4
 have G4 := a_ hc0_4
 clear hr0_4 hc0_4
 have HB := a_ (Below.refl w.heap.size w)
 have H : ((aK.f k a0_0 a0_1 l0_2 l0_3 l0_4).bind fun H3 => (if H3 = true then ((gF.f a1 (-1000000000) 1000000000).bind fun G6 => (if G6 = true then ((bz.f k l0_2 a1).bind fun E2 => ((bz.f k l0_3 a1).bind fun E3 => ((gG.f l0_4).bind fun E4 => ((aK.f k a0_0 a0_1 E2 E3 E4).bind fun F3 => (if F3 = true then (some (a0_0, a0_1, E2, E3, E4, 0)) else (some (0, 0, ([] : List Int), ([] : List Int), ([] : List Int), 3))))))) else (some (0, 0, ([] : List Int), ([] : List Int), ([] : List Int), 2)))) else (some (0, 0, ([] : List Int), ([] : List Int), ([] : List Int), 1)))) = some (r1, r2, r3, r4, r5, r6) := h
 clear h
 replace H := bo_ H; obtain ⟨H3, A3, H⟩ := H; (try dsimp only at H)
 by_cases c4 : H3 = true
 ·subst c4
  have H1 : ((gF.f a1 (-1000000000) 1000000000).bind fun G6 => (if G6 = true then ((bz.f k l0_2 a1).bind fun E2 => ((bz.f k l0_3 a1).bind fun E3 => ((gG.f l0_4).bind fun E4 => ((aK.f k a0_0 a0_1 E2 E3 E4).bind fun F3 => (if F3 = true then (some (a0_0, a0_1, E2, E3, E4, 0)) else (some (0, 0, ([] : List Int), ([] : List Int), ([] : List Int), 3))))))) else (some (0, 0, ([] : List Int), ([] : List Int), ([] : List Int), 2)))) = some (r1, r2, r3, r4, r5, r6) := by rw [if_pos rfl] at H; exact H
  clear H
  have H := H1
  clear H1
  replace H := bo_ H; obtain ⟨G6, A5, H⟩ := H; (try dsimp only at H)
  by_cases c6 : G6 = true
  ·subst c6
   have H1 : ((bz.f k l0_2 a1).bind fun E2 => ((bz.f k l0_3 a1).bind fun E3 => ((gG.f l0_4).bind fun E4 => ((aK.f k a0_0 a0_1 E2 E3 E4).bind fun F3 => (if F3 = true then (some (a0_0, a0_1, E2, E3, E4, 0)) else (some (0, 0, ([] : List Int), ([] : List Int), ([] : List Int), 3))))))) = some (r1, r2, r3, r4, r5, r6) := by rw [if_pos rfl] at H; exact H
   clear H
   have H := H1
   clear H1
   replace H := bo_ H; obtain ⟨E2, A7, H⟩ := H; (try dsimp only at H)
   replace H := bo_ H; obtain ⟨E3, A8, H⟩ := H; (try dsimp only at H)
   replace H := bo_ H; obtain ⟨E4, A9, H⟩ := H; (try dsimp only at H)
   replace H := bo_ H; obtain ⟨F3, V1, H⟩ := H; (try dsimp only at H)
   have HHm_ := a_ H
   clear H
   go_enter Tryz.func18, Tryz.ntmps18
   try go_wp2_with (first | ((with_reducible refine bn (N := 2) rfl ?_); refine bG ?hg (N := 2) ?hd (cs := #[.int .i64 a0_0, .int .i64 a0_1, .slice E5 l0_2.length E6, .slice E7 l0_3.length E8, .slice E9 l0_4.length F0]) (t := 28) ?hr ?_; (case hd => rfl); (case hg => rfl); (case hr => first | (go_simp; done) | (go_simp; rfl)); intro A2 hg X2 hbox hb; have A1 := a_ (hbox); have H0 := a_ ((fO : w.heap.size ≤ A2)); have GE603 := a_ ((fO : w.heap.size ≤ A2)); replace HB := cK bX hb; clear hb hbox hg) | ((with_reducible refine bn (N := 4) rfl ?_); refine bG ?hg (N := 4) ?hd (cs := #[.int .i64 0, .int .i64 0, .slice none 0 0, .slice none 0 0, .slice none 0 0]) (t := 28) ?hr ?_; (case hd => rfl); (case hg => rfl); (case hr => first | (go_simp; done) | (go_simp; rfl)); intro D0 hg V8 hbox hb; have B4 := a_ (hbox); have H2 := a_ ((xL : w.heap.size ≤ D0)); have GE604 := a_ ((xL : w.heap.size ≤ D0)); replace HB := cK Bp hb; have F1 := a_ ((by rw [hg]; exact Nat.ne_of_lt (dI (g := A2) (rb_ A1.out)) : A2 ≠ D0)); have F2 := a_ ((by rw [hg]; exact Nat.ne_of_gt (dI (g := A2) (rb_ A1.out)) : D0 ≠ A2)); replace A1 := bb_ A2 A1 hb; clear hb hbox hg; have hnb14 := F1.out; have hnc14 := F2.out; obtain ⟨J2, J3, J4, J5, J6, J7, J8, J9, K0, K1⟩ := eU (w := V8) A1.out) | ((with_reducible refine av (f := 21) rfl ?_); refine bJ (some 8) rfl rfl Tryz.func21 (by kernel_rfl) rfl #[.agg #[.int .i64 a0_0, .int .i64 a0_1, .slice E5 l0_2.length E6, .slice E7 l0_3.length E8, .slice E9 l0_4.length F0]] rfl dN ?_; (with_reducible refine (aK.calls k a0_0 a0_1 _ _ l0_2 _ _ l0_3 _ _ l0_4 true _ ?side1 ?side2 ?side3 ?side4 ?side5 ?side6 A3.out).mono ?_); (case side1 => exact kc_ (Kd.bT G0.out HB.out)); (case side2 => exact G1.out); (case side3 => exact kc_ (Kd.bT G2.out HB.out)); (case side4 => exact G3.out); (case side5 => exact kc_ (Kd.bT HR0_4.out HB.out)); (case side6 => exact G4.out); rintro e H4 ⟨rfl, hb⟩; refine ⟨_, rfl, ?_⟩; replace A1 := bb_ A2 A1 hb; replace B4 := bb_ D0 B4 hb; replace HB := cK lV hb; (try clear hb)) | ((with_reducible refine av (f := 57) rfl ?_); refine bJ (some 12) rfl rfl Tryz.func57 (by kernel_rfl) rfl #[.int .i64 a1, .int .i64 (-1000000000), .int .i64 1000000000] rfl dN ?_; (with_reducible refine (gF.calls a1 (-1000000000) 1000000000 true _ A5.out).mono ?_); rintro e w' ⟨rfl, ⟨nd, rfl⟩⟩; refine ⟨_, rfl, ?_⟩; (try (rw [jq H4]; generalize hq_ : World.drewN H4 _ = H4; have n0_ : af (H4.heap[A2]? = some (.cells #[.int .i64 a0_0, .int .i64 a0_1, .slice E5 l0_2.length E6, .slice E7 l0_3.length E8, .slice E9 l0_4.length F0] 28 (0, 0))) := ⟨by rw [← hq_]; exact (rb_ A1.out)⟩; have n1_ : af (H4.heap[D0]? = some (.cells #[.int .i64 0, .int .i64 0, .slice none 0 0, .slice none 0 0, .slice none 0 0] 28 (0, 0))) := ⟨by rw [← hq_]; exact (rb_ B4.out)⟩; have n2_ : af (Below w.heap.size w H4) := ⟨by rw [← hq_]; exact lV⟩; clear A1 B4 HB hq_; have A1 := n0_; have B4 := n1_; have HB := n2_; clear n0_ n1_ n2_))))
   replace A1 := a_ (bv A1.out)
   replace B4 := a_ (bv B4.out)
   replace HB := a_ (aM HB.out)
   refine gW (n := 18) (S := fun w' => True) (ds := []) #[false, false, false, false, false, false, false, false, false, false, false, false, false, false, false, false, false, false] (by kernel_rfl) rfl rfl trivial (fun hHeld => ?_); refine fq dA.vP dA.qU (fun HT_ HW_ => ?_)
   generalize H4.drew = X3 at A1 B4 HB hHeld ⊢
   refine pv_ 0 (some 15) ?_
   refine pv_ 2 (some 17) ?_
   refine pv_ 4 (some 19) ?_
   refine pv_ 6 (some 21) ?_
   refine pv_ 8 (some 23) ?_
   refine pv_ 10 (some 25) ?_
   refine pv_ 12 (some 27) ?_
   refine uf [1, 3, 5, 7, 9, 11, 13, 14, 15, 16, 17] (fun a0_ b a w' => ∃ (D6 : Value) (D7 : Value) (D8 : Value) (gb616 : Nat) (m15_ : Value) (m16_ : Value), a = gI a0_ b [(1, 16, .int .i64 a0_0), (3, 18, .int .i64 a0_1), (5, 20, .slice E5 l0_2.length E6), (7, 22, D6), (9, 24, .slice E7 l0_3.length E8), (11, 26, D7), (13, 28, .slice E9 l0_4.length F0), (14, 29, D8), (15, 30, m15_), (16, 6, m16_)] ∧ (w'.heap[A2]? = some (.cells #[.int .i64 a0_0, .int .i64 a0_1, .slice E5 l0_2.length E6, .slice E7 l0_3.length E8, .slice E9 l0_4.length F0] 28 (0, 0))) ∧ (w'.heap[D0]? = some (.cells #[.int .i64 0, .int .i64 0, .slice none 0 0, .slice none 0 0, .slice none 0 0] 28 (0, 0))) ∧ (Below w.heap.size w w') ∧ (b 7 = true → Kd.R (Kd.int .i64) 2 w' w.heap.size (fun _ => True) D6 E2) ∧ (b 11 = true → Kd.R (Kd.int .i64) 2 w' w.heap.size (fun _ => True) D7 E3) ∧ (b 14 = true → Kd.R (Kd.int .i64) 2 w' w.heap.size (fun _ => True) D8 E4) ∧ (b 16 = true → b 17 = false → w'.heap[gb616]? = some (.cells #[.int .i64 0, .int .i64 0, .slice none 0 0, .slice none 0 0, .slice none 0 0] 28 (0, 0))) ∧ (b 16 = true → w.heap.size ≤ gb616) ∧ (b 16 = true → w.heap.size ≤ gb616) ∧ (b 16 = true → A2 ≠ gb616) ∧ (b 16 = true → gb616 ≠ A2) ∧ (b 16 = true → D0 ≠ gb616) ∧ (b 16 = true → gb616 ≠ D0) ∧ (b 17 = true → w'.heap[gb616]? = some (.cells #[.int .i64 a0_0, .int .i64 a0_1, D6, D7, D8] 28 (0, 0))) ∧ (b 15 = true → (m15_ : Value) = .agg #[.int .i64 a0_0, .int .i64 a0_1, D6, D7, D8]) ∧ (b 16 = true → (m16_ : Value) = .pointer (some ⟨gb616, 0, none⟩)) ∧ (b 7 = true → b 11 = true → ∀ k_ : Nat, (D6 : Value).ownBlock = some k_ → (D7 : Value).ownBlock ≠ some k_) ∧ (b 7 = true → b 14 = true → ∀ k_ : Nat, (D6 : Value).ownBlock = some k_ → (D8 : Value).ownBlock ≠ some k_) ∧ (b 11 = true → b 14 = true → ∀ k_ : Nat, (D7 : Value).ownBlock = some k_ → (D8 : Value).ownBlock ≠ some k_)) HT_.out HW_.out (by kernel_rfl) (by kernel_rfl) ?_ ?_ ?_
   ·exact ⟨.bool false, .bool false, .bool false, 0, .bool false, .bool false, by simp only [gI, Bool.false_eq_true, if_false], A1.out, B4.out, HB.out, fun h_ => absurd h_ (by decide), fun h_ => absurd h_ (by decide), fun h_ => absurd h_ (by decide), fun h_ => absurd h_ (by decide), fun h_ => absurd h_ (by decide), fun h_ => absurd h_ (by decide), fun h_ => absurd h_ (by decide), fun h_ => absurd h_ (by decide), fun h_ => absurd h_ (by decide), fun h_ => absurd h_ (by decide), fun h_ => absurd h_ (by decide), fun h_ => absurd h_ (by decide), fun h_ => absurd h_ (by decide), fun h_ => absurd h_ (by decide), fun h_ => absurd h_ (by decide), fun h_ => absurd h_ (by decide)⟩
   ·skip
    clear A1 B4 HB
    refine dM ?_ ?_
    ·rintro b a w' ⟨D6, D7, D8, gb616, m15_, m16_, ha, C0, C1, Q_HB, C4, C6, C9, Q_BK616, C7, C8, A4, A6, B0, B3, C5, Q_X15_, Q_X16_, C2, C3, B7⟩ hb_ hon hoff
     refine ⟨_, rfl, fun K hK => ?_⟩
     have X4 : a.tmps[15]? = some (.pointer (some ⟨A2, 0, none⟩)) := by rw [ha]; exact (eD rfl).trans rfl
     replace ha := a_ ha
     have A1 := a_ C0
     have B4 := a_ C1
     have HB := a_ Q_HB
     have hc0_ : w'.cell? ⟨A2, 0, none⟩ = some (.int .i64 a0_0) := (aa A1.out 0).trans rfl
     have hc1_ : w'.cell? ⟨A2, 1, none⟩ = some (.int .i64 a0_1) := (aa A1.out 1).trans rfl
     have hc2_ : w'.cell? ⟨A2, 2, none⟩ = some (.slice E5 l0_2.length E6) := (aa A1.out 2).trans rfl
     have hc3_ : w'.cell? ⟨A2, 3, none⟩ = some (.slice E7 l0_3.length E8) := (aa A1.out 3).trans rfl
     have hc4_ : w'.cell? ⟨A2, 4, none⟩ = some (.slice E9 l0_4.length F0) := (aa A1.out 4).trans rfl
     refine ji (w1 := w') (v := .int .i64 a0_0) (by rfl) rfl ?_ ?_
     ·go_simp
      (try simp only [eX])
      try rfl
      (try (first | done | omega | (simp only [decide_eq_true_eq] at *; omega)))
     refine hK.out _ _ ⟨D6, D7, D8, gb616, m15_, m16_, (by rw [ha.out]; exact dU 0 hb_ rfl rfl rfl), C0, C1, Q_HB, C4, C6, C9, Q_BK616, C7, C8, A4, A6, B0, B3, fun h0_ => absurd ((hoff 17 (by kernel_rfl)).symm.trans h0_) (by decide), fun h0_ => absurd ((hoff 15 (by kernel_rfl)).symm.trans h0_) (by decide), Q_X16_, C2, C3, B7⟩
    refine dM ?_ ?_
    ·rintro b a w' ⟨D6, D7, D8, gb616, m15_, m16_, ha, C0, C1, Q_HB, C4, C6, C9, Q_BK616, C7, C8, A4, A6, B0, B3, C5, Q_X15_, Q_X16_, C2, C3, B7⟩ hb_ hon hoff
     refine ⟨_, rfl, fun K hK => ?_⟩
     have X5 : a.tmps[17]? = some (.pointer (some ⟨A2, 1, none⟩)) := by rw [ha]; exact (eD rfl).trans rfl
     replace ha := a_ ha
     have A1 := a_ C0
     have B4 := a_ C1
     have HB := a_ Q_HB
     have hc0_ : w'.cell? ⟨A2, 0, none⟩ = some (.int .i64 a0_0) := (aa A1.out 0).trans rfl
     have hc1_ : w'.cell? ⟨A2, 1, none⟩ = some (.int .i64 a0_1) := (aa A1.out 1).trans rfl
     have hc2_ : w'.cell? ⟨A2, 2, none⟩ = some (.slice E5 l0_2.length E6) := (aa A1.out 2).trans rfl
     have hc3_ : w'.cell? ⟨A2, 3, none⟩ = some (.slice E7 l0_3.length E8) := (aa A1.out 3).trans rfl
     have hc4_ : w'.cell? ⟨A2, 4, none⟩ = some (.slice E9 l0_4.length F0) := (aa A1.out 4).trans rfl
     refine ji (w1 := w') (v := .int .i64 a0_1) (by rfl) rfl ?_ ?_
     ·go_simp
      (try simp only [eX])
      try rfl
      (try (first | done | omega | (simp only [decide_eq_true_eq] at *; omega)))
     refine hK.out _ _ ⟨D6, D7, D8, gb616, m15_, m16_, (by rw [ha.out]; exact dU 1 hb_ rfl rfl rfl), C0, C1, Q_HB, C4, C6, C9, Q_BK616, C7, C8, A4, A6, B0, B3, fun h0_ => absurd ((hoff 17 (by kernel_rfl)).symm.trans h0_) (by decide), fun h0_ => absurd ((hoff 15 (by kernel_rfl)).symm.trans h0_) (by decide), Q_X16_, C2, C3, B7⟩
    refine dM ?_ ?_
    ·rintro b a w' ⟨D6, D7, D8, gb616, m15_, m16_, ha, C0, C1, Q_HB, C4, C6, C9, Q_BK616, C7, C8, A4, A6, B0, B3, C5, Q_X15_, Q_X16_, C2, C3, B7⟩ hb_ hon hoff
     refine ⟨_, rfl, fun K hK => ?_⟩
     have X6 : a.tmps[19]? = some (.pointer (some ⟨A2, 2, none⟩)) := by rw [ha]; exact (eD rfl).trans rfl
     replace ha := a_ ha
     have A1 := a_ C0
     have B4 := a_ C1
     have HB := a_ Q_HB
     have hc0_ : w'.cell? ⟨A2, 0, none⟩ = some (.int .i64 a0_0) := (aa A1.out 0).trans rfl
     have hc1_ : w'.cell? ⟨A2, 1, none⟩ = some (.int .i64 a0_1) := (aa A1.out 1).trans rfl
     have hc2_ : w'.cell? ⟨A2, 2, none⟩ = some (.slice E5 l0_2.length E6) := (aa A1.out 2).trans rfl
     have hc3_ : w'.cell? ⟨A2, 3, none⟩ = some (.slice E7 l0_3.length E8) := (aa A1.out 3).trans rfl
     have hc4_ : w'.cell? ⟨A2, 4, none⟩ = some (.slice E9 l0_4.length F0) := (aa A1.out 4).trans rfl
     refine ji (w1 := w') (v := .slice E5 l0_2.length E6) (by rfl) rfl ?_ ?_
     ·go_simp
      (try simp only [eX])
      try rfl
      (try (first | done | omega | (simp only [decide_eq_true_eq] at *; omega)))
     refine hK.out _ _ ⟨D6, D7, D8, gb616, m15_, m16_, (by rw [ha.out]; exact dU 2 hb_ rfl rfl rfl), C0, C1, Q_HB, fun h0_ => absurd ((hoff 7 (by kernel_rfl)).symm.trans h0_) (by decide), fun h0_ => absurd ((hoff 11 (by kernel_rfl)).symm.trans h0_) (by decide), fun h0_ => absurd ((hoff 14 (by kernel_rfl)).symm.trans h0_) (by decide), Q_BK616, C7, C8, A4, A6, B0, B3, fun h0_ => absurd ((hoff 17 (by kernel_rfl)).symm.trans h0_) (by decide), fun h0_ => absurd ((hoff 15 (by kernel_rfl)).symm.trans h0_) (by decide), Q_X16_, C2, C3, B7⟩
    refine dM ?_ ?_
    ·rintro b a w' ⟨D6, D7, D8, gb616, m15_, m16_, ha, C0, C1, Q_HB, C4, C6, C9, Q_BK616, C7, C8, A4, A6, B0, B3, C5, Q_X15_, Q_X16_, C2, C3, B7⟩ hb_ hon hoff
     refine ⟨_, rfl, fun K hK => ?_⟩
     have V2 : a.tmps[20]? = some (.slice E5 l0_2.length E6) := by rw [ha]; exact eu (e := (5, 20, .slice E5 l0_2.length E6)) 2 rfl rfl (hon 5 (by kernel_rfl)) rfl
     have V3 : a.tmps[21]? = some (.int .i64 a1) := by rw [ha]; exact (eD rfl).trans rfl
     replace ha := a_ ha
     have A1 := a_ C0
     have B4 := a_ C1
     have HB := a_ Q_HB
     refine iQ Tryz.func58 (by kernel_rfl) rfl #[.slice E5 l0_2.length E6, .int .i64 a1] (by rfl) rfl rfl (by first | (simp only [List.map_toArray, List.map_cons, List.map_nil, Act.eval, Array.getD_eq_getD_getElem?, Option.getD_some, V2, V3]; done) | (simp only [List.map_toArray, List.map_cons, List.map_nil, Act.eval, Array.getD_eq_getD_getElem?, Option.getD_some, V2, V3]; rfl)) ?_
     with_reducible refine (bz.calls k _ _ l0_2 a1 E2 _ ?side1 ?side2 A7.out).mono ?_
     (case side1 => exact kc_ (Kd.bT G0.out HB.out))
     (case side2 => exact G1.out)
     rintro e J1 ⟨D6, rfl, ho0, hb⟩
     refine ⟨_, rfl, ?_⟩
     have n0_ := a_ (Kd.bE ho0 (ai lV))
     have n1_ := bb_ A2 A1 hb
     have n2_ := bb_ D0 B4 hb
     have n3_ := cK lV hb
     have z_BK616 := fun (h0_ : b 16 = true) (h1_ : b 17 = false) => (show J1.heap[gb616]? = some (.cells #[.int .i64 0, .int .i64 0, .slice none 0 0, .slice none 0 0, .slice none 0 0] 28 (0, 0)) from z6_)
     clear A1; clear B4; clear HB
     have D1 := n0_
     have A1 := n1_
     have B4 := n2_
     have HB := n3_
     clear n0_ n1_ n2_ n3_
     have z_NE7_11 := fun (h1_ : b 11 = true) (k_ : Nat) (hk_ : (D6 : Value).ownBlock = some k_) (hk2_ : (D7 : Value).ownBlock = some k_) => (Nat.not_lt.mpr (Kd.aH ho0 k_ hk_)) (Kd.df (C6 h1_) k_ hk2_)
     have z_NE7_14 := fun (h1_ : b 14 = true) (k_ : Nat) (hk_ : (D6 : Value).ownBlock = some k_) (hk2_ : (D8 : Value).ownBlock = some k_) => (Nat.not_lt.mpr (Kd.aH ho0 k_ hk_)) (Kd.df (C9 h1_) k_ hk2_)
     (try clear hb)
     (try clear hb2)
     (try clear hk)
     (try clear hi)
     (try clear ho0)
     refine hK.out _ _ ⟨D6, D7, D8, gb616, m15_, m16_, (by rw [ha.out]; exact dU 3 hb_ rfl rfl rfl), (rb_ A1.out), (rb_ B4.out), lV, fun _ => Kd.ae (ra_ D1.out) (fun _ _ => trivial), fun h0_ => absurd ((hoff 11 (by kernel_rfl)).symm.trans h0_) (by decide), fun h0_ => absurd ((hoff 14 (by kernel_rfl)).symm.trans h0_) (by decide), z_BK616, C7, C8, A4, A6, B0, B3, fun h0_ => absurd ((hoff 17 (by kernel_rfl)).symm.trans h0_) (by decide), fun h0_ => absurd ((hoff 15 (by kernel_rfl)).symm.trans h0_) (by decide), Q_X16_, fun _ h1_ => z_NE7_11 h1_, fun _ h1_ => z_NE7_14 h1_, B7⟩
    refine dM ?_ ?_
    ·rintro b a w' ⟨D6, D7, D8, gb616, m15_, m16_, ha, C0, C1, Q_HB, C4, C6, C9, Q_BK616, C7, C8, A4, A6, B0, B3, C5, Q_X15_, Q_X16_, C2, C3, B7⟩ hb_ hon hoff
     refine ⟨_, rfl, fun K hK => ?_⟩
     have X7 : a.tmps[23]? = some (.pointer (some ⟨A2, 3, none⟩)) := by rw [ha]; exact (eD rfl).trans rfl
     replace ha := a_ ha
     have A1 := a_ C0
     have B4 := a_ C1
     have HB := a_ Q_HB
     have hc0_ : w'.cell? ⟨A2, 0, none⟩ = some (.int .i64 a0_0) := (aa A1.out 0).trans rfl
     have hc1_ : w'.cell? ⟨A2, 1, none⟩ = some (.int .i64 a0_1) := (aa A1.out 1).trans rfl
     have hc2_ : w'.cell? ⟨A2, 2, none⟩ = some (.slice E5 l0_2.length E6) := (aa A1.out 2).trans rfl
     have hc3_ : w'.cell? ⟨A2, 3, none⟩ = some (.slice E7 l0_3.length E8) := (aa A1.out 3).trans rfl
     have hc4_ : w'.cell? ⟨A2, 4, none⟩ = some (.slice E9 l0_4.length F0) := (aa A1.out 4).trans rfl
     refine ji (w1 := w') (v := .slice E7 l0_3.length E8) (by rfl) rfl ?_ ?_
     ·go_simp
      (try simp only [eX])
      try rfl
      (try (first | done | omega | (simp only [decide_eq_true_eq] at *; omega)))
     refine hK.out _ _ ⟨D6, D7, D8, gb616, m15_, m16_, (by rw [ha.out]; exact dU 4 hb_ rfl rfl rfl), C0, C1, Q_HB, C4, fun h0_ => absurd ((hoff 11 (by kernel_rfl)).symm.trans h0_) (by decide), fun h0_ => absurd ((hoff 14 (by kernel_rfl)).symm.trans h0_) (by decide), Q_BK616, C7, C8, A4, A6, B0, B3, fun h0_ => absurd ((hoff 17 (by kernel_rfl)).symm.trans h0_) (by decide), fun h0_ => absurd ((hoff 15 (by kernel_rfl)).symm.trans h0_) (by decide), Q_X16_, C2, C3, B7⟩
    refine dM ?_ ?_
    ·rintro b a w' ⟨D6, D7, D8, gb616, m15_, m16_, ha, C0, C1, Q_HB, C4, C6, C9, Q_BK616, C7, C8, A4, A6, B0, B3, C5, Q_X15_, Q_X16_, C2, C3, B7⟩ hb_ hon hoff
     refine ⟨_, rfl, fun K hK => ?_⟩
     have V4 : a.tmps[24]? = some (.slice E7 l0_3.length E8) := by rw [ha]; exact eu (e := (9, 24, .slice E7 l0_3.length E8)) 4 rfl rfl (hon 9 (by kernel_rfl)) rfl
     have V5 : a.tmps[25]? = some (.int .i64 a1) := by rw [ha]; exact (eD rfl).trans rfl
     replace ha := a_ ha
     have A1 := a_ C0
     have B4 := a_ C1
     have HB := a_ Q_HB
     have D1 := a_ (C4 (hon 7 (by kernel_rfl)))
     refine iQ Tryz.func58 (by kernel_rfl) rfl #[.slice E7 l0_3.length E8, .int .i64 a1] (by rfl) rfl rfl (by first | (simp only [List.map_toArray, List.map_cons, List.map_nil, Act.eval, Array.getD_eq_getD_getElem?, Option.getD_some, V4, V5]; done) | (simp only [List.map_toArray, List.map_cons, List.map_nil, Act.eval, Array.getD_eq_getD_getElem?, Option.getD_some, V4, V5]; rfl)) ?_
     with_reducible refine (bz.calls k _ _ l0_3 a1 E3 _ ?side1 ?side2 A8.out).mono ?_
     (case side1 => exact kc_ (Kd.bT G2.out HB.out))
     (case side2 => exact G3.out)
     rintro e V9 ⟨D7, rfl, ho0, hb⟩
     refine ⟨_, rfl, ?_⟩
     have n0_ := a_ (Kd.bC (ra_ D1.out) (Kd.aH ho0) hb)
     have n1_ := a_ (Kd.bE (Kd.bq ho0 (Kd.df (ra_ D1.out))) (ai lV))
     have n2_ := bb_ A2 A1 hb
     have n3_ := bb_ D0 B4 hb
     have n4_ := cK lV hb
     have z_BK616 := fun (h0_ : b 16 = true) (h1_ : b 17 = false) => (show V9.heap[gb616]? = some (.cells #[.int .i64 0, .int .i64 0, .slice none 0 0, .slice none 0 0, .slice none 0 0] 28 (0, 0)) from z6_)
     clear D1; clear A1; clear B4; clear HB
     have D1 := n0_
     have D9 := n1_
     have A1 := n2_
     have B4 := n3_
     have HB := n4_
     clear n0_ n1_ n2_ n3_ n4_
     have z_NE7_11 := fun (h1_ : b 7 = true) (k_ : Nat) (hk_ : (D6 : Value).ownBlock = some k_) (hk2_ : (D7 : Value).ownBlock = some k_) => (Nat.not_lt.mpr (Kd.aH ho0 k_ hk2_)) (Kd.df (C4 h1_) k_ hk_)
     have z_NE11_14 := fun (h1_ : b 14 = true) (k_ : Nat) (hk_ : (D7 : Value).ownBlock = some k_) (hk2_ : (D8 : Value).ownBlock = some k_) => (Nat.not_lt.mpr (Kd.aH ho0 k_ hk_)) (Kd.df (C9 h1_) k_ hk2_)
     (try clear hb)
     (try clear hb2)
     (try clear hk)
     (try clear hi)
     (try clear ho0)
     refine hK.out _ _ ⟨D6, D7, D8, gb616, m15_, m16_, (by rw [ha.out]; exact dU 5 hb_ rfl rfl rfl), (rb_ A1.out), (rb_ B4.out), lV, fun _ => Kd.ae (rc_ (h := by exact Kd.ae D1.out (fun _ hk => hk.2))) (fun _ _ => trivial), fun _ => Kd.ae (rc_ (h := by exact Kd.ae D9.out (fun _ hk => hk.2))) (fun _ _ => trivial), fun h0_ => absurd ((hoff 14 (by kernel_rfl)).symm.trans h0_) (by decide), z_BK616, C7, C8, A4, A6, B0, B3, fun h0_ => absurd ((hoff 17 (by kernel_rfl)).symm.trans h0_) (by decide), fun h0_ => absurd ((hoff 15 (by kernel_rfl)).symm.trans h0_) (by decide), Q_X16_, fun h1_ _ => z_NE7_11 h1_, C3, fun _ h1_ => z_NE11_14 h1_⟩
    refine dM ?_ ?_
    ·rintro b a w' ⟨D6, D7, D8, gb616, m15_, m16_, ha, C0, C1, Q_HB, C4, C6, C9, Q_BK616, C7, C8, A4, A6, B0, B3, C5, Q_X15_, Q_X16_, C2, C3, B7⟩ hb_ hon hoff
     refine ⟨_, rfl, fun K hK => ?_⟩
     have X8 : a.tmps[27]? = some (.pointer (some ⟨A2, 4, none⟩)) := by rw [ha]; exact (eD rfl).trans rfl
     replace ha := a_ ha
     have A1 := a_ C0
     have B4 := a_ C1
     have HB := a_ Q_HB
     have hc0_ : w'.cell? ⟨A2, 0, none⟩ = some (.int .i64 a0_0) := (aa A1.out 0).trans rfl
     have hc1_ : w'.cell? ⟨A2, 1, none⟩ = some (.int .i64 a0_1) := (aa A1.out 1).trans rfl
     have hc2_ : w'.cell? ⟨A2, 2, none⟩ = some (.slice E5 l0_2.length E6) := (aa A1.out 2).trans rfl
     have hc3_ : w'.cell? ⟨A2, 3, none⟩ = some (.slice E7 l0_3.length E8) := (aa A1.out 3).trans rfl
     have hc4_ : w'.cell? ⟨A2, 4, none⟩ = some (.slice E9 l0_4.length F0) := (aa A1.out 4).trans rfl
     refine ji (w1 := w') (v := .slice E9 l0_4.length F0) (by rfl) rfl ?_ ?_
     ·go_simp
      (try simp only [eX])
      try rfl
      (try (first | done | omega | (simp only [decide_eq_true_eq] at *; omega)))
     refine hK.out _ _ ⟨D6, D7, D8, gb616, m15_, m16_, (by rw [ha.out]; exact dU 6 hb_ rfl rfl rfl), C0, C1, Q_HB, C4, C6, fun h0_ => absurd ((hoff 14 (by kernel_rfl)).symm.trans h0_) (by decide), Q_BK616, C7, C8, A4, A6, B0, B3, fun h0_ => absurd ((hoff 17 (by kernel_rfl)).symm.trans h0_) (by decide), fun h0_ => absurd ((hoff 15 (by kernel_rfl)).symm.trans h0_) (by decide), Q_X16_, C2, C3, B7⟩
    refine dM ?_ ?_
    ·rintro b a w' ⟨D6, D7, D8, gb616, m15_, m16_, ha, C0, C1, Q_HB, C4, C6, C9, Q_BK616, C7, C8, A4, A6, B0, B3, C5, Q_X15_, Q_X16_, C2, C3, B7⟩ hb_ hon hoff
     refine ⟨_, rfl, fun K hK => ?_⟩
     have V6 : a.tmps[28]? = some (.slice E9 l0_4.length F0) := by rw [ha]; exact eu (e := (13, 28, .slice E9 l0_4.length F0)) 6 rfl rfl (hon 13 (by kernel_rfl)) rfl
     replace ha := a_ ha
     have A1 := a_ C0
     have B4 := a_ C1
     have HB := a_ Q_HB
     have D1 := a_ (C4 (hon 7 (by kernel_rfl)))
     have D9 := a_ (C6 (hon 11 (by kernel_rfl)))
     refine iQ Tryz.func59 (by kernel_rfl) rfl #[.slice E9 l0_4.length F0] (by rfl) rfl rfl (by first | (simp only [List.map_toArray, List.map_cons, List.map_nil, Act.eval, Array.getD_eq_getD_getElem?, Option.getD_some, V6]; done) | (simp only [List.map_toArray, List.map_cons, List.map_nil, Act.eval, Array.getD_eq_getD_getElem?, Option.getD_some, V6]; rfl)) ?_
     with_reducible refine (gG.calls _ _ l0_4 E4 _ ?side1 ?side2 A9.out).mono ?_
     (case side1 => exact kc_ (Kd.bT HR0_4.out HB.out))
     (case side2 => exact G4.out)
     rintro e W0 ⟨D8, rfl, ho0, hb⟩
     refine ⟨_, rfl, ?_⟩
     have n0_ := a_ (Kd.bC (ra_ D1.out) (Kd.aH ho0) hb)
     have n1_ := a_ (Kd.bC (ra_ D9.out) (Kd.aH ho0) hb)
     have n2_ := a_ (Kd.bE (Kd.bq (Kd.bq ho0 (Kd.df (ra_ D1.out))) (Kd.df (ra_ D9.out))) (ai lV))
     have n3_ := bb_ A2 A1 hb
     have n4_ := bb_ D0 B4 hb
     have n5_ := cK lV hb
     have z_BK616 := fun (h0_ : b 16 = true) (h1_ : b 17 = false) => (show W0.heap[gb616]? = some (.cells #[.int .i64 0, .int .i64 0, .slice none 0 0, .slice none 0 0, .slice none 0 0] 28 (0, 0)) from z6_)
     clear D1; clear D9; clear A1; clear B4; clear HB
     have D1 := n0_
     have D9 := n1_
     have E1 := n2_
     have A1 := n3_
     have B4 := n4_
     have HB := n5_
     clear n0_ n1_ n2_ n3_ n4_ n5_
     have z_NE7_14 := fun (h1_ : b 7 = true) (k_ : Nat) (hk_ : (D6 : Value).ownBlock = some k_) (hk2_ : (D8 : Value).ownBlock = some k_) => (Nat.not_lt.mpr (Kd.aH ho0 k_ hk2_)) (Kd.df (C4 h1_) k_ hk_)
     have z_NE11_14 := fun (h1_ : b 11 = true) (k_ : Nat) (hk_ : (D7 : Value).ownBlock = some k_) (hk2_ : (D8 : Value).ownBlock = some k_) => (Nat.not_lt.mpr (Kd.aH ho0 k_ hk2_)) (Kd.df (C6 h1_) k_ hk_)
     (try clear hb)
     (try clear hb2)
     (try clear hk)
     (try clear hi)
     (try clear ho0)
     obtain ⟨T7, U0, H5⟩ := Kd.bg E1.out
     (first | subst H5 | (injection H5.symm with f1_ f2_ f3_; clear f2_ H5; subst f1_ f3_))
     obtain ⟨U1, U2, H6⟩ := Kd.bg D9.out
     (first | subst H6 | (injection H6.symm with f1_ f2_ f3_; clear f2_ H6; subst f1_ f3_))
     obtain ⟨U3, U4, H7⟩ := Kd.bg D1.out
     (first | subst H7 | (injection H7.symm with f1_ f2_ f3_; clear f2_ H7; subst f1_ f3_))
     refine hK.out _ _ ⟨.slice U3 E2.length U4, .slice U1 E3.length U2, .slice T7 E4.length U0, gb616, m15_, m16_, (by rw [ha.out]; exact dU 7 hb_ rfl rfl rfl), (rb_ A1.out), (rb_ B4.out), lV, fun _ => Kd.ae (ra_ D1.out) (fun _ _ => trivial), fun _ => Kd.ae (ra_ D9.out) (fun _ _ => trivial), fun _ => (rc_ (h := by exact Kd.ae E1.out (fun _ _ => trivial))), z_BK616, C7, C8, A4, A6, B0, B3, fun h0_ => absurd ((hoff 17 (by kernel_rfl)).symm.trans h0_) (by decide), fun h0_ => absurd ((hoff 15 (by kernel_rfl)).symm.trans h0_) (by decide), Q_X16_, C2, fun h1_ _ => z_NE7_14 h1_, fun h1_ _ => z_NE11_14 h1_⟩
    refine dM ?_ ?_
    ·rintro b a w' ⟨D6, D7, D8, gb616, m15_, m16_, ha, C0, C1, Q_HB, C4, C6, C9, Q_BK616, C7, C8, A4, A6, B0, B3, C5, Q_X15_, Q_X16_, C2, C3, B7⟩ hb_ hon hoff
     refine ⟨_, rfl, fun K hK => ?_⟩
     have X9 : a.tmps[16]? = some (.int .i64 a0_0) := by rw [ha]; exact eu (e := (1, 16, .int .i64 a0_0)) 0 rfl rfl (hon 1 (by kernel_rfl)) rfl
     have Y0 : a.tmps[18]? = some (.int .i64 a0_1) := by rw [ha]; exact eu (e := (3, 18, .int .i64 a0_1)) 1 rfl rfl (hon 3 (by kernel_rfl)) rfl
     have Y1 : a.tmps[22]? = some (D6) := by rw [ha]; exact eu (e := (7, 22, D6)) 3 rfl rfl (hon 7 (by kernel_rfl)) rfl
     have Y2 : a.tmps[26]? = some (D7) := by rw [ha]; exact eu (e := (11, 26, D7)) 5 rfl rfl (hon 11 (by kernel_rfl)) rfl
     have Y3 : a.tmps[29]? = some (D8) := by rw [ha]; exact eu (e := (14, 29, D8)) 7 rfl rfl (hon 14 (by kernel_rfl)) rfl
     replace ha := a_ ha
     have A1 := a_ C0
     have B4 := a_ C1
     have HB := a_ Q_HB
     have D1 := a_ (C4 (hon 7 (by kernel_rfl)))
     have D9 := a_ (C6 (hon 11 (by kernel_rfl)))
     have E1 := a_ (C9 (hon 14 (by kernel_rfl)))
     obtain ⟨F4, F5, eo_⟩ := Kd.bg D1.out
     subst eo_
     obtain ⟨F6, F7, eo_⟩ := Kd.bg D9.out
     subst eo_
     obtain ⟨F8, F9, eo_⟩ := Kd.bg E1.out
     subst eo_
     refine ji (w1 := w') (v := .agg #[.int .i64 a0_0, .int .i64 a0_1, .slice F4 E2.length F5, .slice F6 E3.length F7, .slice F8 E4.length F9]) (by rfl) rfl ?_ ?_
     ·go_simp
      (try simp only [eX])
      try rfl
      (try (first | done | omega | (simp only [decide_eq_true_eq] at *; omega)))
     refine hK.out _ _ ⟨.slice F4 E2.length F5, .slice F6 E3.length F7, .slice F8 E4.length F9, gb616, (.agg #[.int .i64 a0_0, .int .i64 a0_1, .slice F4 E2.length F5, .slice F6 E3.length F7, .slice F8 E4.length F9]), m16_, (by rw [ha.out]; exact dU 8 hb_ rfl rfl rfl), C0, C1, Q_HB, C4, C6, C9, Q_BK616, C7, C8, A4, A6, B0, B3, fun h0_ => absurd ((hoff 17 (by kernel_rfl)).symm.trans h0_) (by decide), fun _ => rfl, Q_X16_, C2, C3, B7⟩
    refine dM ?_ ?_
    ·rintro b a w' ⟨D6, D7, D8, gb616, m15_, m16_, ha, C0, C1, Q_HB, C4, C6, C9, Q_BK616, C7, C8, A4, A6, B0, B3, C5, Q_X15_, Q_X16_, C2, C3, B7⟩ hb_ hon hoff
     refine ⟨_, rfl, fun K hK => ?_⟩
     replace ha := a_ ha
     have A1 := a_ C0
     have B4 := a_ C1
     have HB := a_ Q_HB
     refine om ?hg (N := 6) ?hd (cs := #[.int .i64 0, .int .i64 0, .slice none 0 0, .slice none 0 0, .slice none 0 0]) (t := 28) ?hr ?_; (case hd => rfl); (case hg => rfl); (case hr => first | (go_simp; done) | (go_simp; rfl))
     intro gb616 hg J1 hbox hb
     have n0_ := bb_ A2 A1 hb
     have n1_ := bb_ D0 B4 hb
     have n2_ := cK lV hb
     have n3_ := a_ (hbox)
     have n4_ := a_ ((by rw [hg]; exact (ai lV) : w.heap.size ≤ gb616))
     have n5_ := a_ ((by rw [hg]; exact (ai lV) : w.heap.size ≤ gb616))
     have n6_ := a_ ((by rw [hg]; exact Nat.ne_of_lt (dI (g := A2) (rb_ A1.out)) : A2 ≠ gb616))
     have n7_ := a_ ((by rw [hg]; exact Nat.ne_of_gt (dI (g := A2) (rb_ A1.out)) : gb616 ≠ A2))
     have n8_ := a_ ((by rw [hg]; exact Nat.ne_of_lt (dI (g := D0) (rb_ B4.out)) : D0 ≠ gb616))
     have n9_ := a_ ((by rw [hg]; exact Nat.ne_of_gt (dI (g := D0) (rb_ B4.out)) : gb616 ≠ D0))
     have G7 := fun (h0_ : b 7 = true) => (show Kd.R (Kd.int .i64) 2 J1 w.heap.size (fun _ => True) D6 E2 from by first | exact (Kd.dF (rc_ (h := by exact C4 h0_)) hb) | exact Kd.ae (Kd.dF (rc_ (h := by exact C4 h0_)) hb) (fun _ h_ => by first | trivial | exact h_ | exact h_.1))
     have G8 := fun (h0_ : b 11 = true) => (show Kd.R (Kd.int .i64) 2 J1 w.heap.size (fun _ => True) D7 E3 from by first | exact (Kd.dF (rc_ (h := by exact C6 h0_)) hb) | exact Kd.ae (Kd.dF (rc_ (h := by exact C6 h0_)) hb) (fun _ h_ => by first | trivial | exact h_ | exact h_.1))
     have G9 := fun (h0_ : b 14 = true) => (show Kd.R (Kd.int .i64) 2 J1 w.heap.size (fun _ => True) D8 E4 from by first | exact (Kd.dF (rc_ (h := by exact C9 h0_)) hb) | exact Kd.ae (Kd.dF (rc_ (h := by exact C9 h0_)) hb) (fun _ h_ => by first | trivial | exact h_ | exact h_.1))
     clear A1; clear B4; clear HB
     have A1 := n0_
     have B4 := n1_
     have HB := n2_
     have E0 := n3_
     have G5 := n4_
     have GE616 := n5_
     have D2 := n6_
     have D4 := n7_
     have D3 := n8_
     have D5 := n9_
     clear n0_ n1_ n2_ n3_ n4_ n5_ n6_ n7_ n8_ n9_
     clear hb hbox hg
     refine hK.out _ _ ⟨D6, D7, D8, gb616, m15_, (.pointer (some ⟨gb616, 0, none⟩)), (by rw [ha.out]; exact dU 9 hb_ rfl rfl rfl), (rb_ A1.out), (rb_ B4.out), xx, G7, G8, G9, fun _ _ => (rb_ E0.out), fun _ => G5.out, fun _ => GE616.out, fun _ => D2.out, fun _ => D4.out, fun _ => D3.out, fun _ => D5.out, fun h0_ => absurd ((hoff 17 (by kernel_rfl)).symm.trans h0_) (by decide), Q_X15_, fun _ => rfl, C2, C3, B7⟩
    refine dM ?_ ?_
    ·rintro b a w' ⟨D6, D7, D8, gb616, m15_, m16_, ha, C0, C1, Q_HB, C4, C6, C9, Q_BK616, C7, C8, A4, A6, B0, B3, C5, Q_X15_, Q_X16_, C2, C3, B7⟩ hb_ hon hoff
     refine ⟨_, rfl, fun K hK => ?_⟩
     have e6 : a.tmps[6]? = some (m16_) := by rw [ha]; exact eu (e := (16, 6, m16_)) 9 rfl rfl (hon 16 (by kernel_rfl)) rfl
     rw [Q_X16_ (hon 16 (by kernel_rfl))] at e6
     have W1 : a.tmps[30]? = some (m15_) := by rw [ha]; exact eu (e := (15, 30, m15_)) 8 rfl rfl (hon 15 (by kernel_rfl)) rfl
     rw [Q_X15_ (hon 15 (by kernel_rfl))] at W1
     replace ha := a_ ha
     have A1 := a_ C0
     have B4 := a_ C1
     have HB := a_ Q_HB
     have D1 := a_ (C4 (hon 7 (by kernel_rfl)))
     have D9 := a_ (C6 (hon 11 (by kernel_rfl)))
     have E1 := a_ (C9 (hon 14 (by kernel_rfl)))
     have E0 := a_ (Q_BK616 (hon 16 (by kernel_rfl)) hb_)
     have G5 := a_ (C7 (hon 16 (by kernel_rfl)))
     have GE616 := a_ (C8 (hon 16 (by kernel_rfl)))
     have D2 := a_ (A4 (hon 16 (by kernel_rfl)))
     have D4 := a_ (A6 (hon 16 (by kernel_rfl)))
     have D3 := a_ (B0 (hon 16 (by kernel_rfl)))
     have D5 := a_ (B3 (hon 16 (by kernel_rfl)))
     obtain ⟨U5, U6, H8⟩ := Kd.bg E1.out
     (first | subst H8 | (injection H8.symm with f1_ f2_ f3_; clear f2_ H8; subst f1_ f3_))
     obtain ⟨U7, U8, H9⟩ := Kd.bg D9.out
     (first | subst H9 | (injection H9.symm with f1_ f2_ f3_; clear f2_ H9; subst f1_ f3_))
     obtain ⟨U9, V0, I0⟩ := Kd.bg D1.out
     (first | subst I0 | (injection I0.symm with f1_ f2_ f3_; clear f2_ I0; subst f1_ f3_))
     have W3 : w'.cell? ⟨gb616, 0, none⟩ = some (.int .i64 0) := (aa E0.out 0).trans rfl
     have hfs29 := bi E0.out 0
     have K2 := D2.out
     have K3 := D3.out
     have hms29_0 := D4.out
     have hms29_1 := D5.out
     have W4 : w'.cell? ⟨gb616, 1, none⟩ = some (.int .i64 0) := (aa E0.out 1).trans rfl
     have hfs30 := bi E0.out 1
     have K4 := D2.out
     have K5 := D3.out
     have hms30_0 := D4.out
     have hms30_1 := D5.out
     have W5 : w'.cell? ⟨gb616, 2, none⟩ = some (.slice none 0 0) := (aa E0.out 2).trans rfl
     have hfs31 := bi E0.out 2
     have K6 := D2.out
     have K7 := D3.out
     have hms31_0 := D4.out
     have hms31_1 := D5.out
     have W6 : w'.cell? ⟨gb616, 3, none⟩ = some (.slice none 0 0) := (aa E0.out 3).trans rfl
     have hfs32 := bi E0.out 3
     have K8 := D2.out
     have K9 := D3.out
     have hms32_0 := D4.out
     have hms32_1 := D5.out
     have W7 : w'.cell? ⟨gb616, 4, none⟩ = some (.slice none 0 0) := (aa E0.out 4).trans rfl
     have hfs33 := bi E0.out 4
     have L0 := D2.out
     have L1 := D3.out
     have hms33_0 := D4.out
     have hms33_1 := D5.out
     refine lD (w1 := ?_) (by rfl) rfl ?_ ?_
     rotate_left
     ·go_simp
      rfl
     refine hK.out _ _ ⟨.slice U9 E2.length V0, .slice U7 E3.length U8, .slice U5 E4.length U6, gb616, m15_, m16_, (by rw [ha.out]; exact lg (v := undef) rfl), (gB (h := by exact lw D2.out A1.out)), (gB (h := by exact lw D3.out B4.out)), xx, fun _ => (rc_ (h := by exact Kd.ae (bU D1.out E0.out) (fun _ _ => trivial))), fun _ => (rc_ (h := by exact Kd.ae (bU D9.out E0.out) (fun _ _ => trivial))), fun _ => (rc_ (h := by exact Kd.ae (bU E1.out E0.out) (fun _ _ => trivial))), fun _ h1_ => absurd ((kY b 17).symm.trans h1_) (by decide), fun _ => G5.out, fun _ => GE616.out, fun _ => D2.out, fun _ => D4.out, fun _ => D3.out, fun _ => D5.out, fun _ => (gB (h := by exact gK E0.out)), Q_X15_, Q_X16_, C2, C3, B7⟩
    exact mO
   rintro b a L2 hall ⟨D6, D7, D8, gb616, m15_, m16_, ha, C0, C1, Q_HB, C4, C6, C9, Q_BK616, C7, C8, A4, A6, B0, B3, C5, Q_X15_, Q_X16_, C2, C3, B7⟩
   clear A1 B4 HB
   have hb1_ := hall 1 (by kernel_rfl)
   have hb3_ := hall 3 (by kernel_rfl)
   have hb5_ := hall 5 (by kernel_rfl)
   have hb7_ := hall 7 (by kernel_rfl)
   have hb9_ := hall 9 (by kernel_rfl)
   have hb11_ := hall 11 (by kernel_rfl)
   have hb13_ := hall 13 (by kernel_rfl)
   have hb14_ := hall 14 (by kernel_rfl)
   have hb15_ := hall 15 (by kernel_rfl)
   have hb16_ := hall 16 (by kernel_rfl)
   have hb17_ := hall 17 (by kernel_rfl)
   subst ha
   obtain rfl := Q_X15_ hb15_
   obtain rfl := Q_X16_ hb16_
   simp only [gI, hb1_, hb3_, hb5_, hb7_, hb9_, hb11_, hb13_, hb14_, hb15_, hb16_, hb17_, if_true, Act.put, List.setIfInBounds_toArray, List.set_cons_zero, List.set_cons_succ]
   have A1 := a_ C0
   clear C0
   have B4 := a_ C1
   clear C1
   have HB := a_ Q_HB
   clear Q_HB
   have D1 := a_ (show Kd.R (Kd.int .i64) 2 L2 w.heap.size (fun k_ => some k_ ≠ (D7 : Value).ownBlock ∧ some k_ ≠ (D8 : Value).ownBlock) D6 E2 from Kd.iJ (Kd.fF (C4 hb7_)) (fun k_ hk_ => ⟨fun e_ => C2 hb7_ hb11_ k_ hk_ e_.symm, fun e_ => C3 hb7_ hb14_ k_ hk_ e_.symm⟩))
   have D9 := a_ (show Kd.R (Kd.int .i64) 2 L2 w.heap.size (fun k_ => some k_ ≠ (D6 : Value).ownBlock ∧ some k_ ≠ (D8 : Value).ownBlock) D7 E3 from Kd.iJ (Kd.fF (C6 hb11_)) (fun k_ hk_ => ⟨fun e_ => C2 hb7_ hb11_ k_ e_.symm hk_, fun e_ => B7 hb11_ hb14_ k_ hk_ e_.symm⟩))
   have E1 := a_ (show Kd.R (Kd.int .i64) 2 L2 w.heap.size (fun k_ => some k_ ≠ (D6 : Value).ownBlock ∧ some k_ ≠ (D7 : Value).ownBlock) D8 E4 from Kd.iJ (Kd.fF (C9 hb14_)) (fun k_ hk_ => ⟨fun e_ => C3 hb7_ hb14_ k_ e_.symm hk_, fun e_ => B7 hb11_ hb14_ k_ e_.symm hk_⟩))
   clear Q_BK616
   have G5 := a_ (C7 hb16_)
   clear C7
   have GE616 := a_ (C8 hb16_)
   clear C8
   have D2 := a_ (A4 hb16_)
   clear A4
   have D4 := a_ (A6 hb16_)
   clear A6
   have D3 := a_ (B0 hb16_)
   clear B0
   have D5 := a_ (B3 hb16_)
   clear B3
   have E0 := a_ (C5 hb17_)
   clear C5
   clear C2 C3 B7 C4 C6 C9
   clear hall hb1_ hb3_ hb5_ hb7_ hb9_ hb11_ hb13_ hb14_ hb15_ hb16_ hb17_
   obtain ⟨I1, I2, I3⟩ := Kd.bg E1.out
   (first | subst I3 | (injection I3.symm with f1_ f2_ f3_; clear f2_ I3; subst f1_ f3_))
   obtain ⟨I4, I5, I6⟩ := Kd.bg D9.out
   (first | subst I6 | (injection I6.symm with f1_ f2_ f3_; clear f2_ I6; subst f1_ f3_))
   obtain ⟨I7, I8, I9⟩ := Kd.bg D1.out
   (first | subst I9 | (injection I9.symm with f1_ f2_ f3_; clear f2_ I9; subst f1_ f3_))
   have hnb34 := D4.out
   have hnc34 := D2.out
   have hnb35 := D5.out
   have hnc35 := D3.out
   obtain ⟨L3, L4, L5, L6, L7, L8, L9, M0, M1, M2⟩ := eU (w := L2) E0.out
   by_cases c11 : F3 = true
   ·have H := HHm_.out
    clear HHm_
    subst c11
    have H1 : (some (a0_0, a0_1, E2, E3, E4, 0)) = some (r1, r2, r3, r4, r5, r6) := by rw [if_pos rfl] at H; exact H
    clear H
    have H := H1
    clear H1
    simp only [Option.some.injEq, Prod.mk.injEq] at H
    obtain ⟨rfl, rfl, rfl, rfl, rfl, rfl⟩ := H
    try go_wp2_with (first | ((with_reducible refine av (f := 21) rfl ?_); refine bJ (some 32) rfl rfl Tryz.func21 (by kernel_rfl) rfl #[.agg #[.int .i64 a0_0, .int .i64 a0_1, .slice I7 E2.length I8, .slice I4 E3.length I5, .slice I1 E4.length I2]] rfl dN ?_; (with_reducible refine (aK.calls k a0_0 a0_1 _ _ E2 _ _ E3 _ _ E4 true _ ?side1 ?side2 ?side3 ?side4 ?side5 ?side6 V1.out).mono ?_); (case side1 => exact (by (repeat (first | exact (Kd.aI D1.out).2.2 | (with_reducible refine Kd.dD ?_ _) | (with_reducible refine Kd.dH ?_ _) | (with_reducible refine Kd.dZ ?_))); first | done | fail)); (case side2 => exact (Kd.aI D1.out).2.1); (case side3 => exact (by (repeat (first | exact (Kd.aI D9.out).2.2 | (with_reducible refine Kd.dD ?_ _) | (with_reducible refine Kd.dH ?_ _) | (with_reducible refine Kd.dZ ?_))); first | done | fail)); (case side4 => exact (Kd.aI D9.out).2.1); (case side5 => exact (by (repeat (first | exact (Kd.aI E1.out).2.2 | (with_reducible refine Kd.dD ?_ _) | (with_reducible refine Kd.dH ?_ _) | (with_reducible refine Kd.dZ ?_))); first | done | fail)); (case side6 => exact (Kd.aI E1.out).2.1); rintro e V7 ⟨rfl, hb⟩; refine ⟨_, rfl, ?_⟩; replace D1 := rl_ D1 hb; replace D9 := rl_ D9 hb; replace E1 := rl_ E1 hb; replace A1 := bb_ A2 A1 hb; replace B4 := bb_ D0 B4 hb; replace E0 := bb_ gb616 E0 hb; replace HB := cK xx hb; (try clear hb); obtain ⟨M3, M4, M5, M6, M7, M8, M9, N0, N1, N2⟩ := eU (w := V7) E0.out; obtain ⟨N3, N4, N5, N6, N7, N8, N9, O0, O1, O2⟩ := eU (w := V7) B4.out))
    refine bodyPost_ret (gD rfl _ _ D0 28 #[.int .i64 a0_0, .int .i64 a0_1, .slice I7 E2.length I8, .slice I4 E3.length I5, .slice I1 E4.length I2] (0, 0) _ rfl (gB (h := by exact gK B4.out)) Tryz.underlying28 rfl (by kernel_rfl)) rfl ?_
    exact ⟨_, _, _, gy, by (with_reducible repeat (first | apply Kd.aC | apply Kd.aA | apply Kd.ay)); exact Kd.ae (bU D1.out B4.out) (fun _ hk => ⟨hk.1.1, hk.1.2⟩), by (with_reducible repeat (first | apply Kd.aC | apply Kd.aA | apply Kd.ay)); exact Kd.ae (bU D9.out B4.out) (fun _ hk => ⟨hk.1.1, hk.1.2⟩), by (with_reducible repeat (first | apply Kd.aC | apply Kd.aA | apply Kd.ay)); exact Kd.ae (bU E1.out B4.out) (fun _ hk => ⟨hk.1.1, hk.1.2⟩), xx⟩
   ·have H := HHm_.out
    clear HHm_
    replace c11 := Bool.eq_false_iff.mpr c11
    subst c11
    have H1 : (some (0, 0, ([] : List Int), ([] : List Int), ([] : List Int), 3)) = some (r1, r2, r3, r4, r5, r6) := by rw [if_neg (show ¬ (false = true) by decide)] at H; exact H
    clear H
    have H := H1
    clear H1
    simp only [Option.some.injEq, Prod.mk.injEq] at H
    obtain ⟨rfl, rfl, rfl, rfl, rfl, rfl⟩ := H
    try go_wp2_with (first | ((with_reducible refine av (f := 21) rfl ?_); refine bJ (some 32) rfl rfl Tryz.func21 (by kernel_rfl) rfl #[.agg #[.int .i64 a0_0, .int .i64 a0_1, .slice I7 E2.length I8, .slice I4 E3.length I5, .slice I1 E4.length I2]] rfl dN ?_; (with_reducible refine (aK.calls k a0_0 a0_1 _ _ E2 _ _ E3 _ _ E4 false _ ?side1 ?side2 ?side3 ?side4 ?side5 ?side6 V1.out).mono ?_); (case side1 => exact (by (repeat (first | exact (Kd.aI D1.out).2.2 | (with_reducible refine Kd.dD ?_ _) | (with_reducible refine Kd.dH ?_ _) | (with_reducible refine Kd.dZ ?_))); first | done | fail)); (case side2 => exact (Kd.aI D1.out).2.1); (case side3 => exact (by (repeat (first | exact (Kd.aI D9.out).2.2 | (with_reducible refine Kd.dD ?_ _) | (with_reducible refine Kd.dH ?_ _) | (with_reducible refine Kd.dZ ?_))); first | done | fail)); (case side4 => exact (Kd.aI D9.out).2.1); (case side5 => exact (by (repeat (first | exact (Kd.aI E1.out).2.2 | (with_reducible refine Kd.dD ?_ _) | (with_reducible refine Kd.dH ?_ _) | (with_reducible refine Kd.dZ ?_))); first | done | fail)); (case side6 => exact (Kd.aI E1.out).2.1); rintro e W8 ⟨rfl, hb⟩; refine ⟨_, rfl, ?_⟩; replace D1 := rl_ D1 hb; replace D9 := rl_ D9 hb; replace E1 := rl_ E1 hb; replace A1 := bb_ A2 A1 hb; replace B4 := bb_ D0 B4 hb; replace E0 := bb_ gb616 E0 hb; replace HB := cK xx hb; (try clear hb); obtain ⟨O3, O4, O5, O6, O7, O8, O9, P0, P1, P2⟩ := eU (w := W8) B4.out))
    refine bodyPost_ret (gD rfl _ _ D0 28 #[.int .i64 0, .int .i64 0, .slice none 0 0, .slice none 0 0, .slice none 0 0] (0, 0) _ rfl (gB (h := by exact gK B4.out)) Tryz.underlying28 rfl (by kernel_rfl)) rfl ?_
    exact ⟨_, _, _, gy, jX, jX, jX, xx⟩
  ·replace c6 := Bool.eq_false_iff.mpr c6
   subst c6
   have H1 : (some (0, 0, ([] : List Int), ([] : List Int), ([] : List Int), 2)) = some (r1, r2, r3, r4, r5, r6) := by rw [if_neg (show ¬ (false = true) by decide)] at H; exact H
   clear H
   have H := H1
   clear H1
   simp only [Option.some.injEq, Prod.mk.injEq] at H
   obtain ⟨rfl, rfl, rfl, rfl, rfl, rfl⟩ := H
   go_enter Tryz.func18, Tryz.ntmps18
   go_wp2_with (first | ((with_reducible refine bn (N := 2) rfl ?_); refine bG ?hg (N := 2) ?hd (cs := #[.int .i64 a0_0, .int .i64 a0_1, .slice E5 l0_2.length E6, .slice E7 l0_3.length E8, .slice E9 l0_4.length F0]) (t := 28) ?hr ?_; (case hd => rfl); (case hg => rfl); (case hr => first | (go_simp; done) | (go_simp; rfl)); intro A2 hg Y4 hbox hb; have A1 := a_ (hbox); have H0 := a_ ((fO : w.heap.size ≤ A2)); have GE603 := a_ ((fO : w.heap.size ≤ A2)); replace HB := cK bX hb; clear hb hbox hg) | ((with_reducible refine bn (N := 4) rfl ?_); refine bG ?hg (N := 4) ?hd (cs := #[.int .i64 0, .int .i64 0, .slice none 0 0, .slice none 0 0, .slice none 0 0]) (t := 28) ?hr ?_; (case hd => rfl); (case hg => rfl); (case hr => first | (go_simp; done) | (go_simp; rfl)); intro D0 hg W9 hbox hb; have B4 := a_ (hbox); have H2 := a_ ((xL : w.heap.size ≤ D0)); have GE604 := a_ ((xL : w.heap.size ≤ D0)); replace HB := cK Bp hb; have F1 := a_ ((by rw [hg]; exact Nat.ne_of_lt (dI (g := A2) (rb_ A1.out)) : A2 ≠ D0)); have F2 := a_ ((by rw [hg]; exact Nat.ne_of_gt (dI (g := A2) (rb_ A1.out)) : D0 ≠ A2)); replace A1 := bb_ A2 A1 hb; clear hb hbox hg; have hnb69 := F1.out; have hnc69 := F2.out; obtain ⟨P3, P4, P5, P6, P7, P8, P9, Q0, Q1, Q2⟩ := eU (w := W9) A1.out) | ((with_reducible refine av (f := 21) rfl ?_); refine bJ (some 8) rfl rfl Tryz.func21 (by kernel_rfl) rfl #[.agg #[.int .i64 a0_0, .int .i64 a0_1, .slice E5 l0_2.length E6, .slice E7 l0_3.length E8, .slice E9 l0_4.length F0]] rfl dN ?_; (with_reducible refine (aK.calls k a0_0 a0_1 _ _ l0_2 _ _ l0_3 _ _ l0_4 true _ ?side1 ?side2 ?side3 ?side4 ?side5 ?side6 A3.out).mono ?_); (case side1 => exact kc_ (Kd.bT G0.out HB.out)); (case side2 => exact G1.out); (case side3 => exact kc_ (Kd.bT G2.out HB.out)); (case side4 => exact G3.out); (case side5 => exact kc_ (Kd.bT HR0_4.out HB.out)); (case side6 => exact G4.out); rintro e J0 ⟨rfl, hb⟩; refine ⟨_, rfl, ?_⟩; replace A1 := bb_ A2 A1 hb; replace B4 := bb_ D0 B4 hb; replace HB := cK lV hb; (try clear hb)) | ((with_reducible refine av (f := 57) rfl ?_); refine bJ (some 12) rfl rfl Tryz.func57 (by kernel_rfl) rfl #[.int .i64 a1, .int .i64 (-1000000000), .int .i64 1000000000] rfl dN ?_; (with_reducible refine (gF.calls a1 (-1000000000) 1000000000 false _ A5.out).mono ?_); rintro e w' ⟨rfl, ⟨nd, rfl⟩⟩; refine ⟨_, rfl, ?_⟩; (try (rw [jq J0]; generalize hq_ : World.drewN J0 _ = J0; have n0_ : af (J0.heap[A2]? = some (.cells #[.int .i64 a0_0, .int .i64 a0_1, .slice E5 l0_2.length E6, .slice E7 l0_3.length E8, .slice E9 l0_4.length F0] 28 (0, 0))) := ⟨by rw [← hq_]; exact (rb_ A1.out)⟩; have n1_ : af (J0.heap[D0]? = some (.cells #[.int .i64 0, .int .i64 0, .slice none 0 0, .slice none 0 0, .slice none 0 0] 28 (0, 0))) := ⟨by rw [← hq_]; exact (rb_ B4.out)⟩; have n2_ : af (Below w.heap.size w J0) := ⟨by rw [← hq_]; exact lV⟩; clear A1 B4 HB hq_; have A1 := n0_; have B4 := n1_; have HB := n2_; clear n0_ n1_ n2_)); obtain ⟨Q3, Q4, Q5, Q6, Q7, Q8, Q9, R0, R1, R2⟩ := eU (w := J0) B4.out))
   refine bodyPost_ret (gD rfl _ _ D0 28 #[.int .i64 0, .int .i64 0, .slice none 0 0, .slice none 0 0, .slice none 0 0] (0, 0) _ rfl (gB (h := by exact gK B4.out)) Tryz.underlying28 rfl (by kernel_rfl)) rfl ?_
   exact ⟨_, _, _, gy, jX, jX, jX, lV⟩
 ·replace c4 := Bool.eq_false_iff.mpr c4
  subst c4
  have H1 : (some (0, 0, ([] : List Int), ([] : List Int), ([] : List Int), 1)) = some (r1, r2, r3, r4, r5, r6) := by rw [if_neg (show ¬ (false = true) by decide)] at H; exact H
  clear H
  have H := H1
  clear H1
  simp only [Option.some.injEq, Prod.mk.injEq] at H
  obtain ⟨rfl, rfl, rfl, rfl, rfl, rfl⟩ := H
  go_enter Tryz.func18, Tryz.ntmps18
  go_wp2_with (first | ((with_reducible refine bn (N := 2) rfl ?_); refine bG ?hg (N := 2) ?hd (cs := #[.int .i64 a0_0, .int .i64 a0_1, .slice E5 l0_2.length E6, .slice E7 l0_3.length E8, .slice E9 l0_4.length F0]) (t := 28) ?hr ?_; (case hd => rfl); (case hg => rfl); (case hr => first | (go_simp; done) | (go_simp; rfl)); intro A2 hg Y5 hbox hb; have A1 := a_ (hbox); have H0 := a_ ((fO : w.heap.size ≤ A2)); have GE603 := a_ ((fO : w.heap.size ≤ A2)); replace HB := cK bX hb; clear hb hbox hg) | ((with_reducible refine bn (N := 4) rfl ?_); refine bG ?hg (N := 4) ?hd (cs := #[.int .i64 0, .int .i64 0, .slice none 0 0, .slice none 0 0, .slice none 0 0]) (t := 28) ?hr ?_; (case hd => rfl); (case hg => rfl); (case hr => first | (go_simp; done) | (go_simp; rfl)); intro D0 hg X0 hbox hb; have B4 := a_ (hbox); have H2 := a_ ((xL : w.heap.size ≤ D0)); have GE604 := a_ ((xL : w.heap.size ≤ D0)); replace HB := cK Bp hb; have F1 := a_ ((by rw [hg]; exact Nat.ne_of_lt (dI (g := A2) (rb_ A1.out)) : A2 ≠ D0)); have F2 := a_ ((by rw [hg]; exact Nat.ne_of_gt (dI (g := A2) (rb_ A1.out)) : D0 ≠ A2)); replace A1 := bb_ A2 A1 hb; clear hb hbox hg; have hnb75 := F1.out; have hnc75 := F2.out; obtain ⟨R3, R4, R5, R6, R7, R8, R9, S0, S1, S2⟩ := eU (w := X0) A1.out) | ((with_reducible refine av (f := 21) rfl ?_); refine bJ (some 8) rfl rfl Tryz.func21 (by kernel_rfl) rfl #[.agg #[.int .i64 a0_0, .int .i64 a0_1, .slice E5 l0_2.length E6, .slice E7 l0_3.length E8, .slice E9 l0_4.length F0]] rfl dN ?_; (with_reducible refine (aK.calls k a0_0 a0_1 _ _ l0_2 _ _ l0_3 _ _ l0_4 false _ ?side1 ?side2 ?side3 ?side4 ?side5 ?side6 A3.out).mono ?_); (case side1 => exact kc_ (Kd.bT G0.out HB.out)); (case side2 => exact G1.out); (case side3 => exact kc_ (Kd.bT G2.out HB.out)); (case side4 => exact G3.out); (case side5 => exact kc_ (Kd.bT HR0_4.out HB.out)); (case side6 => exact G4.out); rintro e X1 ⟨rfl, hb⟩; refine ⟨_, rfl, ?_⟩; replace A1 := bb_ A2 A1 hb; replace B4 := bb_ D0 B4 hb; replace HB := cK lV hb; (try clear hb); obtain ⟨S3, S4, S5, S6, S7, S8, S9, T0, T3, T4⟩ := eU (w := X1) B4.out))
  refine bodyPost_ret (gD rfl _ _ D0 28 #[.int .i64 0, .int .i64 0, .slice none 0 0, .slice none 0 0, .slice none 0 0] (0, 0) _ rfl (gB (h := by exact gK B4.out)) Tryz.underlying28 rfl (by kernel_rfl)) rfl ?_
  exact ⟨_, _, _, gy, jX, jX, jX, lV⟩
def bF.l0 : Nat → List Int → List Int → Int → Option (Bool)
 | 0, _, _, _ => none
 | k + 1, x0, x1, x5 => if x5 < (x0.length : Int) then (if 0 ≤ x5 then (if x5 < (x1.length : Int) then (if (rd x0 x5) = (rd x1 x5) then (bF.l0 k x0 x1 (wrap64 (x5 + 1))) else (some false)) else (none)) else (none)) else (some true)
def bF.f (k : Nat) (l0 : List Int) (l1 : List Int) : Option (Bool) := if (l0.length : Int) = (l1.length : Int) then (bF.l0 k l0 l1 0) else (some false)
theorem bF.dC : ∀ k, (∀ y0 y1 y2, LeO (bF.l0 k y0 y1 y2) (bF.l0 (k + 1) y0 y1 y2))
 | 0 => fun _ _ _ r h => by simp [bF.l0] at h
 | k + 1 => by
  have ih0 := bF.dC k
  ·intro y0 y1 y2
   unfold bF.l0
   repeat' first | (with_reducible first | exact ih0 .. | exact LeO.refl .. | exact LeO.none .. | refine LeO.ite ?_ ?_ | refine LeO.bind ?_ (fun _ => ?_))
theorem bF.mono : ∀ a0 a1 k, LeO (bF.f k a0 a1) (bF.f (k + 1) a0 a1) := by
 intro a0 a1 k
 have ih0 := bF.dC k
 unfold bF.f
 repeat' first | (with_reducible first | exact ih0 .. | exact LeO.refl .. | exact LeO.none .. | refine LeO.ite ?_ ?_ | refine LeO.bind ?_ (fun _ => ?_))
theorem bF.calls (k : Nat) (A0 : Option Addr) (c0 : Nat) (l0 : List Int) (A1 : Option Addr) (c1 : Nat) (l1 : List Int) (r : Bool) (w : World) (hr0 : Kd.C (Kd.int .i64) w A0 l0.length l0) (hc0 : l0.length ≤ c0) (hr1 : Kd.C (Kd.int .i64) w A1 l1.length l1) (hc1 : l1.length ≤ c1) (h : bF.f k l0 l1 = some r) :
  Calls Tryz.prog 28 #[.slice A0 l0.length c0, .slice A1 l1.length c1] w fun e w' => e = .returned (.bool r) ∧ fJ w w' := by
 have HR0 := a_ hr0
 have C7 := a_ hc0
 clear hr0 hc0
 have HR1 := a_ hr1
 have C8 := a_ hc1
 clear hr1 hc1
 have H : (if (l0.length : Int) = (l1.length : Int) then (bF.l0 k l0 l1 0) else (some false)) = some r := h
 clear h
 by_cases c3 : (l0.length : Int) = (l1.length : Int)
 ·rw [if_pos c3] at H
  have B3 : ((l0.length : Int) == (l1.length : Int)) = true := beq_iff_eq.mpr c3
  have B4 : ((l0.length : Int) != (l1.length : Int)) = false := bne_eq_false_iff_eq.mpr c3
  have B7 : (l0.length == l1.length) = true := by first | simpa using c3 | (simp at c3 ⊢; omega)
  clear c3
  have H' := a_ H
  clear H
  go_enter Tryz.func28, Tryz.ntmps28
  go_wp2
  repeat (go_quiet (fail); try go_wp2)
  go_loopg [5] k (fun kq v5 w' => ∃ (A2 : Int), v5 = .int .i64 A2 ∧ af (bF.l0 kq l0 l1 A2 = some r) ∧ af (kq ≤ k) ∧ fJ w w')
  case atStart => exact ⟨(0), cz, H', ⟨Nat.le_refl _⟩, fI⟩
  case round =>
   clear H'
   try clear c1; try clear B3; try clear B4; try clear B7
   obtain ⟨A2, rfl, HA, HK1, ⟨m1, rfl⟩⟩ := hrel
   cases gk with
   | zero => exact absurd HA.out (by simp [bF.l0])
   | succ k1 =>
    have H := HA.out
    clear HA
    simp only [bF.l0] at H
    by_cases c4 : A2 < (l0.length : Int)
    ·rw [if_pos c4] at H
     have C2 := decide_eq_true c4
     clear c4
     replace H := ig_ H; obtain ⟨c5, H⟩ := H
     have C5 := decide_eq_true c5
     clear c5
     replace H := ig_ H; obtain ⟨c6, H⟩ := H
     have C6 := decide_eq_true c6
     clear c6
     by_cases c7 : (rd l0 A2) = (rd l1 A2)
     ·rw [if_pos c7] at H
      have C3 : ((rd l0 A2) == (rd l1 A2)) = true := beq_iff_eq.mpr c7
      have C4 : ((rd l0 A2) != (rd l1 A2)) = false := bne_eq_false_iff_eq.mpr c7
      clear c7
      have H' := a_ H
      clear H
      have A3 : 0 ≤ (A2 : Int) := of_decide_eq_true aX
      have A4 : A2 < (l0.length : Int) := of_decide_eq_true aX
      obtain ⟨C0, A9, A7⟩ := Kd.eF HR0.out A2 A3 A4
      cases A9
      replace A3 := eq_true A3
      replace A4 := eq_true A4
      have A5 : 0 ≤ (A2 : Int) := of_decide_eq_true aX
      have A6 : A2 < (l1.length : Int) := of_decide_eq_true aX
      obtain ⟨C1, B0, A8⟩ := Kd.eF HR1.out A2 A5 A6
      cases B0
      replace A5 := eq_true A5
      replace A6 := eq_true A6
      go_wp2
      repeat (go_quiet (fail); try go_wp2)
      go_roundg k1
      case measure => have := HK1.out; omega
      case rel => exact ⟨(wrap64 (A2 + 1)), cz, H', ⟨kW⟩, fI⟩
     rw [if_neg c7] at H
     have C3 : ((rd l0 A2) == (rd l1 A2)) = false := beq_eq_false_iff_ne.mpr c7
     have C4 : ((rd l0 A2) != (rd l1 A2)) = true := bne_iff_ne.mpr c7
     obtain rfl := Option.some.inj H
     have A3 : 0 ≤ (A2 : Int) := of_decide_eq_true aX
     have A4 : A2 < (l0.length : Int) := of_decide_eq_true aX
     obtain ⟨C0, A9, A7⟩ := Kd.eF HR0.out A2 A3 A4
     cases A9
     replace A3 := eq_true A3
     replace A4 := eq_true A4
     have A5 : 0 ≤ (A2 : Int) := of_decide_eq_true aX
     have A6 : A2 < (l1.length : Int) := of_decide_eq_true aX
     obtain ⟨C1, B0, A8⟩ := Kd.eF HR1.out A2 A5 A6
     cases B0
     replace A5 := eq_true A5
     replace A6 := eq_true A6
     go_wp2
     repeat (go_quiet (fail); try go_wp2)
     go_ret
     exact ⟨gT, fI⟩
    rw [if_neg c4] at H
    have C2 := decide_eq_false c4
    clear c4
    obtain rfl := Option.some.inj H
    go_wp2
    repeat (go_quiet (fail); try go_wp2)
    go_ret
    exact ⟨gT, fI⟩
 rw [if_neg c3] at H
 have B3 : ((l0.length : Int) == (l1.length : Int)) = false := beq_eq_false_iff_ne.mpr c3
 have B4 : ((l0.length : Int) != (l1.length : Int)) = true := bne_iff_ne.mpr c3
 have B7 : (l0.length == l1.length) = false := by first | simpa using c3 | (simp at c3 ⊢; omega)
 obtain rfl := Option.some.inj H
 go_enter Tryz.func28, Tryz.ntmps28
 go_wp2
 repeat (go_quiet (fail); try go_wp2)
 go_ret
 exact ⟨gT, fI⟩
def dP.f (k : Nat) (a0_0 : Int) (a0_1 : Int) (l0_2 : List Int) (l0_3 : List Int) (l0_4 : List Int) (a1_0 : Int) (a1_1 : Int) (l1_2 : List Int) (l1_3 : List Int) (l1_4 : List Int) : Option (Bool) := if a0_0 = a1_0 then (if a0_1 = a1_1 then ((bF.f k l0_2 l1_2).bind fun t622 => (if t622 = true then ((bF.f k l0_3 l1_3).bind fun t623 => (if t623 = true then ((bF.f k l0_4 l1_4).bind fun t624 => (some t624)) else (some false))) else (some false))) else (some false)) else (some false)
theorem dP.mono : ∀ a0 a1 a2 a3 a4 a5 a6 a7 a8 a9 k, LeO (dP.f k a0 a1 a2 a3 a4 a5 a6 a7 a8 a9) (dP.f (k + 1) a0 a1 a2 a3 a4 a5 a6 a7 a8 a9) := by
 intro a0 a1 a2 a3 a4 a5 a6 a7 a8 a9 k
 unfold dP.f
 repeat' first | (with_reducible first | exact bF.mono .. | exact LeO.refl .. | exact LeO.none .. | refine LeO.ite ?_ ?_ | refine LeO.bind ?_ (fun _ => ?_))
theorem dP.calls (k : Nat) (a0_0 : Int) (a0_1 : Int) (A6 : Option Addr) (A8 : Nat) (l0_2 : List Int) (B0 : Option Addr) (B3 : Nat) (l0_3 : List Int) (B4 : Option Addr) (B7 : Nat) (l0_4 : List Int) (a1_0 : Int) (a1_1 : Int) (C0 : Option Addr) (C1 : Nat) (l1_2 : List Int) (C2 : Option Addr) (C3 : Nat) (l1_3 : List Int) (C4 : Option Addr) (C5 : Nat) (l1_4 : List Int) (r : Bool) (w : World) (hr0_2 : Kd.C (Kd.int .i64) w A6 l0_2.length l0_2) (hc0_2 : l0_2.length ≤ A8) (hr0_3 : Kd.C (Kd.int .i64) w B0 l0_3.length l0_3) (hc0_3 : l0_3.length ≤ B3) (hr0_4 : Kd.C (Kd.int .i64) w B4 l0_4.length l0_4) (hc0_4 : l0_4.length ≤ B7) (hr1_2 : Kd.C (Kd.int .i64) w C0 l1_2.length l1_2) (hc1_2 : l1_2.length ≤ C1) (hr1_3 : Kd.C (Kd.int .i64) w C2 l1_3.length l1_3) (hc1_3 : l1_3.length ≤ C3) (hr1_4 : Kd.C (Kd.int .i64) w C4 l1_4.length l1_4) (hc1_4 : l1_4.length ≤ C5) (h : dP.f k a0_0 a0_1 l0_2 l0_3 l0_4 a1_0 a1_1 l1_2 l1_3 l1_4 = some r) :
  Calls Tryz.prog 19 #[.agg #[.int .i64 a0_0, .int .i64 a0_1, .slice A6 l0_2.length A8, .slice B0 l0_3.length B3, .slice B4 l0_4.length B7], .agg #[.int .i64 a1_0, .int .i64 a1_1, .slice C0 l1_2.length C1, .slice C2 l1_3.length C3, .slice C4 l1_4.length C5]] w fun e w' => e = .returned (.bool r) ∧ Below w.heap.size w w' := by
 have hu28 := Tryz.underlying28
 have C9 := a_ hr0_2
 have D0 := a_ hc0_2
 clear hr0_2 hc0_2
 have D4 := a_ hr0_3
 have D5 := a_ hc0_3
 clear hr0_3 hc0_3
 have HR0_4 := a_ hr0_4
 have D9 := a_ hc0_4
 clear hr0_4 hc0_4
 have D1 := a_ hr1_2
 have D2 := a_ hc1_2
 clear hr1_2 hc1_2
 have D6 := a_ hr1_3
 have D7 := a_ hc1_3
 clear hr1_3 hc1_3
 have E0 := a_ hr1_4
 have E1 := a_ hc1_4
 clear hr1_4 hc1_4
 have HB := a_ (Below.refl w.heap.size w)
 have H : (if a0_0 = a1_0 then (if a0_1 = a1_1 then ((bF.f k l0_2 l1_2).bind fun D8 => (if D8 = true then ((bF.f k l0_3 l1_3).bind fun D3 => (if D3 = true then ((bF.f k l0_4 l1_4).bind fun C6 => (some C6)) else (some false))) else (some false))) else (some false)) else (some false)) = some r := h
 clear h
 by_cases c3 : a0_0 = a1_0
 ·rw [if_pos c3] at H
  have O3 : (a0_0 == a1_0) = true := beq_iff_eq.mpr c3
  have O4 : (a0_0 != a1_0) = false := bne_eq_false_iff_eq.mpr c3
  clear c3
  by_cases c4 : a0_1 = a1_1
  ·rw [if_pos c4] at H
   have O5 : (a0_1 == a1_1) = true := beq_iff_eq.mpr c4
   have O6 : (a0_1 != a1_1) = false := bne_eq_false_iff_eq.mpr c4
   clear c4
   replace H := bo_ H; obtain ⟨D8, A5, H⟩ := H; (try dsimp only at H)
   by_cases c6 : D8 = true
   ·subst c6
    have H1 : ((bF.f k l0_3 l1_3).bind fun D3 => (if D3 = true then ((bF.f k l0_4 l1_4).bind fun C6 => (some C6)) else (some false))) = some r := by rw [if_pos rfl] at H; exact H
    clear H
    have H := H1
    clear H1
    replace H := bo_ H; obtain ⟨D3, A7, H⟩ := H; (try dsimp only at H)
    by_cases c8 : D3 = true
    ·subst c8
     have H1 : ((bF.f k l0_4 l1_4).bind fun C6 => (some C6)) = some r := by rw [if_pos rfl] at H; exact H
     clear H
     have H := H1
     clear H1
     replace H := bo_ H; obtain ⟨C6, A9, H⟩ := H; (try dsimp only at H)
     obtain rfl := Option.some.inj H
     go_enter Tryz.func19, Tryz.ntmps19
     go_wp2_with (first | ((with_reducible refine bn (N := 2) rfl ?_); refine bG ?hg (N := 2) ?hd (cs := #[.int .i64 a0_0, .int .i64 a0_1, .slice A6 l0_2.length A8, .slice B0 l0_3.length B3, .slice B4 l0_4.length B7]) (t := 28) ?hr ?_; (case hd => rfl); (case hg => rfl); (case hr => first | (go_simp; done) | (go_simp; rfl)); intro gb620 hg P2 hbox hb; have BK620 := a_ (hbox); have C7 := a_ ((fO : w.heap.size ≤ gb620)); have GE620 := a_ ((fO : w.heap.size ≤ gb620)); replace HB := cK bX hb; clear hb hbox hg) | ((with_reducible refine bn (N := 3) rfl ?_); refine bG ?hg (N := 3) ?hd (cs := #[.int .i64 a1_0, .int .i64 a1_1, .slice C0 l1_2.length C1, .slice C2 l1_3.length C3, .slice C4 l1_4.length C5]) (t := 28) ?hr ?_; (case hd => rfl); (case hg => rfl); (case hr => first | (go_simp; done) | (go_simp; rfl)); intro A1 hg O7 hbox hb; have A4 := a_ (hbox); have C8 := a_ ((rH : w.heap.size ≤ A1)); have GE621 := a_ ((rH : w.heap.size ≤ A1)); replace HB := cK yT hb; have A2 := a_ ((uH : gb620 ≠ A1)); have A3 := a_ ((uZ : A1 ≠ gb620)); replace BK620 := bb_ gb620 BK620 hb; clear hb hbox hg; have hnb12 := A2.out; have hnc12 := A3.out; obtain ⟨E2, E3, E4, E5, E6, E7, E8, E9, F0, F1⟩ := eU (w := O7) BK620.out; obtain ⟨F2, F3, F4, F5, F6, F7, F8, F9, G0, G1⟩ := eU (w := O7) A4.out) | (go_at_call 28; (with_reducible refine (bF.calls k _ _ l0_2 _ _ l1_2 true _ ?side1 ?side2 ?side3 ?side4 A5.out).mono ?_); (case side1 => exact kc_ (Kd.bT C9.out HB.out)); (case side2 => exact D0.out); (case side3 => exact kc_ (Kd.bT D1.out HB.out)); (case side4 => exact D2.out); rintro e w' ⟨rfl, ⟨nd, rfl⟩⟩) | (go_at_call 28; (with_reducible refine (bF.calls k _ _ l0_3 _ _ l1_3 true _ ?side1 ?side2 ?side3 ?side4 A7.out).mono ?_); (case side1 => exact (by (repeat (first | exact (Kd.bT D4.out qA) | (with_reducible refine Kd.dD ?_ _) | (with_reducible refine Kd.dH ?_ _) | (with_reducible refine Kd.dZ ?_))); first | done | fail)); (case side2 => exact D5.out); (case side3 => exact (by (repeat (first | exact (Kd.bT D6.out qA) | (with_reducible refine Kd.dD ?_ _) | (with_reducible refine Kd.dH ?_ _) | (with_reducible refine Kd.dZ ?_))); first | done | fail)); (case side4 => exact D7.out); rintro e w' ⟨rfl, ⟨nd, rfl⟩⟩) | (go_at_call 28; (with_reducible refine (bF.calls k _ _ l0_4 _ _ l1_4 C6 _ ?side1 ?side2 ?side3 ?side4 A9.out).mono ?_); (case side1 => exact (by (repeat (first | exact (Kd.bT HR0_4.out qA) | (with_reducible refine Kd.dD ?_ _) | (with_reducible refine Kd.dH ?_ _) | (with_reducible refine Kd.dZ ?_))); first | done | fail)); (case side2 => exact D9.out); (case side3 => exact (by (repeat (first | exact (Kd.bT E0.out qA) | (with_reducible refine Kd.dD ?_ _) | (with_reducible refine Kd.dH ?_ _) | (with_reducible refine Kd.dZ ?_))); first | done | fail)); (case side4 => exact E1.out); rintro e w' ⟨rfl, ⟨nd, rfl⟩⟩))
     go_ret
     exact ⟨gy, qA⟩
    ·replace c8 := Bool.eq_false_iff.mpr c8
     subst c8
     have H1 : (some false) = some r := by rw [if_neg (show ¬ (false = true) by decide)] at H; exact H
     clear H
     have H := H1
     clear H1
     obtain rfl := Option.some.inj H
     go_enter Tryz.func19, Tryz.ntmps19
     go_wp2_with (first | ((with_reducible refine bn (N := 2) rfl ?_); refine bG ?hg (N := 2) ?hd (cs := #[.int .i64 a0_0, .int .i64 a0_1, .slice A6 l0_2.length A8, .slice B0 l0_3.length B3, .slice B4 l0_4.length B7]) (t := 28) ?hr ?_; (case hd => rfl); (case hg => rfl); (case hr => first | (go_simp; done) | (go_simp; rfl)); intro gb620 hg P3 hbox hb; have BK620 := a_ (hbox); have C7 := a_ ((fO : w.heap.size ≤ gb620)); have GE620 := a_ ((fO : w.heap.size ≤ gb620)); replace HB := cK bX hb; clear hb hbox hg) | ((with_reducible refine bn (N := 3) rfl ?_); refine bG ?hg (N := 3) ?hd (cs := #[.int .i64 a1_0, .int .i64 a1_1, .slice C0 l1_2.length C1, .slice C2 l1_3.length C3, .slice C4 l1_4.length C5]) (t := 28) ?hr ?_; (case hd => rfl); (case hg => rfl); (case hr => first | (go_simp; done) | (go_simp; rfl)); intro A1 hg O8 hbox hb; have A4 := a_ (hbox); have C8 := a_ ((rH : w.heap.size ≤ A1)); have GE621 := a_ ((rH : w.heap.size ≤ A1)); replace HB := cK yT hb; have A2 := a_ ((uH : gb620 ≠ A1)); have A3 := a_ ((uZ : A1 ≠ gb620)); replace BK620 := bb_ gb620 BK620 hb; clear hb hbox hg; have hnb17 := A2.out; have hnc17 := A3.out; obtain ⟨G2, G3, G4, G5, G6, G7, G8, G9, H0, H2⟩ := eU (w := O8) BK620.out; obtain ⟨H3, H4, H5, H6, H7, H8, H9, I0, I1, I2⟩ := eU (w := O8) A4.out) | (go_at_call 28; (with_reducible refine (bF.calls k _ _ l0_2 _ _ l1_2 true _ ?side1 ?side2 ?side3 ?side4 A5.out).mono ?_); (case side1 => exact kc_ (Kd.bT C9.out HB.out)); (case side2 => exact D0.out); (case side3 => exact kc_ (Kd.bT D1.out HB.out)); (case side4 => exact D2.out); rintro e w' ⟨rfl, ⟨nd, rfl⟩⟩) | (go_at_call 28; (with_reducible refine (bF.calls k _ _ l0_3 _ _ l1_3 false _ ?side1 ?side2 ?side3 ?side4 A7.out).mono ?_); (case side1 => exact (by (repeat (first | exact (Kd.bT D4.out qA) | (with_reducible refine Kd.dD ?_ _) | (with_reducible refine Kd.dH ?_ _) | (with_reducible refine Kd.dZ ?_))); first | done | fail)); (case side2 => exact D5.out); (case side3 => exact (by (repeat (first | exact (Kd.bT D6.out qA) | (with_reducible refine Kd.dD ?_ _) | (with_reducible refine Kd.dH ?_ _) | (with_reducible refine Kd.dZ ?_))); first | done | fail)); (case side4 => exact D7.out); rintro e w' ⟨rfl, ⟨nd, rfl⟩⟩))
     go_ret
     exact ⟨gy, qA⟩
   ·replace c6 := Bool.eq_false_iff.mpr c6
    subst c6
    have H1 : (some false) = some r := by rw [if_neg (show ¬ (false = true) by decide)] at H; exact H
    clear H
    have H := H1
    clear H1
    obtain rfl := Option.some.inj H
    go_enter Tryz.func19, Tryz.ntmps19
    go_wp2_with (first | ((with_reducible refine bn (N := 2) rfl ?_); refine bG ?hg (N := 2) ?hd (cs := #[.int .i64 a0_0, .int .i64 a0_1, .slice A6 l0_2.length A8, .slice B0 l0_3.length B3, .slice B4 l0_4.length B7]) (t := 28) ?hr ?_; (case hd => rfl); (case hg => rfl); (case hr => first | (go_simp; done) | (go_simp; rfl)); intro gb620 hg P4 hbox hb; have BK620 := a_ (hbox); have C7 := a_ ((fO : w.heap.size ≤ gb620)); have GE620 := a_ ((fO : w.heap.size ≤ gb620)); replace HB := cK bX hb; clear hb hbox hg) | ((with_reducible refine bn (N := 3) rfl ?_); refine bG ?hg (N := 3) ?hd (cs := #[.int .i64 a1_0, .int .i64 a1_1, .slice C0 l1_2.length C1, .slice C2 l1_3.length C3, .slice C4 l1_4.length C5]) (t := 28) ?hr ?_; (case hd => rfl); (case hg => rfl); (case hr => first | (go_simp; done) | (go_simp; rfl)); intro A1 hg O9 hbox hb; have A4 := a_ (hbox); have C8 := a_ ((rH : w.heap.size ≤ A1)); have GE621 := a_ ((rH : w.heap.size ≤ A1)); replace HB := cK yT hb; have A2 := a_ ((uH : gb620 ≠ A1)); have A3 := a_ ((uZ : A1 ≠ gb620)); replace BK620 := bb_ gb620 BK620 hb; clear hb hbox hg; have hnb22 := A2.out; have hnc22 := A3.out; obtain ⟨I3, I4, I5, I6, I7, I8, I9, J0, J1, J2⟩ := eU (w := O9) BK620.out; obtain ⟨J3, J4, J5, J6, J7, J8, J9, K0, K1, K2⟩ := eU (w := O9) A4.out) | (go_at_call 28; (with_reducible refine (bF.calls k _ _ l0_2 _ _ l1_2 false _ ?side1 ?side2 ?side3 ?side4 A5.out).mono ?_); (case side1 => exact kc_ (Kd.bT C9.out HB.out)); (case side2 => exact D0.out); (case side3 => exact kc_ (Kd.bT D1.out HB.out)); (case side4 => exact D2.out); rintro e w' ⟨rfl, ⟨nd, rfl⟩⟩))
    go_ret
    exact ⟨gy, qA⟩
  rw [if_neg c4] at H
  have O5 : (a0_1 == a1_1) = false := beq_eq_false_iff_ne.mpr c4
  have O6 : (a0_1 != a1_1) = true := bne_iff_ne.mpr c4
  obtain rfl := Option.some.inj H
  go_enter Tryz.func19, Tryz.ntmps19
  go_wp2_with (first | ((with_reducible refine bn (N := 2) rfl ?_); refine bG ?hg (N := 2) ?hd (cs := #[.int .i64 a0_0, .int .i64 a0_1, .slice A6 l0_2.length A8, .slice B0 l0_3.length B3, .slice B4 l0_4.length B7]) (t := 28) ?hr ?_; (case hd => rfl); (case hg => rfl); (case hr => first | (go_simp; done) | (go_simp; rfl)); intro gb620 hg P5 hbox hb; have BK620 := a_ (hbox); have C7 := a_ ((fO : w.heap.size ≤ gb620)); have GE620 := a_ ((fO : w.heap.size ≤ gb620)); replace HB := cK bX hb; clear hb hbox hg) | ((with_reducible refine bn (N := 3) rfl ?_); refine bG ?hg (N := 3) ?hd (cs := #[.int .i64 a1_0, .int .i64 a1_1, .slice C0 l1_2.length C1, .slice C2 l1_3.length C3, .slice C4 l1_4.length C5]) (t := 28) ?hr ?_; (case hd => rfl); (case hg => rfl); (case hr => first | (go_simp; done) | (go_simp; rfl)); intro A1 hg P0 hbox hb; have A4 := a_ (hbox); have C8 := a_ ((rH : w.heap.size ≤ A1)); have GE621 := a_ ((rH : w.heap.size ≤ A1)); replace HB := cK yT hb; have A2 := a_ ((uH : gb620 ≠ A1)); have A3 := a_ ((uZ : A1 ≠ gb620)); replace BK620 := bb_ gb620 BK620 hb; clear hb hbox hg; have hnb27 := A2.out; have hnc27 := A3.out; obtain ⟨K3, K4, K5, K6, K7, K8, K9, L0, L1, L2⟩ := eU (w := P0) BK620.out; obtain ⟨L3, L4, L5, L6, L7, L8, L9, M0, M1, M2⟩ := eU (w := P0) A4.out))
  go_ret
  exact ⟨gy, qA⟩
 rw [if_neg c3] at H
 have O3 : (a0_0 == a1_0) = false := beq_eq_false_iff_ne.mpr c3
 have O4 : (a0_0 != a1_0) = true := bne_iff_ne.mpr c3
 obtain rfl := Option.some.inj H
 go_enter Tryz.func19, Tryz.ntmps19
 go_wp2_with (first | ((with_reducible refine bn (N := 2) rfl ?_); refine bG ?hg (N := 2) ?hd (cs := #[.int .i64 a0_0, .int .i64 a0_1, .slice A6 l0_2.length A8, .slice B0 l0_3.length B3, .slice B4 l0_4.length B7]) (t := 28) ?hr ?_; (case hd => rfl); (case hg => rfl); (case hr => first | (go_simp; done) | (go_simp; rfl)); intro gb620 hg P6 hbox hb; have BK620 := a_ (hbox); have C7 := a_ ((fO : w.heap.size ≤ gb620)); have GE620 := a_ ((fO : w.heap.size ≤ gb620)); replace HB := cK bX hb; clear hb hbox hg) | ((with_reducible refine bn (N := 3) rfl ?_); refine bG ?hg (N := 3) ?hd (cs := #[.int .i64 a1_0, .int .i64 a1_1, .slice C0 l1_2.length C1, .slice C2 l1_3.length C3, .slice C4 l1_4.length C5]) (t := 28) ?hr ?_; (case hd => rfl); (case hg => rfl); (case hr => first | (go_simp; done) | (go_simp; rfl)); intro A1 hg P1 hbox hb; have A4 := a_ (hbox); have C8 := a_ ((rH : w.heap.size ≤ A1)); have GE621 := a_ ((rH : w.heap.size ≤ A1)); replace HB := cK yT hb; have A2 := a_ ((uH : gb620 ≠ A1)); have A3 := a_ ((uZ : A1 ≠ gb620)); replace BK620 := bb_ gb620 BK620 hb; clear hb hbox hg; have hnb32 := A2.out; have hnc32 := A3.out; obtain ⟨M3, M4, M5, M6, M7, M8, M9, N0, N1, N2⟩ := eU (w := P1) BK620.out; obtain ⟨N3, N4, N5, N6, N7, N8, N9, O0, O1, O2⟩ := eU (w := P1) A4.out))
 go_ret
 exact ⟨gy, qA⟩
def fP.f (k : Nat) (a0_0 : Int) (a0_1 : Int) (l0_2 : List Int) (l0_3 : List Int) (l0_4 : List Int) (a1 : ByteArray) : Option (List Int × Int) := (ed.f k a0_0 a0_1 l0_2 l0_3 l0_4 a1).bind fun t626 => (if t626 = 0 then ((aV.f k a0_0 a0_1 l0_2 l0_3 l0_4 a1).bind fun t627 => (some (t627, 0))) else (some (([] : List Int), t626)))
theorem fP.mono : ∀ a0 a1 a2 a3 a4 a5 k, LeO (fP.f k a0 a1 a2 a3 a4 a5) (fP.f (k + 1) a0 a1 a2 a3 a4 a5) := by
 intro a0 a1 a2 a3 a4 a5 k
 unfold fP.f
 repeat' first | (with_reducible first | exact ed.mono .. | exact aV.mono .. | exact LeO.refl .. | exact LeO.none .. | refine LeO.ite ?_ ?_ | refine LeO.bind ?_ (fun _ => ?_))
theorem fP.calls (k : Nat) (a0_0 : Int) (a0_1 : Int) (A6 : Option Addr) (A7 : Nat) (l0_2 : List Int) (A8 : Option Addr) (A9 : Nat) (l0_3 : List Int) (B0 : Option Addr) (B3 : Nat) (l0_4 : List Int) (a1 : ByteArray) (r1 : List Int) (r2 : Int) (w : World) (hr0_2 : Kd.C (Kd.int .i64) w A6 l0_2.length l0_2) (hc0_2 : l0_2.length ≤ A7) (hr0_3 : Kd.C (Kd.int .i64) w A8 l0_3.length l0_3) (hc0_3 : l0_3.length ≤ A9) (hr0_4 : Kd.C (Kd.int .i64) w B0 l0_4.length l0_4) (hc0_4 : l0_4.length ≤ B3) (h : fP.f k a0_0 a0_1 l0_2 l0_3 l0_4 a1 = some (r1, r2)) :
  Calls Tryz.prog 22 #[.agg #[.int .i64 a0_0, .int .i64 a0_1, .slice A6 l0_2.length A7, .slice A8 l0_3.length A9, .slice B0 l0_4.length B3], .string a1] w fun e w' => ∃ v0_ : Value, e = .returned (.tuple #[v0_, .int .i64 r2]) ∧ Kd.R (Kd.int .i64) 2 w' w.heap.size (fun _ => True) v0_ r1 ∧ Below w.heap.size w w' := by
 have hu28 := Tryz.underlying28
 have B4 := a_ hr0_2
 have B7 := a_ hc0_2
 clear hr0_2 hc0_2
 have C0 := a_ hr0_3
 have C1 := a_ hc0_3
 clear hr0_3 hc0_3
 have HR0_4 := a_ hr0_4
 have C2 := a_ hc0_4
 clear hr0_4 hc0_4
 have HB := a_ (Below.refl w.heap.size w)
 have H : ((ed.f k a0_0 a0_1 l0_2 l0_3 l0_4 a1).bind fun A4 => (if A4 = 0 then ((aV.f k a0_0 a0_1 l0_2 l0_3 l0_4 a1).bind fun C3 => (some (C3, 0))) else (some (([] : List Int), A4)))) = some (r1, r2) := h
 clear h
 replace H := bo_ H; obtain ⟨A4, A3, H⟩ := H; (try dsimp only at H)
 by_cases c4 : A4 = 0
 ·rw [if_pos c4] at H
  have D6 : (A4 == 0) = true := beq_iff_eq.mpr c4
  have D7 : (A4 != 0) = false := bne_eq_false_iff_eq.mpr c4
  clear c4
  replace H := bo_ H; obtain ⟨C3, A5, H⟩ := H; (try dsimp only at H)
  simp only [Option.some.injEq, Prod.mk.injEq] at H
  obtain ⟨rfl, rfl⟩ := H
  go_enter Tryz.func22, Tryz.ntmps22
  go_wp2_with (first | ((with_reducible refine bn (N := 2) rfl ?_); refine bG ?hg (N := 2) ?hd (cs := #[.int .i64 a0_0, .int .i64 a0_1, .slice A6 l0_2.length A7, .slice A8 l0_3.length A9, .slice B0 l0_4.length B3]) (t := 28) ?hr ?_; (case hd => rfl); (case hg => rfl); (case hr => first | (go_simp; done) | (go_simp; rfl)); intro A2 hg w6 hbox hb; have A1 := a_ (hbox); have C4 := a_ ((fO : w.heap.size ≤ A2)); have GE625 := a_ ((fO : w.heap.size ≤ A2)); replace HB := cK bX hb; clear hb hbox hg; obtain ⟨D8, D9, E0, E1, E2, E3, E4, E5, E6, E7⟩ := eU (w := w6) A1.out) | ((with_reducible refine av (f := 39) rfl ?_); refine bJ (some 9) rfl rfl Tryz.func39 (by kernel_rfl) rfl #[.agg #[.int .i64 a0_0, .int .i64 a0_1, .slice A6 l0_2.length A7, .slice A8 l0_3.length A9, .slice B0 l0_4.length B3], .string a1] rfl dN ?_; (with_reducible refine (ed.calls k a0_0 a0_1 _ _ l0_2 _ _ l0_3 _ _ l0_4 a1 A4 _ ?side1 ?side2 ?side3 ?side4 ?side5 ?side6 A3.out).mono ?_); (case side1 => exact kc_ (Kd.bT B4.out HB.out)); (case side2 => exact B7.out); (case side3 => exact kc_ (Kd.bT C0.out HB.out)); (case side4 => exact C1.out); (case side5 => exact kc_ (Kd.bT HR0_4.out HB.out)); (case side6 => exact C2.out); rintro e w8 ⟨rfl, hb⟩; refine ⟨_, rfl, ?_⟩; replace A1 := bb_ A2 A1 hb; replace HB := cK xw hb; (try clear hb); obtain ⟨E8, E9, F0, F1, F2, F3, F4, F5, F6, F7⟩ := eU (w := w8) A1.out) | ((with_reducible refine av (f := 70) rfl ?_); refine bJ (some 15) rfl rfl Tryz.func70 (by kernel_rfl) rfl #[.agg #[.int .i64 a0_0, .int .i64 a0_1, .slice A6 l0_2.length A7, .slice A8 l0_3.length A9, .slice B0 l0_4.length B3], .string a1] rfl dN ?_; (with_reducible refine (aV.calls k a0_0 a0_1 _ _ l0_2 _ _ l0_3 _ _ l0_4 a1 C3 _ ?side1 ?side2 ?side3 ?side4 ?side5 ?side6 A5.out).mono ?_); (case side1 => exact kc_ (Kd.bT B4.out HB.out)); (case side2 => exact B7.out); (case side3 => exact kc_ (Kd.bT C0.out HB.out)); (case side4 => exact C1.out); (case side5 => exact kc_ (Kd.bT HR0_4.out HB.out)); (case side6 => exact C2.out); rintro e G0 ⟨F8, rfl, ho0, hb⟩; refine ⟨_, rfl, ?_⟩; have C5 := a_ (Kd.bE ho0 (ai xw)); replace A1 := bb_ A2 A1 hb; replace HB := cK xw hb; (try clear hb); (try clear ho0)))
  go_ret2
  exact ⟨_, gy, by (with_reducible repeat (first | apply Kd.aC | apply Kd.aA | apply Kd.ay)); exact C5.out, xw⟩
 rw [if_neg c4] at H
 have D6 : (A4 == 0) = false := beq_eq_false_iff_ne.mpr c4
 have D7 : (A4 != 0) = true := bne_iff_ne.mpr c4
 simp only [Option.some.injEq, Prod.mk.injEq] at H
 obtain ⟨rfl, rfl⟩ := H
 go_enter Tryz.func22, Tryz.ntmps22
 go_wp2_with (first | ((with_reducible refine bn (N := 2) rfl ?_); refine bG ?hg (N := 2) ?hd (cs := #[.int .i64 a0_0, .int .i64 a0_1, .slice A6 l0_2.length A7, .slice A8 l0_3.length A9, .slice B0 l0_4.length B3]) (t := 28) ?hr ?_; (case hd => rfl); (case hg => rfl); (case hr => first | (go_simp; done) | (go_simp; rfl)); intro A2 hg F9 hbox hb; have A1 := a_ (hbox); have C4 := a_ ((fO : w.heap.size ≤ A2)); have GE625 := a_ ((fO : w.heap.size ≤ A2)); replace HB := cK bX hb; clear hb hbox hg; obtain ⟨C6, C7, C8, C9, D0, D1, D2, D3, D4, D5⟩ := eU (w := F9) A1.out) | ((with_reducible refine av (f := 39) rfl ?_); refine bJ (some 9) rfl rfl Tryz.func39 (by kernel_rfl) rfl #[.agg #[.int .i64 a0_0, .int .i64 a0_1, .slice A6 l0_2.length A7, .slice A8 l0_3.length A9, .slice B0 l0_4.length B3], .string a1] rfl dN ?_; (with_reducible refine (ed.calls k a0_0 a0_1 _ _ l0_2 _ _ l0_3 _ _ l0_4 a1 A4 _ ?side1 ?side2 ?side3 ?side4 ?side5 ?side6 A3.out).mono ?_); (case side1 => exact kc_ (Kd.bT B4.out HB.out)); (case side2 => exact B7.out); (case side3 => exact kc_ (Kd.bT C0.out HB.out)); (case side4 => exact C1.out); (case side5 => exact kc_ (Kd.bT HR0_4.out HB.out)); (case side6 => exact C2.out); rintro e G1 ⟨rfl, hb⟩; refine ⟨_, rfl, ?_⟩; replace A1 := bb_ A2 A1 hb; replace HB := cK xw hb; (try clear hb)))
 go_ret2
 exact ⟨_, gy, jX, xw⟩
end Go.Proofs.YtkpidjmhdagkfaaGreatDoor.QFnImposed
