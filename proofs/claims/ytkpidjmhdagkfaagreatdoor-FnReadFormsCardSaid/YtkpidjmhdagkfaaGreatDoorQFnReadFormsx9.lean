-- Written by own_print.py of this session's repo over the kit's print (its output, turned at some places).
import Derived.Test.YtkpidjmhdagkfaaGreatDoorQFnReadFormsx0
import Derived.Test.YtkpidjmhdagkfaaGreatDoorQFnReadFormsx7
namespace Go.Proofs.YtkpidjmhdagkfaaGreatDoor.QFnReadForms
open Go.RowKit Go.Proofs.YtkpidjmhdagkfaaGreatDoorW.PrintWords Go.Proofs.YtkpidjmhdagkfaaGreatDoorW.PrintLast Go.Proofs.YtkpidjmhdagkfaaGreatDoorW.PrintMore
attribute [local go_sem] ik iq iR iT gD gF il iw
set_option maxHeartbeats 8000000
set_option maxRecDepth 100000
set_option linter.unusedVariables false
set_option linter.unusedSimpArgs false
def aT.f (s0_0 : List Int) (s0_1 : Int) (s0_2 : Int) (a1 : Int) : Option (Int × Int × Int) := if a1 ≤ 1 then (some (0, s0_1, s0_2)) else (if s0_1 < (s0_0.length : Int) then (if 0 ≤ s0_1 then (if a1 ≤ 256 then (if (Int.tmod (wrap64 (s0_1 + 1)) 2) = 0 then (if 0 ≤ (wrap64 ((wrap64 (s0_1 + 1)) - 1)) then (if (wrap64 ((wrap64 (s0_1 + 1)) - 1)) < (s0_0.length : Int) then (if a1 = 0 then (none) else (some (Int.tmod (wrap64 (rd s0_0 (wrap64 ((wrap64 (s0_1 + 1)) - 1)))) a1, wrap64 (s0_1 + 1), Int.tmod (wrap64 ((wrap64 (s0_2 * 48271)) + 61)) 2147483647))) else (none)) else (none)) else (if a1 = 0 then (none) else (some (Int.tmod (wrap64 ((wrap64 (Int.tdiv (Int.tmod (wrap64 ((wrap64 (s0_2 * 48271)) + 61)) 2147483647) 31)) + (wrap64 (rd s0_0 s0_1)))) a1, wrap64 (s0_1 + 1), Int.tmod (wrap64 ((wrap64 (s0_2 * 48271)) + 61)) 2147483647)))) else (if a1 = 0 then (none) else (some (Int.tmod (wrap64 ((wrap64 (Int.tdiv (Int.tmod (wrap64 ((wrap64 (s0_2 * 48271)) + 61)) 2147483647) 31)) + (wrap64 (rd s0_0 s0_1)))) a1, wrap64 (s0_1 + 1), Int.tmod (wrap64 ((wrap64 (s0_2 * 48271)) + 61)) 2147483647)))) else (none)) else (if a1 = 0 then (none) else (some (Int.tmod (wrap64 (Int.tdiv (Int.tmod (wrap64 ((wrap64 (s0_2 * 48271)) + 61)) 2147483647) 31)) a1, s0_1, Int.tmod (wrap64 ((wrap64 (s0_2 * 48271)) + 61)) 2147483647))))
theorem aT.calls (g : Nat) (s0_0 : List Int) (s0_1 : Int) (s0_2 : Int) (a1 : Int) (r1 : Int) (r2 : Int) (r3 : Int) (w0 w : World) (hI : aj w0 w g s0_0 s0_1 s0_2) (hB : Below w0.heap.size w0 w) (h : aT.f s0_0 s0_1 s0_2 a1 = some (r1, r2, r3)) :
  Calls Tryz.prog 52 #[.pointer (some ⟨g, 0, none⟩), .int .i64 a1] w fun e w' => e = .returned (.int .i64 r1) ∧ aj w0 w' g s0_0 r2 r3 ∧ Below w0.heap.size w0 w' ∧ ax w w' g none := by
 have HI0 := a_ hI
 have HK := a_ (ax.refl w g none)
 have HL := ah.mk hB.size
 clear hI
 have HW0 := ah.mk hB.size
 have HB := a_ hB
 clear hB
 have H : (if a1 ≤ 1 then (some (0, s0_1, s0_2)) else (if s0_1 < (s0_0.length : Int) then (if 0 ≤ s0_1 then (if a1 ≤ 256 then (if (Int.tmod (wrap64 (s0_1 + 1)) 2) = 0 then (if 0 ≤ (wrap64 ((wrap64 (s0_1 + 1)) - 1)) then (if (wrap64 ((wrap64 (s0_1 + 1)) - 1)) < (s0_0.length : Int) then (if a1 = 0 then (none) else (some (Int.tmod (wrap64 (rd s0_0 (wrap64 ((wrap64 (s0_1 + 1)) - 1)))) a1, wrap64 (s0_1 + 1), Int.tmod (wrap64 ((wrap64 (s0_2 * 48271)) + 61)) 2147483647))) else (none)) else (none)) else (if a1 = 0 then (none) else (some (Int.tmod (wrap64 ((wrap64 (Int.tdiv (Int.tmod (wrap64 ((wrap64 (s0_2 * 48271)) + 61)) 2147483647) 31)) + (wrap64 (rd s0_0 s0_1)))) a1, wrap64 (s0_1 + 1), Int.tmod (wrap64 ((wrap64 (s0_2 * 48271)) + 61)) 2147483647)))) else (if a1 = 0 then (none) else (some (Int.tmod (wrap64 ((wrap64 (Int.tdiv (Int.tmod (wrap64 ((wrap64 (s0_2 * 48271)) + 61)) 2147483647) 31)) + (wrap64 (rd s0_0 s0_1)))) a1, wrap64 (s0_1 + 1), Int.tmod (wrap64 ((wrap64 (s0_2 * 48271)) + 61)) 2147483647)))) else (none)) else (if a1 = 0 then (none) else (some (Int.tmod (wrap64 (Int.tdiv (Int.tmod (wrap64 ((wrap64 (s0_2 * 48271)) + 61)) 2147483647) 31)) a1, s0_1, Int.tmod (wrap64 ((wrap64 (s0_2 * 48271)) + 61)) 2147483647))))) = some (r1, r2, r3) := h
 clear h
 by_cases c3 : a1 ≤ 1
 ·rw [if_pos c3] at H
  have E2 := decide_eq_true c3
  clear c3
  simp only [Option.some.injEq, Prod.mk.injEq] at H
  obtain ⟨rfl, rfl, rfl⟩ := H
  go_enter Tryz.func52, Tryz.ntmps52
  go_wp2
  repeat (go_quiet (fail); try go_wp2)
  go_ret
  exact ⟨fO, eD, fM, eZ⟩
 rw [if_neg c3] at H
 have E2 := decide_eq_false c3
 clear c3
 by_cases c4 : s0_1 < (s0_0.length : Int)
 ·rw [if_pos c4] at H
  have E3 := decide_eq_true c4
  clear c4
  replace H := ig_ H; obtain ⟨c5, H⟩ := H
  have F7 := decide_eq_true c5
  clear c5
  by_cases c6 : a1 ≤ 256
  ·rw [if_pos c6] at H
   have E4 := decide_eq_true c6
   clear c6
   by_cases c7 : (Int.tmod (wrap64 (s0_1 + 1)) 2) = 0
   ·rw [if_pos c7] at H
    have E5 : ((Int.tmod (wrap64 (s0_1 + 1)) 2) == 0) = true := beq_iff_eq.mpr c7
    have E6 : ((Int.tmod (wrap64 (s0_1 + 1)) 2) != 0) = false := bne_eq_false_iff_eq.mpr c7
    clear c7
    obtain ⟨B3, B0⟩ : ∃ j_ : Int, (wrap64 ((wrap64 (s0_1 + 1)) - 1)) = j_ := ⟨_, rfl⟩
    replace H : (if 0 ≤ (B3) then (if (B3) < (s0_0.length : Int) then (if a1 = 0 then (none) else (some (Int.tmod (wrap64 (rd s0_0 (B3))) a1, wrap64 (s0_1 + 1), Int.tmod (wrap64 ((wrap64 (s0_2 * 48271)) + 61)) 2147483647))) else (none)) else (none)) = some (r1, r2, r3) := by first | (rw [B0] at H; exact H) | (simp only [B0] at H ⊢; exact H)
    have hji8w : (IntKind.i64.wrap ((wrap64 (s0_1 + 1)) - 1)) = B3 := (eU _).trans B0
    replace H := ig_ H; obtain ⟨c9, H⟩ := H
    have F8 := decide_eq_true c9
    clear c9
    replace H := ig_ H; obtain ⟨c10, H⟩ := H
    have E8 := decide_eq_true c10
    clear c10
    replace H := in_ H; obtain ⟨c11, H⟩ := H
    have E9 : (a1 == 0) = false := beq_eq_false_iff_ne.mpr c11
    have F0 : (a1 != 0) = true := bne_iff_ne.mpr c11
    simp only [Option.some.injEq, Prod.mk.injEq] at H
    obtain ⟨rfl, rfl, rfl⟩ := H
    obtain ⟨ASz12_0, cSz12_0, HGz12, hgz12, HSz12_0⟩ := HI0.out
    have C1 := mV HGz12
    have C2 := mW HGz12
    have C3 := mX HGz12
    have C4 := bG HGz12 1
    have C5 := bG HGz12 2
    clear HGz12 hgz12
    have A6 : 0 ≤ (s0_1 : Int) := of_decide_eq_true aG
    have A7 : s0_1 < (s0_0.length : Int) := of_decide_eq_true aG
    obtain ⟨A3, A9, A1⟩ := Kd.dM HSz12_0 s0_1 A6 A7
    cases A9
    have hn427_0 : A3.block ≠ g := Nat.ne_of_lt (Nat.lt_of_lt_of_le (by have := World.block_lt_of_cell? _ _ A1; first | rwa [add_block] at this | exact this) (aj.ge HI0.out))
    replace A1 := iB HB.out A1
    replace A1 := (cell_far (p := ⟨g, 2, none⟩) BR (.int .i64 (Int.tmod (wrap64 ((wrap64 (s0_2 * 48271)) + 61)) 2147483647))).trans A1
    (try have A8 := fun (n_ : Nat) => (show (((w.drewN n_).setCell ⟨g, 2, none⟩ (.int .i64 (Int.tmod (wrap64 ((wrap64 (s0_2 * 48271)) + 61)) 2147483647)))).cell? _ = some _ from A1))
    clear hn427_0
    replace A6 := eq_true A6
    replace A7 := eq_true A7
    have B4 : 0 ≤ ((B3) : Int) := of_decide_eq_true aG
    have B7 : (B3) < (s0_0.length : Int) := of_decide_eq_true aG
    obtain ⟨C0, E7, A2⟩ := Kd.dM HSz12_0 (B3) B4 B7
    obtain rfl : A3 = C0 := (by injection E7)
    have A4 : A3.block ≠ g := Nat.ne_of_lt (Nat.lt_of_lt_of_le (by have := World.block_lt_of_cell? _ _ A2; first | rwa [add_block] at this | exact this) (aj.ge HI0.out))
    have A5 : A3.block ≠ g := Nat.ne_of_lt (Nat.lt_of_lt_of_le (by have := World.block_lt_of_cell? _ _ A2; first | rwa [add_block] at this | exact this) (aj.ge HI0.out))
    replace A2 := iB HB.out A2
    replace A2 := (cell_far (p := ⟨g, 2, none⟩) (by first | (rw [add_block]; exact A4) | (show (Addr.add _ _).block ≠ _; rw [add_block]; exact A4) | exact A4) (.int .i64 (Int.tmod (wrap64 ((wrap64 (s0_2 * 48271)) + 61)) 2147483647))).trans A2
    replace A2 := (cell_far (p := ⟨g, 1, none⟩) (by first | (rw [add_block]; exact A5) | (show (Addr.add _ _).block ≠ _; rw [add_block]; exact A5) | exact A5) (.int .i64 (wrap64 (s0_1 + 1)))).trans A2
    (try have C6 := fun (n_ : Nat) => (show ((((w.drewN n_).setCell ⟨g, 2, none⟩ (.int .i64 (Int.tmod (wrap64 ((wrap64 (s0_2 * 48271)) + 61)) 2147483647))).setCell ⟨g, 1, none⟩ (.int .i64 (wrap64 (s0_1 + 1))))).cell? _ = some _ from A2))
    (try have hz428_0 := fun (n_ : Nat) => (show ((((w.setCell ⟨g, 2, none⟩ (.int .i64 (Int.tmod (wrap64 ((wrap64 (s0_2 * 48271)) + 61)) 2147483647))).drewN n_).setCell ⟨g, 1, none⟩ (.int .i64 (wrap64 (s0_1 + 1))))).cell? _ = some _ from A2))
    clear A4; clear A5
    replace B4 := eq_true B4
    replace B7 := eq_true B7
    go_enter Tryz.func52, Tryz.ntmps52
    go_wp2
    repeat (go_quiet (fail); try go_wp2)
    go_ret
    exact ⟨by first | rfl | (simp only [Go.IntWalk.i64_left]; first | done | rfl) | (simp [gV, gW] <;> rfl) | (simp only [← B0]; first | rfl | (simp [gV, gW] <;> rfl)) | (simp [*, gV, gW] <;> rfl), eD, fM, eZ⟩
   rw [if_neg c7] at H
   have E5 : ((Int.tmod (wrap64 (s0_1 + 1)) 2) == 0) = false := beq_eq_false_iff_ne.mpr c7
   have E6 : ((Int.tmod (wrap64 (s0_1 + 1)) 2) != 0) = true := bne_iff_ne.mpr c7
   replace H := in_ H; obtain ⟨c13, H⟩ := H
   have F1 : (a1 == 0) = false := beq_eq_false_iff_ne.mpr c13
   have F2 : (a1 != 0) = true := bne_iff_ne.mpr c13
   simp only [Option.some.injEq, Prod.mk.injEq] at H
   obtain ⟨rfl, rfl, rfl⟩ := H
   obtain ⟨ASz14_0, cSz14_0, HGz14, hgz14, HSz14_0⟩ := HI0.out
   have C7 := mV HGz14
   have C8 := mW HGz14
   have C9 := mX HGz14
   have D0 := bG HGz14 1
   have D1 := bG HGz14 2
   clear HGz14 hgz14
   have A6 : 0 ≤ (s0_1 : Int) := of_decide_eq_true aG
   have A7 : s0_1 < (s0_0.length : Int) := of_decide_eq_true aG
   obtain ⟨A3, A9, A1⟩ := Kd.dM HSz14_0 s0_1 A6 A7
   cases A9
   have hn427_0 : A3.block ≠ g := Nat.ne_of_lt (Nat.lt_of_lt_of_le (by have := World.block_lt_of_cell? _ _ A1; first | rwa [add_block] at this | exact this) (aj.ge HI0.out))
   replace A1 := iB HB.out A1
   replace A1 := (cell_far (p := ⟨g, 2, none⟩) BR (.int .i64 (Int.tmod (wrap64 ((wrap64 (s0_2 * 48271)) + 61)) 2147483647))).trans A1
   (try have A8 := fun (n_ : Nat) => (show (((w.drewN n_).setCell ⟨g, 2, none⟩ (.int .i64 (Int.tmod (wrap64 ((wrap64 (s0_2 * 48271)) + 61)) 2147483647)))).cell? _ = some _ from A1))
   clear hn427_0
   replace A6 := eq_true A6
   replace A7 := eq_true A7
   go_enter Tryz.func52, Tryz.ntmps52
   go_wp2
   repeat (go_quiet (fail); try go_wp2)
   go_ret
   exact ⟨fO, eD, fM, eZ⟩
  rw [if_neg c6] at H
  have E4 := decide_eq_false c6
  clear c6
  replace H := in_ H; obtain ⟨c15, H⟩ := H
  have F3 : (a1 == 0) = false := beq_eq_false_iff_ne.mpr c15
  have F4 : (a1 != 0) = true := bne_iff_ne.mpr c15
  simp only [Option.some.injEq, Prod.mk.injEq] at H
  obtain ⟨rfl, rfl, rfl⟩ := H
  obtain ⟨ASz16_0, cSz16_0, HGz16, hgz16, HSz16_0⟩ := HI0.out
  have D2 := mV HGz16
  have D3 := mW HGz16
  have D4 := mX HGz16
  have D5 := bG HGz16 1
  have D6 := bG HGz16 2
  clear HGz16 hgz16
  have A6 : 0 ≤ (s0_1 : Int) := of_decide_eq_true aG
  have A7 : s0_1 < (s0_0.length : Int) := of_decide_eq_true aG
  obtain ⟨A3, A9, A1⟩ := Kd.dM HSz16_0 s0_1 A6 A7
  cases A9
  have hn427_0 : A3.block ≠ g := Nat.ne_of_lt (Nat.lt_of_lt_of_le (by have := World.block_lt_of_cell? _ _ A1; first | rwa [add_block] at this | exact this) (aj.ge HI0.out))
  replace A1 := iB HB.out A1
  replace A1 := (cell_far (p := ⟨g, 2, none⟩) BR (.int .i64 (Int.tmod (wrap64 ((wrap64 (s0_2 * 48271)) + 61)) 2147483647))).trans A1
  (try have A8 := fun (n_ : Nat) => (show (((w.drewN n_).setCell ⟨g, 2, none⟩ (.int .i64 (Int.tmod (wrap64 ((wrap64 (s0_2 * 48271)) + 61)) 2147483647)))).cell? _ = some _ from A1))
  clear hn427_0
  replace A6 := eq_true A6
  replace A7 := eq_true A7
  go_enter Tryz.func52, Tryz.ntmps52
  go_wp2
  repeat (go_quiet (fail); try go_wp2)
  go_ret
  exact ⟨fO, eD, fM, eZ⟩
 rw [if_neg c4] at H
 have E3 := decide_eq_false c4
 clear c4
 replace H := in_ H; obtain ⟨c17, H⟩ := H
 have F5 : (a1 == 0) = false := beq_eq_false_iff_ne.mpr c17
 have F6 : (a1 != 0) = true := bne_iff_ne.mpr c17
 simp only [Option.some.injEq, Prod.mk.injEq] at H
 obtain ⟨rfl, rfl, rfl⟩ := H
 obtain ⟨ASz18_0, cSz18_0, HGz18, hgz18, HSz18_0⟩ := HI0.out
 have D7 := mV HGz18
 have D8 := mW HGz18
 have D9 := mX HGz18
 have E0 := bG HGz18 1
 have E1 := bG HGz18 2
 clear HGz18 hgz18
 go_enter Tryz.func52, Tryz.ntmps52
 go_wp2
 repeat (go_quiet (fail); try go_wp2)
 go_ret
 exact ⟨fO, eD, fM, eZ⟩
def eu.f (s0_0 : List Int) (s0_1 : Int) (s0_2 : Int) (l1 : List Int) : Option (Int × Int × Int) := (aT.f s0_0 s0_1 s0_2 (l1.length : Int)).bind fun bt429 => (if 0 ≤ bt429.1 then (if bt429.1 < (l1.length : Int) then (some (rd l1 bt429.1, bt429.2.1, bt429.2.2)) else (none)) else (none))
theorem eu.calls (g : Nat) (s0_0 : List Int) (s0_1 : Int) (s0_2 : Int) (A1 : Option Addr) (c1 : Nat) (l1 : List Int) (r1 : Int) (r2 : Int) (r3 : Int) (w0 w : World) (hI : aj w0 w g s0_0 s0_1 s0_2) (hB : Below w0.heap.size w0 w) (hr1 : Kd.C (Kd.int .i64) w A1 l1.length l1) (hc1 : l1.length ≤ c1) (hf1 : ∀ ad, A1 = some ad → 0 < l1.length → ad.block ≠ g) (h : eu.f s0_0 s0_1 s0_2 l1 = some (r1, r2, r3)) :
  Calls Tryz.prog 53 #[.pointer (some ⟨g, 0, none⟩), .slice A1 l1.length c1] w fun e w' => e = .returned (.int .i64 r1) ∧ aj w0 w' g s0_0 r2 r3 ∧ Below w0.heap.size w0 w' ∧ ax w w' g none := by
 have HR1 := a_ hr1
 have C0 := a_ hc1
 clear hr1 hc1
 have HI0 := a_ hI
 have HK := a_ (ax.refl w g none)
 have HL := ah.mk hB.size
 clear hI
 have HW0 := ah.mk hB.size
 have HB := a_ hB
 clear hB
 have H : ((aT.f s0_0 s0_1 s0_2 (l1.length : Int)).bind fun A2 => (if 0 ≤ A2.1 then (if A2.1 < (l1.length : Int) then (some (rd l1 A2.1, A2.2.1, A2.2.2)) else (none)) else (none))) = some (r1, r2, r3) := h
 clear h
 replace H := bo_ H; obtain ⟨⟨A5, A9, B0⟩, A3, H⟩ := H; (try dsimp only at H)
 replace H := ig_ H; obtain ⟨c4, H⟩ := H
 have B4 := decide_eq_true c4
 clear c4
 replace H := ig_ H; obtain ⟨c5, H⟩ := H
 have B7 := decide_eq_true c5
 clear c5
 simp only [Option.some.injEq, Prod.mk.injEq] at H
 obtain ⟨rfl, rfl, rfl⟩ := H
 go_enter Tryz.func53, Tryz.ntmps53
 go_wp2_with (first | ((with_reducible refine av (f := 52) rfl ?_); refine bI (some 9) rfl rfl Tryz.func52 (by kernel_rfl) rfl #[.pointer (some ⟨g, 0, none⟩), .int .i64 (l1.length : Int)] rfl dL ?_; (with_reducible refine (aT.calls g s0_0 s0_1 s0_2 (l1.length : Int) A5 A9 B0 w0 _ ?side1 ?side2 A3.out).mono ?_); (case side1 => exact eD); (case side2 => exact fM); rintro e w6 ⟨rfl, hi, hb, hk⟩; refine ⟨_, rfl, ?_⟩; replace HK := a_ (ax.trans eZ hk (.inl rfl)); replace HB := a_ (hb); replace HI0 := a_ (hi); (try clear hb); (try clear hk); (try clear hi); have A6 : 0 ≤ (A5 : Int) := of_decide_eq_true aG; have A7 : A5 < (l1.length : Int) := of_decide_eq_true aG; obtain ⟨A8, B3, A4⟩ := Kd.dM HR1.out A5 A6 A7; cases B3; replace A4 := lw HK.out A4 (by first | (rw [add_block]; exact hf1 _ rfl (by omega)) | exact hf1 _ rfl (by omega) | exact hf1 A8 rfl (by omega)); replace A6 := eq_true A6; replace A7 := eq_true A7))
 go_ret
 exact ⟨fO, eD, fM, eZ⟩
def eG.f (s0_0 : List Int) (s0_1 : Int) (s0_2 : Int) : Option (Int × Int × Int) := (aT.f s0_0 s0_1 s0_2 40).bind fun bt433 => (if bt433.1 = 0 then ((eu.f s0_0 bt433.2.1 bt433.2.2 (([0, 3, (-1), 16] : List Int))).bind fun bt439 => (some (bt439.1, bt439.2.1, bt439.2.2))) else ((eu.f s0_0 bt433.2.1 bt433.2.2 (([1, 2, 2, 4, 4, 8] : List Int))).bind fun bt445 => (some (bt445.1, bt445.2.1, bt445.2.2))))
theorem eG.calls (g : Nat) (s0_0 : List Int) (s0_1 : Int) (s0_2 : Int) (r1 : Int) (r2 : Int) (r3 : Int) (w0 w : World) (hI : aj w0 w g s0_0 s0_1 s0_2) (hB : Below w0.heap.size w0 w) (h : eG.f s0_0 s0_1 s0_2 = some (r1, r2, r3)) :
  Calls Tryz.prog 79 #[.pointer (some ⟨g, 0, none⟩)] w fun e w' => e = .returned (.int .i64 r1) ∧ aj w0 w' g s0_0 r2 r3 ∧ Below w0.heap.size w0 w' ∧ ax w w' g none := by
 have HI0 := a_ hI
 have HK := a_ (ax.refl w g none)
 have HL := ah.mk hB.size
 clear hI
 have HW0 := ah.mk hB.size
 have HB := a_ hB
 clear hB
 have H : ((aT.f s0_0 s0_1 s0_2 40).bind fun A7 => (if A7.1 = 0 then ((eu.f s0_0 A7.2.1 A7.2.2 (([0, 3, (-1), 16] : List Int))).bind fun A1 => (some (A1.1, A1.2.1, A1.2.2))) else ((eu.f s0_0 A7.2.1 A7.2.2 (([1, 2, 2, 4, 4, 8] : List Int))).bind fun A3 => (some (A3.1, A3.2.1, A3.2.2))))) = some (r1, r2, r3) := h
 clear h
 replace H := bo_ H; obtain ⟨⟨B0, A8, A9⟩, A2, H⟩ := H; (try dsimp only at H)
 by_cases c3 : B0 = 0
 ·rw [if_pos c3] at H
  have C3 : (B0 == 0) = true := beq_iff_eq.mpr c3
  have C4 : (B0 != 0) = false := bne_eq_false_iff_eq.mpr c3
  clear c3
  obtain ⟨C1, B3⟩ : ∃ y_ : List Int, y_ = (([0, 3, (-1), 16] : List Int)) := ⟨_, rfl⟩
  replace H : ((eu.f s0_0 A8 A9 C1).bind fun A1 => (some (A1.1, A1.2.1, A1.2.2))) = some (r1, r2, r3) := rh_ B3 H
  have B7 := a_ B3
  clear B3
  replace H := bo_ H; obtain ⟨⟨C5, C6, C7⟩, A4, H⟩ := H; (try dsimp only at H)
  simp only [Option.some.injEq, Prod.mk.injEq] at H
  obtain ⟨rfl, rfl, rfl⟩ := H
  go_enter Tryz.func79, Tryz.ntmps79
  go_wp2_with (first | ((with_reducible refine av (f := 52) rfl ?_); refine bI (some 4) rfl rfl Tryz.func52 (by kernel_rfl) rfl #[.pointer (some ⟨g, 0, none⟩), .int .i64 40] rfl dL ?_; (with_reducible refine (aT.calls g s0_0 s0_1 s0_2 40 B0 A8 A9 w0 _ ?side1 ?side2 A2.out).mono ?_); (case side1 => exact eD); (case side2 => exact fM); rintro e w5 ⟨rfl, hi, hb, hk⟩; refine ⟨_, rfl, ?_⟩; replace HK := a_ (ax.trans eZ hk (.inl rfl)); replace HB := a_ (hb); replace HI0 := a_ (hi); (try clear hb); (try clear hk); (try clear hi)) | ((with_reducible refine bf (N := 7) rfl ?_); refine Kd.fU (Kd.int .i64) _ 2 ?hg (N := 7) ?hd (xs := ([0, 3, (-1), 16] : List Int)) (inner := [.int .i64 0, .int .i64 3, .int .i64 (-1), .int .i64 16]) (ok := fun _ => True) (okp := fun _ => True) ?hr ?hp (fun _ hk => hk) trivial (Below.refl _ _) (Nat.le_refl _) (by simp) ?_; (case hd => rfl); (case hg => rfl); (case hr => first | (go_simp; done) | (go_simp; rfl)); (case hp => exact (dm.one (show Kd.M (Kd.int .i64) _ _ _ 0 [.int .i64 0] from rfl) (dm.one (show Kd.M (Kd.int .i64) _ _ _ 3 [.int .i64 3] from rfl) (dm.one (show Kd.M (Kd.int .i64) _ _ _ (-1) [.int .i64 (-1)] from rfl) (dm.one (show Kd.M (Kd.int .i64) _ _ _ 16 [.int .i64 16] from rfl) (dm.none _ _)))))); intro D4 w6 ho7 hb hg_ hnew_; clear hg_ hnew_; (first | rw [← B7.out] at ho7 | (simp only [Int.reduceToNat] at ho7; rw [← B7.out] at ho7)); have A5 := a_ (Kd.bu ho7 (dZ (w := w) (g := g) (row := none) eZ)); replace HK := a_ (ax.trans eZ (ax.of_below hb g none) (.inl rfl)); replace HB := df fM hb; replace HI0 := a_ (aj.below eD hb); clear hb ho7; obtain ⟨D5, D6, D7⟩ := Kd.bg A5.out; subst D7) | ((with_reducible refine av (f := 53) rfl ?_); refine bI (some 8) rfl rfl Tryz.func53 (by kernel_rfl) rfl #[.pointer (some ⟨g, 0, none⟩), .slice D5 C1.length D6] rfl dL ?_; (with_reducible refine (eu.calls g s0_0 A8 A9 _ _ C1 C5 C6 C7 w0 _ ?side1 ?side2 ?side3 ?side4 ?side5 A4.out).mono ?_); (case side1 => exact eD); (case side2 => exact fM); (case side3 => exact (by (repeat (first | exact (Kd.aH A5.out).2.2 | (with_reducible refine Kd.dH ?_ _) | (with_reducible refine Kd.dJ ?_ _) | (with_reducible refine Kd.dX ?_))); first | done | fail)); (case side4 => exact (Kd.aH A5.out).2.1); (case side5 => exact mZ (aj.own_ne HI0.out A5.out (by decide))); rintro e w9 ⟨rfl, hi, hb, hk⟩; refine ⟨_, rfl, ?_⟩; replace A5 := a_ (Kd.ae (Kd.dC (aj.apart (show aj w0 _ g s0_0 A8 A9 from eD) (ra_ A5.out) (by decide)) hk (fun _ h => h.2)) (fun _ h => h.1)); replace HK := a_ (ax.trans eZ hk (.inl rfl)); replace HB := a_ (hb); replace HI0 := a_ (hi); (try clear hb); (try clear hk); (try clear hi)))
  go_ret
  exact ⟨fO, eD, fM, eZ⟩
 rw [if_neg c3] at H
 have C3 : (B0 == 0) = false := beq_eq_false_iff_ne.mpr c3
 have C4 : (B0 != 0) = true := bne_iff_ne.mpr c3
 obtain ⟨C2, B4⟩ : ∃ y_ : List Int, y_ = (([1, 2, 2, 4, 4, 8] : List Int)) := ⟨_, rfl⟩
 replace H : ((eu.f s0_0 A8 A9 C2).bind fun A3 => (some (A3.1, A3.2.1, A3.2.2))) = some (r1, r2, r3) := rh_ B4 H
 have C0 := a_ B4
 clear B4
 replace H := bo_ H; obtain ⟨⟨C8, C9, D0⟩, D8, H⟩ := H; (try dsimp only at H)
 simp only [Option.some.injEq, Prod.mk.injEq] at H
 obtain ⟨rfl, rfl, rfl⟩ := H
 go_enter Tryz.func79, Tryz.ntmps79
 go_wp2_with (first | ((with_reducible refine av (f := 52) rfl ?_); refine bI (some 4) rfl rfl Tryz.func52 (by kernel_rfl) rfl #[.pointer (some ⟨g, 0, none⟩), .int .i64 40] rfl dL ?_; (with_reducible refine (aT.calls g s0_0 s0_1 s0_2 40 B0 A8 A9 w0 _ ?side1 ?side2 A2.out).mono ?_); (case side1 => exact eD); (case side2 => exact fM); rintro e E0 ⟨rfl, hi, hb, hk⟩; refine ⟨_, rfl, ?_⟩; replace HK := a_ (ax.trans eZ hk (.inl rfl)); replace HB := a_ (hb); replace HI0 := a_ (hi); (try clear hb); (try clear hk); (try clear hi)) | ((with_reducible refine bf (N := 10) rfl ?_); refine Kd.fU (Kd.int .i64) _ 2 ?hg (N := 10) ?hd (xs := ([1, 2, 2, 4, 4, 8] : List Int)) (inner := [.int .i64 1, .int .i64 2, .int .i64 2, .int .i64 4, .int .i64 4, .int .i64 8]) (ok := fun _ => True) (okp := fun _ => True) ?hr ?hp (fun _ hk => hk) trivial (Below.refl _ _) (Nat.le_refl _) (by simp) ?_; (case hd => rfl); (case hg => rfl); (case hr => first | (go_simp; done) | (go_simp; rfl)); (case hp => exact (dm.one (show Kd.M (Kd.int .i64) _ _ _ 1 [.int .i64 1] from rfl) (dm.one (show Kd.M (Kd.int .i64) _ _ _ 2 [.int .i64 2] from rfl) (dm.one (show Kd.M (Kd.int .i64) _ _ _ 2 [.int .i64 2] from rfl) (dm.one (show Kd.M (Kd.int .i64) _ _ _ 4 [.int .i64 4] from rfl) (dm.one (show Kd.M (Kd.int .i64) _ _ _ 4 [.int .i64 4] from rfl) (dm.one (show Kd.M (Kd.int .i64) _ _ _ 8 [.int .i64 8] from rfl) (dm.none _ _)))))))); intro D9 E1 ho13 hb hg_ hnew_; clear hg_ hnew_; (first | rw [← C0.out] at ho13 | (simp only [Int.reduceToNat] at ho13; rw [← C0.out] at ho13)); have A6 := a_ (Kd.bu ho13 (dZ (w := w) (g := g) (row := none) eZ)); replace HK := a_ (ax.trans eZ (ax.of_below hb g none) (.inl rfl)); replace HB := df fM hb; replace HI0 := a_ (aj.below eD hb); clear hb ho13; obtain ⟨D1, D2, D3⟩ := Kd.bg A6.out; subst D3) | ((with_reducible refine av (f := 53) rfl ?_); refine bI (some 11) rfl rfl Tryz.func53 (by kernel_rfl) rfl #[.pointer (some ⟨g, 0, none⟩), .slice D1 C2.length D2] rfl dL ?_; (with_reducible refine (eu.calls g s0_0 A8 A9 _ _ C2 C8 C9 D0 w0 _ ?side1 ?side2 ?side3 ?side4 ?side5 D8.out).mono ?_); (case side1 => exact eD); (case side2 => exact fM); (case side3 => exact (by (repeat (first | exact (Kd.aH A6.out).2.2 | (with_reducible refine Kd.dH ?_ _) | (with_reducible refine Kd.dJ ?_ _) | (with_reducible refine Kd.dX ?_))); first | done | fail)); (case side4 => exact (Kd.aH A6.out).2.1); (case side5 => exact mZ (aj.own_ne HI0.out A6.out (by decide))); rintro e E2 ⟨rfl, hi, hb, hk⟩; refine ⟨_, rfl, ?_⟩; replace A6 := a_ (Kd.ae (Kd.dC (aj.apart (show aj w0 _ g s0_0 A8 A9 from eD) (ra_ A6.out) (by decide)) hk (fun _ h => h.2)) (fun _ h => h.1)); replace HK := a_ (ax.trans eZ hk (.inl rfl)); replace HB := a_ (hb); replace HI0 := a_ (hi); (try clear hb); (try clear hk); (try clear hi)))
 go_ret
 exact ⟨fO, eD, fM, eZ⟩
def cZ.l0 : Nat → Int → Int → Int → Int → List Int → List Int → Int → Int → Option (Int × Int × ByteArray × Int × Int)
 | 0, _, _, _, _, _, _, _, _ => none
 | k + 1, x5, x6, x7, x9, x11, x1000, x1001, x1002 => if (wrap64 (x7 + x9)) > 0 then ((aT.f x1000 x1001 x1002 (wrap64 (x7 + x9))).bind fun bt461 => (if bt461.1 < x7 then ((aT.f x1000 bt461.2.1 bt461.2.2 2).bind fun bt464 => (if 0 ≤ bt464.1 then (if bt464.1 < 2 then (if x11.length < 140737488355328 then (cZ.l0 k x5 x6 (wrap64 (x7 - 1)) x9 (x11 ++ [bt (⟨#[76, 82]⟩ : ByteArray) bt464.1]) x1000 bt464.2.1 bt464.2.2) else (none)) else (none)) else (none))) else ((aT.f x1000 bt461.2.1 bt461.2.2 2).bind fun bt470 => (if 0 ≤ bt470.1 then (if bt470.1 < 2 then (if x11.length < 140737488355328 then (cZ.l0 k x5 x6 x7 (wrap64 (x9 - 1)) (x11 ++ [bt (⟨#[84, 66]⟩ : ByteArray) bt470.1]) x1000 bt470.2.1 bt470.2.2) else (none)) else (none)) else (none))))) else ((aT.f x1000 x1001 x1002 40).bind fun bt476 => (if bt476.1 = 0 then (if (strOfNums x11).size + 1 ≤ 9223372036854775807 then (some (x5, x6, (strOfNums x11) ++ (⟨#[76]⟩ : ByteArray), bt476.2.1, bt476.2.2)) else (none)) else (if bt476.1 = 1 then (some (x5, x6, (⟨#[120]⟩ : ByteArray), bt476.2.1, bt476.2.2)) else (some (x5, x6, strOfNums x11, bt476.2.1, bt476.2.2)))))
def cZ.f (k : Nat) (s0_0 : List Int) (s0_1 : Int) (s0_2 : Int) : Option (Int × Int × ByteArray × Int × Int) := (eG.f s0_0 s0_1 s0_2).bind fun bt448 => ((eG.f s0_0 bt448.2.1 bt448.2.2).bind fun bt451 => ((bq.f bt448.1).bind fun bt454 => ((bq.f bt451.1).bind fun bt456 => (cZ.l0 k bt448.1 bt451.1 bt454.1 bt456.1 (([] : List Int)) s0_0 bt451.2.1 bt451.2.2))))
theorem cZ.di : ∀ k, (∀ y0 y1 y2 y3 y4 y5 y6 y7, LeO (cZ.l0 k y0 y1 y2 y3 y4 y5 y6 y7) (cZ.l0 (k + 1) y0 y1 y2 y3 y4 y5 y6 y7))
 | 0 => fun _ _ _ _ _ _ _ _ r h => by simp [cZ.l0] at h
 | k + 1 => by
  have ih0 := cZ.di k
  ·intro y0 y1 y2 y3 y4 y5 y6 y7
   unfold cZ.l0
   repeat' first | (with_reducible first | exact ih0 .. | exact LeO.refl .. | exact LeO.none .. | refine LeO.ite ?_ ?_ | refine LeO.bind ?_ (fun _ => ?_))
theorem cZ.mono : ∀ a0 a1 a2 k, LeO (cZ.f k a0 a1 a2) (cZ.f (k + 1) a0 a1 a2) := by
 intro a0 a1 a2 k
 have ih0 := cZ.di k
 unfold cZ.f
 repeat' first | (with_reducible first | exact ih0 .. | exact LeO.refl .. | exact LeO.none .. | refine LeO.ite ?_ ?_ | refine LeO.bind ?_ (fun _ => ?_))
theorem cZ.calls (k : Nat) (g : Nat) (s0_0 : List Int) (s0_1 : Int) (s0_2 : Int) (r1 : Int) (r2 : Int) (r3 : ByteArray) (r4 : Int) (r5 : Int) (w0 w : World) (hI : aj w0 w g s0_0 s0_1 s0_2) (hB : Below w0.heap.size w0 w) (h : cZ.f k s0_0 s0_1 s0_2 = some (r1, r2, r3, r4, r5)) :
  Calls Tryz.prog 41 #[.pointer (some ⟨g, 0, none⟩)] w fun e w' => e = .returned (.tuple #[.int .i64 r1, .int .i64 r2, .string r3]) ∧ aj w0 w' g s0_0 r4 r5 ∧ Below w0.heap.size w0 w' ∧ ax w w' g none := by
 have HI0 := a_ hI
 have HK := a_ (ax.refl w g none)
 have HL := ah.mk hB.size
 clear hI
 have HW0 := ah.mk hB.size
 have HB := a_ hB
 clear hB
 have H : ((eG.f s0_0 s0_1 s0_2).bind fun D6 => ((eG.f s0_0 D6.2.1 D6.2.2).bind fun D7 => ((bq.f D6.1).bind fun F8 => ((bq.f D7.1).bind fun F9 => (cZ.l0 k D6.1 D7.1 F8.1 F9.1 (([] : List Int)) s0_0 D7.2.1 D7.2.2))))) = some (r1, r2, r3, r4, r5) := h
 clear h
 replace H := bo_ H; obtain ⟨⟨C3, E2, E3⟩, A2, H⟩ := H; (try dsimp only at H)
 replace H := bo_ H; obtain ⟨⟨C4, E4, E5⟩, A3, H⟩ := H; (try dsimp only at H)
 replace H := bo_ H; obtain ⟨⟨E6, F6⟩, A4, H⟩ := H; (try dsimp only at H)
 replace H := bo_ H; obtain ⟨⟨E7, F7⟩, A5, H⟩ := H; (try dsimp only at H)
 obtain ⟨G0, E8⟩ : ∃ y_ : List Int, y_ = (([] : List Int)) := ⟨_, rfl⟩
 replace H : (cZ.l0 k C3 C4 E6 E7 G0 s0_0 E4 E5) = some (r1, r2, r3, r4, r5) := rh_ E8 H
 have C5 := a_ E8
 clear E8
 have H' := a_ H
 clear H
 go_enter Tryz.func41, Tryz.ntmps41
 go_wp2_with (first | (go_at_call 79; (with_reducible refine (eG.calls g s0_0 s0_1 s0_2 C3 E2 E3 w0 _ ?side1 ?side2 A2.out).mono ?_); (case side1 => exact eD); (case side2 => exact fM); rintro e w6 ⟨rfl, hi, hb, hk⟩; replace HK := a_ (ax.trans eZ hk (.inl rfl)); replace HB := a_ (hb); replace HI0 := a_ (hi); (try clear hb); (try clear hk); (try clear hi)) | (go_at_call 79; (with_reducible refine (eG.calls g s0_0 E2 E3 C4 E4 E5 w0 _ ?side1 ?side2 A3.out).mono ?_); (case side1 => exact eD); (case side2 => exact fM); rintro e w7 ⟨rfl, hi, hb, hk⟩; replace HK := a_ (ax.trans eZ hk (.inl rfl)); replace HB := a_ (hb); replace HI0 := a_ (hi); (try clear hb); (try clear hk); (try clear hi)) | (go_at_call 80; (with_reducible refine (bq.calls C3 E6 F6 _ A4.out).mono ?_); rintro e w' ⟨rfl, ⟨nd, rfl⟩⟩; (try first | exact ⟨rfl, _, World.drewN_drewN _ _ _⟩ | exact ⟨rfl, _, Eq.trans (World.drewN_drewN _ _ _) (congrArg (World.drewN _) (Nat.add_assoc _ _ _))⟩)) | (go_at_call 80; (with_reducible refine (bq.calls C4 E7 F7 _ A5.out).mono ?_); rintro e w' ⟨rfl, ⟨nd, rfl⟩⟩; (try first | exact ⟨rfl, _, World.drewN_drewN _ _ _⟩ | exact ⟨rfl, _, Eq.trans (World.drewN_drewN _ _ _) (congrArg (World.drewN _) (Nat.add_assoc _ _ _))⟩)) | ((with_reducible refine bf (N := 26) rfl ?_); refine Kd.fU (Kd.int .u8) _ 5 ?hg (N := 26) ?hd (xs := ([] : List Int)) (inner := []) (ok := fun _ => True) (okp := fun _ => True) ?hr ?hp (fun _ hk => hk) trivial (Below.refl _ _) (Nat.le_refl _) (by simp) ?_; (case hd => rfl); (case hg => rfl); (case hr => first | (go_simp; done) | (go_simp; rfl)); (case hp => exact (dm.none _ _)); intro G1 w8 ho9 hb hg_ hnew_; clear hg_ hnew_; (first | rw [← C5.out] at ho9 | (simp only [Int.reduceToNat] at ho9; rw [← C5.out] at ho9)); have E9 := a_ (Kd.bu ho9 (dZ (w := w) (g := g) (row := none) eZ)); replace HK := a_ (ax.trans eZ (ax.of_below hb g none) (.inl rfl)); replace HB := df fM hb; replace HI0 := a_ (aj.below eD hb); clear hb ho9))
 repeat (go_quiet (first | (go_at_call 79; (with_reducible refine (eG.calls g s0_0 s0_1 s0_2 C3 E2 E3 w0 _ ?side1 ?side2 A2.out).mono ?_); (case side1 => exact eD); (case side2 => exact fM); rintro e w6 ⟨rfl, hi, hb, hk⟩; replace HK := a_ (ax.trans eZ hk (.inl rfl)); replace HB := a_ (hb); replace HI0 := a_ (hi); (try clear hb); (try clear hk); (try clear hi)) | (go_at_call 79; (with_reducible refine (eG.calls g s0_0 E2 E3 C4 E4 E5 w0 _ ?side1 ?side2 A3.out).mono ?_); (case side1 => exact eD); (case side2 => exact fM); rintro e w7 ⟨rfl, hi, hb, hk⟩; replace HK := a_ (ax.trans eZ hk (.inl rfl)); replace HB := a_ (hb); replace HI0 := a_ (hi); (try clear hb); (try clear hk); (try clear hi)) | (go_at_call 80; (with_reducible refine (bq.calls C3 E6 F6 _ A4.out).mono ?_); rintro e w' ⟨rfl, ⟨nd, rfl⟩⟩; (try first | exact ⟨rfl, _, World.drewN_drewN _ _ _⟩ | exact ⟨rfl, _, Eq.trans (World.drewN_drewN _ _ _) (congrArg (World.drewN _) (Nat.add_assoc _ _ _))⟩)) | (go_at_call 80; (with_reducible refine (bq.calls C4 E7 F7 _ A5.out).mono ?_); rintro e w' ⟨rfl, ⟨nd, rfl⟩⟩; (try first | exact ⟨rfl, _, World.drewN_drewN _ _ _⟩ | exact ⟨rfl, _, Eq.trans (World.drewN_drewN _ _ _) (congrArg (World.drewN _) (Nat.add_assoc _ _ _))⟩)) | ((with_reducible refine bf (N := 26) rfl ?_); refine Kd.fU (Kd.int .u8) _ 5 ?hg (N := 26) ?hd (xs := ([] : List Int)) (inner := []) (ok := fun _ => True) (okp := fun _ => True) ?hr ?hp (fun _ hk => hk) trivial (Below.refl _ _) (Nat.le_refl _) (by simp) ?_; (case hd => rfl); (case hg => rfl); (case hr => first | (go_simp; done) | (go_simp; rfl)); (case hp => exact (dm.none _ _)); intro G1 w8 ho9 hb hg_ hnew_; clear hg_ hnew_; (first | rw [← C5.out] at ho9 | (simp only [Int.reduceToNat] at ho9; rw [← C5.out] at ho9)); have E9 := a_ (Kd.bu ho9 (dZ (w := w) (g := g) (row := none) eZ)); replace HK := a_ (ax.trans eZ (ax.of_below hb g none) (.inl rfl)); replace HB := df fM hb; replace HI0 := a_ (aj.below eD hb); clear hb ho9)); try go_wp2_with (first | (go_at_call 79; (with_reducible refine (eG.calls g s0_0 s0_1 s0_2 C3 E2 E3 w0 _ ?side1 ?side2 A2.out).mono ?_); (case side1 => exact eD); (case side2 => exact fM); rintro e w6 ⟨rfl, hi, hb, hk⟩; replace HK := a_ (ax.trans eZ hk (.inl rfl)); replace HB := a_ (hb); replace HI0 := a_ (hi); (try clear hb); (try clear hk); (try clear hi)) | (go_at_call 79; (with_reducible refine (eG.calls g s0_0 E2 E3 C4 E4 E5 w0 _ ?side1 ?side2 A3.out).mono ?_); (case side1 => exact eD); (case side2 => exact fM); rintro e w7 ⟨rfl, hi, hb, hk⟩; replace HK := a_ (ax.trans eZ hk (.inl rfl)); replace HB := a_ (hb); replace HI0 := a_ (hi); (try clear hb); (try clear hk); (try clear hi)) | (go_at_call 80; (with_reducible refine (bq.calls C3 E6 F6 _ A4.out).mono ?_); rintro e w' ⟨rfl, ⟨nd, rfl⟩⟩; (try first | exact ⟨rfl, _, World.drewN_drewN _ _ _⟩ | exact ⟨rfl, _, Eq.trans (World.drewN_drewN _ _ _) (congrArg (World.drewN _) (Nat.add_assoc _ _ _))⟩)) | (go_at_call 80; (with_reducible refine (bq.calls C4 E7 F7 _ A5.out).mono ?_); rintro e w' ⟨rfl, ⟨nd, rfl⟩⟩; (try first | exact ⟨rfl, _, World.drewN_drewN _ _ _⟩ | exact ⟨rfl, _, Eq.trans (World.drewN_drewN _ _ _) (congrArg (World.drewN _) (Nat.add_assoc _ _ _))⟩)) | ((with_reducible refine bf (N := 26) rfl ?_); refine Kd.fU (Kd.int .u8) _ 5 ?hg (N := 26) ?hd (xs := ([] : List Int)) (inner := []) (ok := fun _ => True) (okp := fun _ => True) ?hr ?hp (fun _ hk => hk) trivial (Below.refl _ _) (Nat.le_refl _) (by simp) ?_; (case hd => rfl); (case hg => rfl); (case hr => first | (go_simp; done) | (go_simp; rfl)); (case hp => exact (dm.none _ _)); intro G1 w8 ho9 hb hg_ hnew_; clear hg_ hnew_; (first | rw [← C5.out] at ho9 | (simp only [Int.reduceToNat] at ho9; rw [← C5.out] at ho9)); have E9 := a_ (Kd.bu ho9 (dZ (w := w) (g := g) (row := none) eZ)); replace HK := a_ (ax.trans eZ (ax.of_below hb g none) (.inl rfl)); replace HB := df fM hb; replace HI0 := a_ (aj.below eD hb); clear hb ho9)))
 go_loopg [7, 9, 11] k (fun kq v7 v9 v11 w' => ∃ (B7 : Int) (C0 : Int) (B4 : List Int) (A6 : Int) (A7 : Int), v7 = .int .i64 B7 ∧ v9 = .int .i64 C0 ∧ ah (cZ.l0 kq C3 C4 B7 C0 B4 s0_0 A6 A7 = some (r1, r2, r3, r4, r5)) ∧ ah (kq ≤ k) ∧ ah (Kd.R (Kd.int .u8) 5 w' w.heap.size (fun _ => True) v11 B4) ∧ ah (aj w0 w' g s0_0 A6 A7) ∧ ah (ax w w' g none) ∧ ah (Below w0.heap.size w0 w'))
 case atStart => exact ⟨(E6), (E7), (G0), (E4), (E5), bZ, bZ, H', ⟨Nat.le_refl _⟩, ⟨by (with_reducible repeat (first | apply Kd.aC | apply Kd.aD | apply Kd.az)); exact E9.out⟩, ⟨eD⟩, ⟨eZ⟩, ⟨fM⟩⟩
 case round =>
  clear H'
  obtain ⟨B7, C0, B4, A6, A7, rfl, rfl, HA, HK1, A1, HI0, HK, HB⟩ := hrel
  cases gk with
  | zero => exact absurd HA.out (by simp [cZ.l0])
  | succ k1 =>
   have H := HA.out
   clear HA
   simp only [cZ.l0] at H
   by_cases c10 : (wrap64 (B7 + C0)) > 0
   ·rw [if_pos c10] at H
    have G2 := decide_eq_true c10
    clear c10
    replace H := bo_ H; obtain ⟨⟨C2, B0, B3⟩, F2, H⟩ := H; (try dsimp only at H)
    by_cases c12 : C2 < B7
    ·rw [if_pos c12] at H
     have G3 := decide_eq_true c12
     clear c12
     replace H := bo_ H; obtain ⟨⟨A8, D2, D3⟩, G4, H⟩ := H; (try dsimp only at H)
     replace H := ig_ H; obtain ⟨c14, H⟩ := H
     have H8 := decide_eq_true c14
     clear c14
     replace H := ig_ H; obtain ⟨c15, H⟩ := H
     have H9 := decide_eq_true c15
     clear c15
     replace H := ig_ H; obtain ⟨c17, H⟩ := H
     have LMc17 := a_ c17
     clear c17
     obtain ⟨G5, F0⟩ : ∃ y_ : List Int, y_ = (B4 ++ [bt (⟨#[76, 82]⟩ : ByteArray) A8]) := ⟨_, rfl⟩
     replace H : (cZ.l0 k1 C3 C4 (wrap64 (B7 - 1)) C0 G5 s0_0 D2 D3) = some (r1, r2, r3, r4, r5) := rh_ F0 H
     have C8 := a_ F0
     clear F0
     have H' := a_ H
     clear H
     go_wp2_with (first | (go_at_call 52; (with_reducible refine (aT.calls g s0_0 A6 A7 (wrap64 (B7 + C0)) C2 B0 B3 w0 _ ?side1 ?side2 F2.out).mono ?_); (case side1 => exact eD); (case side2 => exact fM); rintro e H2 ⟨rfl, hi, hb, hk⟩; replace A1 := a_ (Kd.ae (Kd.dC (aj.apart (show aj w0 _ g s0_0 A6 A7 from eD) (ra_ A1.out) (by decide)) hk (fun _ h => h.2)) (fun _ h => h.1)); replace HK := a_ (ax.trans eZ hk (.inl rfl)); replace HB := a_ (hb); replace HI0 := a_ (hi); (try clear hb); (try clear hk); (try clear hi)) | (go_at_call 52; (with_reducible refine (aT.calls g s0_0 B0 B3 2 A8 D2 D3 w0 _ ?side1 ?side2 G4.out).mono ?_); (case side1 => exact eD); (case side2 => exact fM); rintro e H3 ⟨rfl, hi, hb, hk⟩; replace A1 := a_ (Kd.ae (Kd.dC (aj.apart (show aj w0 _ g s0_0 B0 B3 from eD) (ra_ A1.out) (by decide)) hk (fun _ h => h.2)) (fun _ h => h.1)); replace HK := a_ (ax.trans eZ hk (.inl rfl)); replace HB := a_ (hb); replace HI0 := a_ (hi); (try clear hb); (try clear hk); (try clear hi); have D8 : 0 ≤ (A8 : Int) := of_decide_eq_true aG; have D9 : A8 < (2 : Int) := of_decide_eq_true aG; have hx16 := jI (⟨#[76, 82]⟩ : ByteArray) A8; replace D8 := eq_true D8; replace D9 := eq_true D9) | ((with_reducible refine bF (b := .append) (xs := #[.tmp 38, .tmp 42]) rfl ?_); at_builtin; refine Kd.fH (Kd.int .u8) w.heap.size rfl (.tmp 38) (.tmp 42) 32 5 (.int .u8 0) 1 rfl Tryz.underlying32 info5 rfl (by decide) (by omega) u11 B4 (bt (⟨#[76, 82]⟩ : ByteArray) A8) [.int .u8 (bt (⟨#[76, 82]⟩ : ByteArray) A8)] (fun _ => True) (fun _ => False) rfl rfl ?aP (fun _ hk => hk.elim) ?aF ?aO (Below.refl _ _) ?aS ?aL ?_; (case aP => exact rfl); (case aF => exact (fun _ _ => trivial)); (case aO => exact (ra_ A1.out)); (case aS => exact (dZ (w := w) (g := g) (row := none) eZ)); (case aL => have := LMc17.out; omega); intro F3 H4 ho hb hg hat; rw [← C8.out] at ho; replace HB := a_ (gq fM HL.out hb); replace HI0 := a_ (aj.grown eD hg (aj.own_ne HI0.out A1.out (by decide))); replace HK := a_ (ax.trans eZ (ax.iM hg g) (Kd.jE A1.out)); have C9 := a_ (ho); clear A1; clear ho hb hg hat))
     repeat (go_quiet (first | (go_at_call 52; (with_reducible refine (aT.calls g s0_0 A6 A7 (wrap64 (B7 + C0)) C2 B0 B3 w0 _ ?side1 ?side2 F2.out).mono ?_); (case side1 => exact eD); (case side2 => exact fM); rintro e H2 ⟨rfl, hi, hb, hk⟩; replace A1 := a_ (Kd.ae (Kd.dC (aj.apart (show aj w0 _ g s0_0 A6 A7 from eD) (ra_ A1.out) (by decide)) hk (fun _ h => h.2)) (fun _ h => h.1)); replace HK := a_ (ax.trans eZ hk (.inl rfl)); replace HB := a_ (hb); replace HI0 := a_ (hi); (try clear hb); (try clear hk); (try clear hi)) | (go_at_call 52; (with_reducible refine (aT.calls g s0_0 B0 B3 2 A8 D2 D3 w0 _ ?side1 ?side2 G4.out).mono ?_); (case side1 => exact eD); (case side2 => exact fM); rintro e H3 ⟨rfl, hi, hb, hk⟩; replace A1 := a_ (Kd.ae (Kd.dC (aj.apart (show aj w0 _ g s0_0 B0 B3 from eD) (ra_ A1.out) (by decide)) hk (fun _ h => h.2)) (fun _ h => h.1)); replace HK := a_ (ax.trans eZ hk (.inl rfl)); replace HB := a_ (hb); replace HI0 := a_ (hi); (try clear hb); (try clear hk); (try clear hi); have D8 : 0 ≤ (A8 : Int) := of_decide_eq_true aG; have D9 : A8 < (2 : Int) := of_decide_eq_true aG; have hx16 := jI (⟨#[76, 82]⟩ : ByteArray) A8; replace D8 := eq_true D8; replace D9 := eq_true D9) | ((with_reducible refine bF (b := .append) (xs := #[.tmp 38, .tmp 42]) rfl ?_); at_builtin; refine Kd.fH (Kd.int .u8) w.heap.size rfl (.tmp 38) (.tmp 42) 32 5 (.int .u8 0) 1 rfl Tryz.underlying32 info5 rfl (by decide) (by omega) u11 B4 (bt (⟨#[76, 82]⟩ : ByteArray) A8) [.int .u8 (bt (⟨#[76, 82]⟩ : ByteArray) A8)] (fun _ => True) (fun _ => False) rfl rfl ?aP (fun _ hk => hk.elim) ?aF ?aO (Below.refl _ _) ?aS ?aL ?_; (case aP => exact rfl); (case aF => exact (fun _ _ => trivial)); (case aO => exact (ra_ A1.out)); (case aS => exact (dZ (w := w) (g := g) (row := none) eZ)); (case aL => have := LMc17.out; omega); intro F3 H4 ho hb hg hat; rw [← C8.out] at ho; replace HB := a_ (gq fM HL.out hb); replace HI0 := a_ (aj.grown eD hg (aj.own_ne HI0.out A1.out (by decide))); replace HK := a_ (ax.trans eZ (ax.iM hg g) (Kd.jE A1.out)); have C9 := a_ (ho); clear A1; clear ho hb hg hat)); try go_wp2_with (first | (go_at_call 52; (with_reducible refine (aT.calls g s0_0 A6 A7 (wrap64 (B7 + C0)) C2 B0 B3 w0 _ ?side1 ?side2 F2.out).mono ?_); (case side1 => exact eD); (case side2 => exact fM); rintro e H2 ⟨rfl, hi, hb, hk⟩; replace A1 := a_ (Kd.ae (Kd.dC (aj.apart (show aj w0 _ g s0_0 A6 A7 from eD) (ra_ A1.out) (by decide)) hk (fun _ h => h.2)) (fun _ h => h.1)); replace HK := a_ (ax.trans eZ hk (.inl rfl)); replace HB := a_ (hb); replace HI0 := a_ (hi); (try clear hb); (try clear hk); (try clear hi)) | (go_at_call 52; (with_reducible refine (aT.calls g s0_0 B0 B3 2 A8 D2 D3 w0 _ ?side1 ?side2 G4.out).mono ?_); (case side1 => exact eD); (case side2 => exact fM); rintro e H3 ⟨rfl, hi, hb, hk⟩; replace A1 := a_ (Kd.ae (Kd.dC (aj.apart (show aj w0 _ g s0_0 B0 B3 from eD) (ra_ A1.out) (by decide)) hk (fun _ h => h.2)) (fun _ h => h.1)); replace HK := a_ (ax.trans eZ hk (.inl rfl)); replace HB := a_ (hb); replace HI0 := a_ (hi); (try clear hb); (try clear hk); (try clear hi); have D8 : 0 ≤ (A8 : Int) := of_decide_eq_true aG; have D9 : A8 < (2 : Int) := of_decide_eq_true aG; have hx16 := jI (⟨#[76, 82]⟩ : ByteArray) A8; replace D8 := eq_true D8; replace D9 := eq_true D9) | ((with_reducible refine bF (b := .append) (xs := #[.tmp 38, .tmp 42]) rfl ?_); at_builtin; refine Kd.fH (Kd.int .u8) w.heap.size rfl (.tmp 38) (.tmp 42) 32 5 (.int .u8 0) 1 rfl Tryz.underlying32 info5 rfl (by decide) (by omega) u11 B4 (bt (⟨#[76, 82]⟩ : ByteArray) A8) [.int .u8 (bt (⟨#[76, 82]⟩ : ByteArray) A8)] (fun _ => True) (fun _ => False) rfl rfl ?aP (fun _ hk => hk.elim) ?aF ?aO (Below.refl _ _) ?aS ?aL ?_; (case aP => exact rfl); (case aF => exact (fun _ _ => trivial)); (case aO => exact (ra_ A1.out)); (case aS => exact (dZ (w := w) (g := g) (row := none) eZ)); (case aL => have := LMc17.out; omega); intro F3 H4 ho hb hg hat; rw [← C8.out] at ho; replace HB := a_ (gq fM HL.out hb); replace HI0 := a_ (aj.grown eD hg (aj.own_ne HI0.out A1.out (by decide))); replace HK := a_ (ax.trans eZ (ax.iM hg g) (Kd.jE A1.out)); have C9 := a_ (ho); clear A1; clear ho hb hg hat)))
     try (have hw3_ := Go.IntWalk.i64_left (B7 + C0); (go_quiet (first | (go_at_call 52; (with_reducible refine (aT.calls g s0_0 A6 A7 (wrap64 (B7 + C0)) C2 B0 B3 w0 _ ?side1 ?side2 F2.out).mono ?_); (case side1 => exact eD); (case side2 => exact fM); rintro e H2 ⟨rfl, hi, hb, hk⟩; replace A1 := a_ (Kd.ae (Kd.dC (aj.apart (show aj w0 _ g s0_0 A6 A7 from eD) (ra_ A1.out) (by decide)) hk (fun _ h => h.2)) (fun _ h => h.1)); replace HK := a_ (ax.trans eZ hk (.inl rfl)); replace HB := a_ (hb); replace HI0 := a_ (hi); (try clear hb); (try clear hk); (try clear hi)) | (go_at_call 52; (with_reducible refine (aT.calls g s0_0 B0 B3 2 A8 D2 D3 w0 _ ?side1 ?side2 G4.out).mono ?_); (case side1 => exact eD); (case side2 => exact fM); rintro e H3 ⟨rfl, hi, hb, hk⟩; replace A1 := a_ (Kd.ae (Kd.dC (aj.apart (show aj w0 _ g s0_0 B0 B3 from eD) (ra_ A1.out) (by decide)) hk (fun _ h => h.2)) (fun _ h => h.1)); replace HK := a_ (ax.trans eZ hk (.inl rfl)); replace HB := a_ (hb); replace HI0 := a_ (hi); (try clear hb); (try clear hk); (try clear hi); have D8 : 0 ≤ (A8 : Int) := of_decide_eq_true aG; have D9 : A8 < (2 : Int) := of_decide_eq_true aG; have hx16 := jI (⟨#[76, 82]⟩ : ByteArray) A8; replace D8 := eq_true D8; replace D9 := eq_true D9) | ((with_reducible refine bF (b := .append) (xs := #[.tmp 38, .tmp 42]) rfl ?_); at_builtin; refine Kd.fH (Kd.int .u8) w.heap.size rfl (.tmp 38) (.tmp 42) 32 5 (.int .u8 0) 1 rfl Tryz.underlying32 info5 rfl (by decide) (by omega) u11 B4 (bt (⟨#[76, 82]⟩ : ByteArray) A8) [.int .u8 (bt (⟨#[76, 82]⟩ : ByteArray) A8)] (fun _ => True) (fun _ => False) rfl rfl ?aP (fun _ hk => hk.elim) ?aF ?aO (Below.refl _ _) ?aS ?aL ?_; (case aP => exact rfl); (case aF => exact (fun _ _ => trivial)); (case aO => exact (ra_ A1.out)); (case aS => exact (dZ (w := w) (g := g) (row := none) eZ)); (case aL => have := LMc17.out; omega); intro F3 H4 ho hb hg hat; rw [← C8.out] at ho; replace HB := a_ (gq fM HL.out hb); replace HI0 := a_ (aj.grown eD hg (aj.own_ne HI0.out A1.out (by decide))); replace HK := a_ (ax.trans eZ (ax.iM hg g) (Kd.jE A1.out)); have C9 := a_ (ho); clear A1; clear ho hb hg hat))); (try go_wp2_with (first | (go_at_call 52; (with_reducible refine (aT.calls g s0_0 A6 A7 (wrap64 (B7 + C0)) C2 B0 B3 w0 _ ?side1 ?side2 F2.out).mono ?_); (case side1 => exact eD); (case side2 => exact fM); rintro e H2 ⟨rfl, hi, hb, hk⟩; replace A1 := a_ (Kd.ae (Kd.dC (aj.apart (show aj w0 _ g s0_0 A6 A7 from eD) (ra_ A1.out) (by decide)) hk (fun _ h => h.2)) (fun _ h => h.1)); replace HK := a_ (ax.trans eZ hk (.inl rfl)); replace HB := a_ (hb); replace HI0 := a_ (hi); (try clear hb); (try clear hk); (try clear hi)) | (go_at_call 52; (with_reducible refine (aT.calls g s0_0 B0 B3 2 A8 D2 D3 w0 _ ?side1 ?side2 G4.out).mono ?_); (case side1 => exact eD); (case side2 => exact fM); rintro e H3 ⟨rfl, hi, hb, hk⟩; replace A1 := a_ (Kd.ae (Kd.dC (aj.apart (show aj w0 _ g s0_0 B0 B3 from eD) (ra_ A1.out) (by decide)) hk (fun _ h => h.2)) (fun _ h => h.1)); replace HK := a_ (ax.trans eZ hk (.inl rfl)); replace HB := a_ (hb); replace HI0 := a_ (hi); (try clear hb); (try clear hk); (try clear hi); have D8 : 0 ≤ (A8 : Int) := of_decide_eq_true aG; have D9 : A8 < (2 : Int) := of_decide_eq_true aG; have hx16 := jI (⟨#[76, 82]⟩ : ByteArray) A8; replace D8 := eq_true D8; replace D9 := eq_true D9) | ((with_reducible refine bF (b := .append) (xs := #[.tmp 38, .tmp 42]) rfl ?_); at_builtin; refine Kd.fH (Kd.int .u8) w.heap.size rfl (.tmp 38) (.tmp 42) 32 5 (.int .u8 0) 1 rfl Tryz.underlying32 info5 rfl (by decide) (by omega) u11 B4 (bt (⟨#[76, 82]⟩ : ByteArray) A8) [.int .u8 (bt (⟨#[76, 82]⟩ : ByteArray) A8)] (fun _ => True) (fun _ => False) rfl rfl ?aP (fun _ hk => hk.elim) ?aF ?aO (Below.refl _ _) ?aS ?aL ?_; (case aP => exact rfl); (case aF => exact (fun _ _ => trivial)); (case aO => exact (ra_ A1.out)); (case aS => exact (dZ (w := w) (g := g) (row := none) eZ)); (case aL => have := LMc17.out; omega); intro F3 H4 ho hb hg hat; rw [← C8.out] at ho; replace HB := a_ (gq fM HL.out hb); replace HI0 := a_ (aj.grown eD hg (aj.own_ne HI0.out A1.out (by decide))); replace HK := a_ (ax.trans eZ (ax.iM hg g) (Kd.jE A1.out)); have C9 := a_ (ho); clear A1; clear ho hb hg hat))))
     go_roundg k1
     case measure => have := HK1.out; omega
     case rel => exact ⟨(wrap64 (B7 - 1)), (C0), (G5), (D2), (D3), bZ, bZ, H', ⟨jR⟩, ⟨by (with_reducible repeat (first | apply Kd.aC | apply Kd.aD | apply Kd.az)); exact C9.out⟩, ⟨eD⟩, ⟨eZ⟩, ⟨fM⟩⟩
    rw [if_neg c12] at H
    have G3 := decide_eq_false c12
    clear c12
    replace H := bo_ H; obtain ⟨⟨A9, D4, D5⟩, G6, H⟩ := H; (try dsimp only at H)
    replace H := ig_ H; obtain ⟨c22, H⟩ := H
    have I0 := decide_eq_true c22
    clear c22
    replace H := ig_ H; obtain ⟨c23, H⟩ := H
    have I1 := decide_eq_true c23
    clear c23
    replace H := ig_ H; obtain ⟨c25, H⟩ := H
    have LMc25 := a_ c25
    clear c25
    obtain ⟨G7, F1⟩ : ∃ y_ : List Int, y_ = (B4 ++ [bt (⟨#[84, 66]⟩ : ByteArray) A9]) := ⟨_, rfl⟩
    replace H : (cZ.l0 k1 C3 C4 B7 (wrap64 (C0 - 1)) G7 s0_0 D4 D5) = some (r1, r2, r3, r4, r5) := rh_ F1 H
    have D0 := a_ F1
    clear F1
    have H' := a_ H
    clear H
    go_wp2_with (first | (go_at_call 52; (with_reducible refine (aT.calls g s0_0 A6 A7 (wrap64 (B7 + C0)) C2 B0 B3 w0 _ ?side1 ?side2 F2.out).mono ?_); (case side1 => exact eD); (case side2 => exact fM); rintro e H5 ⟨rfl, hi, hb, hk⟩; replace A1 := a_ (Kd.ae (Kd.dC (aj.apart (show aj w0 _ g s0_0 A6 A7 from eD) (ra_ A1.out) (by decide)) hk (fun _ h => h.2)) (fun _ h => h.1)); replace HK := a_ (ax.trans eZ hk (.inl rfl)); replace HB := a_ (hb); replace HI0 := a_ (hi); (try clear hb); (try clear hk); (try clear hi)) | (go_at_call 52; (with_reducible refine (aT.calls g s0_0 B0 B3 2 A9 D4 D5 w0 _ ?side1 ?side2 G6.out).mono ?_); (case side1 => exact eD); (case side2 => exact fM); rintro e H6 ⟨rfl, hi, hb, hk⟩; replace A1 := a_ (Kd.ae (Kd.dC (aj.apart (show aj w0 _ g s0_0 B0 B3 from eD) (ra_ A1.out) (by decide)) hk (fun _ h => h.2)) (fun _ h => h.1)); replace HK := a_ (ax.trans eZ hk (.inl rfl)); replace HB := a_ (hb); replace HI0 := a_ (hi); (try clear hb); (try clear hk); (try clear hi); have E0 : 0 ≤ (A9 : Int) := of_decide_eq_true aG; have E1 : A9 < (2 : Int) := of_decide_eq_true aG; have hx24 := jI (⟨#[84, 66]⟩ : ByteArray) A9; replace E0 := eq_true E0; replace E1 := eq_true E1) | ((with_reducible refine bF (b := .append) (xs := #[.tmp 46, .tmp 50]) rfl ?_); at_builtin; refine Kd.fH (Kd.int .u8) w.heap.size rfl (.tmp 46) (.tmp 50) 32 5 (.int .u8 0) 1 rfl Tryz.underlying32 info5 rfl (by decide) (by omega) u11 B4 (bt (⟨#[84, 66]⟩ : ByteArray) A9) [.int .u8 (bt (⟨#[84, 66]⟩ : ByteArray) A9)] (fun _ => True) (fun _ => False) rfl rfl ?aP (fun _ hk => hk.elim) ?aF ?aO (Below.refl _ _) ?aS ?aL ?_; (case aP => exact rfl); (case aF => exact (fun _ _ => trivial)); (case aO => exact (ra_ A1.out)); (case aS => exact (dZ (w := w) (g := g) (row := none) eZ)); (case aL => have := LMc25.out; omega); intro F4 H7 ho hb hg hat; rw [← D0.out] at ho; replace HB := a_ (gq fM HL.out hb); replace HI0 := a_ (aj.grown eD hg (aj.own_ne HI0.out A1.out (by decide))); replace HK := a_ (ax.trans eZ (ax.iM hg g) (Kd.jE A1.out)); have D1 := a_ (ho); clear A1; clear ho hb hg hat))
    repeat (go_quiet (first | (go_at_call 52; (with_reducible refine (aT.calls g s0_0 A6 A7 (wrap64 (B7 + C0)) C2 B0 B3 w0 _ ?side1 ?side2 F2.out).mono ?_); (case side1 => exact eD); (case side2 => exact fM); rintro e H5 ⟨rfl, hi, hb, hk⟩; replace A1 := a_ (Kd.ae (Kd.dC (aj.apart (show aj w0 _ g s0_0 A6 A7 from eD) (ra_ A1.out) (by decide)) hk (fun _ h => h.2)) (fun _ h => h.1)); replace HK := a_ (ax.trans eZ hk (.inl rfl)); replace HB := a_ (hb); replace HI0 := a_ (hi); (try clear hb); (try clear hk); (try clear hi)) | (go_at_call 52; (with_reducible refine (aT.calls g s0_0 B0 B3 2 A9 D4 D5 w0 _ ?side1 ?side2 G6.out).mono ?_); (case side1 => exact eD); (case side2 => exact fM); rintro e H6 ⟨rfl, hi, hb, hk⟩; replace A1 := a_ (Kd.ae (Kd.dC (aj.apart (show aj w0 _ g s0_0 B0 B3 from eD) (ra_ A1.out) (by decide)) hk (fun _ h => h.2)) (fun _ h => h.1)); replace HK := a_ (ax.trans eZ hk (.inl rfl)); replace HB := a_ (hb); replace HI0 := a_ (hi); (try clear hb); (try clear hk); (try clear hi); have E0 : 0 ≤ (A9 : Int) := of_decide_eq_true aG; have E1 : A9 < (2 : Int) := of_decide_eq_true aG; have hx24 := jI (⟨#[84, 66]⟩ : ByteArray) A9; replace E0 := eq_true E0; replace E1 := eq_true E1) | ((with_reducible refine bF (b := .append) (xs := #[.tmp 46, .tmp 50]) rfl ?_); at_builtin; refine Kd.fH (Kd.int .u8) w.heap.size rfl (.tmp 46) (.tmp 50) 32 5 (.int .u8 0) 1 rfl Tryz.underlying32 info5 rfl (by decide) (by omega) u11 B4 (bt (⟨#[84, 66]⟩ : ByteArray) A9) [.int .u8 (bt (⟨#[84, 66]⟩ : ByteArray) A9)] (fun _ => True) (fun _ => False) rfl rfl ?aP (fun _ hk => hk.elim) ?aF ?aO (Below.refl _ _) ?aS ?aL ?_; (case aP => exact rfl); (case aF => exact (fun _ _ => trivial)); (case aO => exact (ra_ A1.out)); (case aS => exact (dZ (w := w) (g := g) (row := none) eZ)); (case aL => have := LMc25.out; omega); intro F4 H7 ho hb hg hat; rw [← D0.out] at ho; replace HB := a_ (gq fM HL.out hb); replace HI0 := a_ (aj.grown eD hg (aj.own_ne HI0.out A1.out (by decide))); replace HK := a_ (ax.trans eZ (ax.iM hg g) (Kd.jE A1.out)); have D1 := a_ (ho); clear A1; clear ho hb hg hat)); try go_wp2_with (first | (go_at_call 52; (with_reducible refine (aT.calls g s0_0 A6 A7 (wrap64 (B7 + C0)) C2 B0 B3 w0 _ ?side1 ?side2 F2.out).mono ?_); (case side1 => exact eD); (case side2 => exact fM); rintro e H5 ⟨rfl, hi, hb, hk⟩; replace A1 := a_ (Kd.ae (Kd.dC (aj.apart (show aj w0 _ g s0_0 A6 A7 from eD) (ra_ A1.out) (by decide)) hk (fun _ h => h.2)) (fun _ h => h.1)); replace HK := a_ (ax.trans eZ hk (.inl rfl)); replace HB := a_ (hb); replace HI0 := a_ (hi); (try clear hb); (try clear hk); (try clear hi)) | (go_at_call 52; (with_reducible refine (aT.calls g s0_0 B0 B3 2 A9 D4 D5 w0 _ ?side1 ?side2 G6.out).mono ?_); (case side1 => exact eD); (case side2 => exact fM); rintro e H6 ⟨rfl, hi, hb, hk⟩; replace A1 := a_ (Kd.ae (Kd.dC (aj.apart (show aj w0 _ g s0_0 B0 B3 from eD) (ra_ A1.out) (by decide)) hk (fun _ h => h.2)) (fun _ h => h.1)); replace HK := a_ (ax.trans eZ hk (.inl rfl)); replace HB := a_ (hb); replace HI0 := a_ (hi); (try clear hb); (try clear hk); (try clear hi); have E0 : 0 ≤ (A9 : Int) := of_decide_eq_true aG; have E1 : A9 < (2 : Int) := of_decide_eq_true aG; have hx24 := jI (⟨#[84, 66]⟩ : ByteArray) A9; replace E0 := eq_true E0; replace E1 := eq_true E1) | ((with_reducible refine bF (b := .append) (xs := #[.tmp 46, .tmp 50]) rfl ?_); at_builtin; refine Kd.fH (Kd.int .u8) w.heap.size rfl (.tmp 46) (.tmp 50) 32 5 (.int .u8 0) 1 rfl Tryz.underlying32 info5 rfl (by decide) (by omega) u11 B4 (bt (⟨#[84, 66]⟩ : ByteArray) A9) [.int .u8 (bt (⟨#[84, 66]⟩ : ByteArray) A9)] (fun _ => True) (fun _ => False) rfl rfl ?aP (fun _ hk => hk.elim) ?aF ?aO (Below.refl _ _) ?aS ?aL ?_; (case aP => exact rfl); (case aF => exact (fun _ _ => trivial)); (case aO => exact (ra_ A1.out)); (case aS => exact (dZ (w := w) (g := g) (row := none) eZ)); (case aL => have := LMc25.out; omega); intro F4 H7 ho hb hg hat; rw [← D0.out] at ho; replace HB := a_ (gq fM HL.out hb); replace HI0 := a_ (aj.grown eD hg (aj.own_ne HI0.out A1.out (by decide))); replace HK := a_ (ax.trans eZ (ax.iM hg g) (Kd.jE A1.out)); have D1 := a_ (ho); clear A1; clear ho hb hg hat)))
    try (have hw4_ := Go.IntWalk.i64_left (B7 + C0); (go_quiet (first | (go_at_call 52; (with_reducible refine (aT.calls g s0_0 A6 A7 (wrap64 (B7 + C0)) C2 B0 B3 w0 _ ?side1 ?side2 F2.out).mono ?_); (case side1 => exact eD); (case side2 => exact fM); rintro e H5 ⟨rfl, hi, hb, hk⟩; replace A1 := a_ (Kd.ae (Kd.dC (aj.apart (show aj w0 _ g s0_0 A6 A7 from eD) (ra_ A1.out) (by decide)) hk (fun _ h => h.2)) (fun _ h => h.1)); replace HK := a_ (ax.trans eZ hk (.inl rfl)); replace HB := a_ (hb); replace HI0 := a_ (hi); (try clear hb); (try clear hk); (try clear hi)) | (go_at_call 52; (with_reducible refine (aT.calls g s0_0 B0 B3 2 A9 D4 D5 w0 _ ?side1 ?side2 G6.out).mono ?_); (case side1 => exact eD); (case side2 => exact fM); rintro e H6 ⟨rfl, hi, hb, hk⟩; replace A1 := a_ (Kd.ae (Kd.dC (aj.apart (show aj w0 _ g s0_0 B0 B3 from eD) (ra_ A1.out) (by decide)) hk (fun _ h => h.2)) (fun _ h => h.1)); replace HK := a_ (ax.trans eZ hk (.inl rfl)); replace HB := a_ (hb); replace HI0 := a_ (hi); (try clear hb); (try clear hk); (try clear hi); have E0 : 0 ≤ (A9 : Int) := of_decide_eq_true aG; have E1 : A9 < (2 : Int) := of_decide_eq_true aG; have hx24 := jI (⟨#[84, 66]⟩ : ByteArray) A9; replace E0 := eq_true E0; replace E1 := eq_true E1) | ((with_reducible refine bF (b := .append) (xs := #[.tmp 46, .tmp 50]) rfl ?_); at_builtin; refine Kd.fH (Kd.int .u8) w.heap.size rfl (.tmp 46) (.tmp 50) 32 5 (.int .u8 0) 1 rfl Tryz.underlying32 info5 rfl (by decide) (by omega) u11 B4 (bt (⟨#[84, 66]⟩ : ByteArray) A9) [.int .u8 (bt (⟨#[84, 66]⟩ : ByteArray) A9)] (fun _ => True) (fun _ => False) rfl rfl ?aP (fun _ hk => hk.elim) ?aF ?aO (Below.refl _ _) ?aS ?aL ?_; (case aP => exact rfl); (case aF => exact (fun _ _ => trivial)); (case aO => exact (ra_ A1.out)); (case aS => exact (dZ (w := w) (g := g) (row := none) eZ)); (case aL => have := LMc25.out; omega); intro F4 H7 ho hb hg hat; rw [← D0.out] at ho; replace HB := a_ (gq fM HL.out hb); replace HI0 := a_ (aj.grown eD hg (aj.own_ne HI0.out A1.out (by decide))); replace HK := a_ (ax.trans eZ (ax.iM hg g) (Kd.jE A1.out)); have D1 := a_ (ho); clear A1; clear ho hb hg hat))); (try go_wp2_with (first | (go_at_call 52; (with_reducible refine (aT.calls g s0_0 A6 A7 (wrap64 (B7 + C0)) C2 B0 B3 w0 _ ?side1 ?side2 F2.out).mono ?_); (case side1 => exact eD); (case side2 => exact fM); rintro e H5 ⟨rfl, hi, hb, hk⟩; replace A1 := a_ (Kd.ae (Kd.dC (aj.apart (show aj w0 _ g s0_0 A6 A7 from eD) (ra_ A1.out) (by decide)) hk (fun _ h => h.2)) (fun _ h => h.1)); replace HK := a_ (ax.trans eZ hk (.inl rfl)); replace HB := a_ (hb); replace HI0 := a_ (hi); (try clear hb); (try clear hk); (try clear hi)) | (go_at_call 52; (with_reducible refine (aT.calls g s0_0 B0 B3 2 A9 D4 D5 w0 _ ?side1 ?side2 G6.out).mono ?_); (case side1 => exact eD); (case side2 => exact fM); rintro e H6 ⟨rfl, hi, hb, hk⟩; replace A1 := a_ (Kd.ae (Kd.dC (aj.apart (show aj w0 _ g s0_0 B0 B3 from eD) (ra_ A1.out) (by decide)) hk (fun _ h => h.2)) (fun _ h => h.1)); replace HK := a_ (ax.trans eZ hk (.inl rfl)); replace HB := a_ (hb); replace HI0 := a_ (hi); (try clear hb); (try clear hk); (try clear hi); have E0 : 0 ≤ (A9 : Int) := of_decide_eq_true aG; have E1 : A9 < (2 : Int) := of_decide_eq_true aG; have hx24 := jI (⟨#[84, 66]⟩ : ByteArray) A9; replace E0 := eq_true E0; replace E1 := eq_true E1) | ((with_reducible refine bF (b := .append) (xs := #[.tmp 46, .tmp 50]) rfl ?_); at_builtin; refine Kd.fH (Kd.int .u8) w.heap.size rfl (.tmp 46) (.tmp 50) 32 5 (.int .u8 0) 1 rfl Tryz.underlying32 info5 rfl (by decide) (by omega) u11 B4 (bt (⟨#[84, 66]⟩ : ByteArray) A9) [.int .u8 (bt (⟨#[84, 66]⟩ : ByteArray) A9)] (fun _ => True) (fun _ => False) rfl rfl ?aP (fun _ hk => hk.elim) ?aF ?aO (Below.refl _ _) ?aS ?aL ?_; (case aP => exact rfl); (case aF => exact (fun _ _ => trivial)); (case aO => exact (ra_ A1.out)); (case aS => exact (dZ (w := w) (g := g) (row := none) eZ)); (case aL => have := LMc25.out; omega); intro F4 H7 ho hb hg hat; rw [← D0.out] at ho; replace HB := a_ (gq fM HL.out hb); replace HI0 := a_ (aj.grown eD hg (aj.own_ne HI0.out A1.out (by decide))); replace HK := a_ (ax.trans eZ (ax.iM hg g) (Kd.jE A1.out)); have D1 := a_ (ho); clear A1; clear ho hb hg hat))))
    go_roundg k1
    case measure => have := HK1.out; omega
    case rel => exact ⟨(B7), (wrap64 (C0 - 1)), (G7), (D4), (D5), bZ, bZ, H', ⟨jR⟩, ⟨by (with_reducible repeat (first | apply Kd.aC | apply Kd.aD | apply Kd.az)); exact D1.out⟩, ⟨eD⟩, ⟨eZ⟩, ⟨fM⟩⟩
   rw [if_neg c10] at H
   have G2 := decide_eq_false c10
   clear c10
   replace H := bo_ H; obtain ⟨⟨C1, C6, C7⟩, F5, H⟩ := H; (try dsimp only at H)
   by_cases c30 : C1 = 0
   ·rw [if_pos c30] at H
    have G8 : (C1 == 0) = true := beq_iff_eq.mpr c30
    have G9 : (C1 != 0) = false := bne_eq_false_iff_eq.mpr c30
    clear c30
    replace H := ig_ H; obtain ⟨c31, H⟩ := H
    have I2 := eq_true c31
    have I3 := decide_eq_true c31
    try have I4 : (9223372036854775807 < (strOfNums B4).size + 1) = False := eq_false (Nat.not_lt.2 c31)
    (try (have c31s := c31; simp only [ByteArray.size_append, ByteArray.size_extract] at c31s; have c31s0 := eq_true c31s; have c31s1 := decide_eq_true c31s; have c31s2 := eq_false (Nat.not_lt.2 c31s)))
    simp only [Option.some.injEq, Prod.mk.injEq] at H
    obtain ⟨rfl, rfl, rfl, rfl, rfl⟩ := H
    go_wp2_with (first | (go_at_call 52; (with_reducible refine (aT.calls g s0_0 A6 A7 40 C1 C6 C7 w0 _ ?side1 ?side2 F5.out).mono ?_); (case side1 => exact eD); (case side2 => exact fM); rintro e I5 ⟨rfl, hi, hb, hk⟩; replace A1 := a_ (Kd.ae (Kd.dC (aj.apart (show aj w0 _ g s0_0 A6 A7 from eD) (ra_ A1.out) (by decide)) hk (fun _ h => h.2)) (fun _ h => h.1)); replace HK := a_ (ax.trans eZ hk (.inl rfl)); replace HB := a_ (hb); replace HI0 := a_ (hi); (try clear hb); (try clear hk); (try clear hi); have hcv33 := gZ (P := Tryz.prog) Tryz.underlying32 Tryz.underlying5 Tryz.underlying9 (Kd.gJ A1.out); have hcv33q := fun n_ : Nat => gZ (P := Tryz.prog) Tryz.underlying32 Tryz.underlying5 Tryz.underlying9 (Kd.gJ (Kd.aD A1.out n_))))
    repeat (go_quiet (first | (go_at_call 52; (with_reducible refine (aT.calls g s0_0 A6 A7 40 C1 C6 C7 w0 _ ?side1 ?side2 F5.out).mono ?_); (case side1 => exact eD); (case side2 => exact fM); rintro e I5 ⟨rfl, hi, hb, hk⟩; replace A1 := a_ (Kd.ae (Kd.dC (aj.apart (show aj w0 _ g s0_0 A6 A7 from eD) (ra_ A1.out) (by decide)) hk (fun _ h => h.2)) (fun _ h => h.1)); replace HK := a_ (ax.trans eZ hk (.inl rfl)); replace HB := a_ (hb); replace HI0 := a_ (hi); (try clear hb); (try clear hk); (try clear hi); have hcv33 := gZ (P := Tryz.prog) Tryz.underlying32 Tryz.underlying5 Tryz.underlying9 (Kd.gJ A1.out); have hcv33q := fun n_ : Nat => gZ (P := Tryz.prog) Tryz.underlying32 Tryz.underlying5 Tryz.underlying9 (Kd.gJ (Kd.aD A1.out n_)))); try go_wp2_with (first | (go_at_call 52; (with_reducible refine (aT.calls g s0_0 A6 A7 40 C1 C6 C7 w0 _ ?side1 ?side2 F5.out).mono ?_); (case side1 => exact eD); (case side2 => exact fM); rintro e I5 ⟨rfl, hi, hb, hk⟩; replace A1 := a_ (Kd.ae (Kd.dC (aj.apart (show aj w0 _ g s0_0 A6 A7 from eD) (ra_ A1.out) (by decide)) hk (fun _ h => h.2)) (fun _ h => h.1)); replace HK := a_ (ax.trans eZ hk (.inl rfl)); replace HB := a_ (hb); replace HI0 := a_ (hi); (try clear hb); (try clear hb2); (try clear hk); (try clear hi); have hcv33 := gZ (P := Tryz.prog) Tryz.underlying32 Tryz.underlying5 Tryz.underlying9 (Kd.gJ A1.out); have hcv33q := fun n_ : Nat => gZ (P := Tryz.prog) Tryz.underlying32 Tryz.underlying5 Tryz.underlying9 (Kd.gJ (Kd.aD A1.out n_)))))
    go_ret3
    exact ⟨fO, eD, fM, eZ⟩
   rw [if_neg c30] at H
   have G8 : (C1 == 0) = false := beq_eq_false_iff_ne.mpr c30
   have G9 : (C1 != 0) = true := bne_iff_ne.mpr c30
   by_cases c34 : C1 = 1
   ·rw [if_pos c34] at H
    have H0 : (C1 == 1) = true := beq_iff_eq.mpr c34
    have H1 : (C1 != 1) = false := bne_eq_false_iff_eq.mpr c34
    clear c34
    simp only [Option.some.injEq, Prod.mk.injEq] at H
    obtain ⟨rfl, rfl, rfl, rfl, rfl⟩ := H
    go_wp2_with (first | (go_at_call 52; (with_reducible refine (aT.calls g s0_0 A6 A7 40 C1 C6 C7 w0 _ ?side1 ?side2 F5.out).mono ?_); (case side1 => exact eD); (case side2 => exact fM); rintro e I6 ⟨rfl, hi, hb, hk⟩; replace A1 := a_ (Kd.ae (Kd.dC (aj.apart (show aj w0 _ g s0_0 A6 A7 from eD) (ra_ A1.out) (by decide)) hk (fun _ h => h.2)) (fun _ h => h.1)); replace HK := a_ (ax.trans eZ hk (.inl rfl)); replace HB := a_ (hb); replace HI0 := a_ (hi); (try clear hb); (try clear hk); (try clear hi)))
    repeat (go_quiet (first | (go_at_call 52; (with_reducible refine (aT.calls g s0_0 A6 A7 40 C1 C6 C7 w0 _ ?side1 ?side2 F5.out).mono ?_); (case side1 => exact eD); (case side2 => exact fM); rintro e I6 ⟨rfl, hi, hb, hk⟩; replace A1 := a_ (Kd.ae (Kd.dC (aj.apart (show aj w0 _ g s0_0 A6 A7 from eD) (ra_ A1.out) (by decide)) hk (fun _ h => h.2)) (fun _ h => h.1)); replace HK := a_ (ax.trans eZ hk (.inl rfl)); replace HB := a_ (hb); replace HI0 := a_ (hi); (try clear hb); (try clear hk); (try clear hi))); try go_wp2_with (first | (go_at_call 52; (with_reducible refine (aT.calls g s0_0 A6 A7 40 C1 C6 C7 w0 _ ?side1 ?side2 F5.out).mono ?_); (case side1 => exact eD); (case side2 => exact fM); rintro e I6 ⟨rfl, hi, hb, hk⟩; replace A1 := a_ (Kd.ae (Kd.dC (aj.apart (show aj w0 _ g s0_0 A6 A7 from eD) (ra_ A1.out) (by decide)) hk (fun _ h => h.2)) (fun _ h => h.1)); replace HK := a_ (ax.trans eZ hk (.inl rfl)); replace HB := a_ (hb); replace HI0 := a_ (hi); (try clear hb); (try clear hb2); (try clear hk); (try clear hi))))
    go_ret3
    exact ⟨fO, eD, fM, eZ⟩
   rw [if_neg c34] at H
   have H0 : (C1 == 1) = false := beq_eq_false_iff_ne.mpr c34
   have H1 : (C1 != 1) = true := bne_iff_ne.mpr c34
   simp only [Option.some.injEq, Prod.mk.injEq] at H
   obtain ⟨rfl, rfl, rfl, rfl, rfl⟩ := H
   go_wp2_with (first | (go_at_call 52; (with_reducible refine (aT.calls g s0_0 A6 A7 40 C1 C6 C7 w0 _ ?side1 ?side2 F5.out).mono ?_); (case side1 => exact eD); (case side2 => exact fM); rintro e I7 ⟨rfl, hi, hb, hk⟩; replace A1 := a_ (Kd.ae (Kd.dC (aj.apart (show aj w0 _ g s0_0 A6 A7 from eD) (ra_ A1.out) (by decide)) hk (fun _ h => h.2)) (fun _ h => h.1)); replace HK := a_ (ax.trans eZ hk (.inl rfl)); replace HB := a_ (hb); replace HI0 := a_ (hi); (try clear hb); (try clear hk); (try clear hi); have hcv37 := gZ (P := Tryz.prog) Tryz.underlying32 Tryz.underlying5 Tryz.underlying9 (Kd.gJ A1.out); have hcv37q := fun n_ : Nat => gZ (P := Tryz.prog) Tryz.underlying32 Tryz.underlying5 Tryz.underlying9 (Kd.gJ (Kd.aD A1.out n_))))
   repeat (go_quiet (first | (go_at_call 52; (with_reducible refine (aT.calls g s0_0 A6 A7 40 C1 C6 C7 w0 _ ?side1 ?side2 F5.out).mono ?_); (case side1 => exact eD); (case side2 => exact fM); rintro e I7 ⟨rfl, hi, hb, hk⟩; replace A1 := a_ (Kd.ae (Kd.dC (aj.apart (show aj w0 _ g s0_0 A6 A7 from eD) (ra_ A1.out) (by decide)) hk (fun _ h => h.2)) (fun _ h => h.1)); replace HK := a_ (ax.trans eZ hk (.inl rfl)); replace HB := a_ (hb); replace HI0 := a_ (hi); (try clear hb); (try clear hk); (try clear hi); have hcv37 := gZ (P := Tryz.prog) Tryz.underlying32 Tryz.underlying5 Tryz.underlying9 (Kd.gJ A1.out); have hcv37q := fun n_ : Nat => gZ (P := Tryz.prog) Tryz.underlying32 Tryz.underlying5 Tryz.underlying9 (Kd.gJ (Kd.aD A1.out n_)))); try go_wp2_with (first | (go_at_call 52; (with_reducible refine (aT.calls g s0_0 A6 A7 40 C1 C6 C7 w0 _ ?side1 ?side2 F5.out).mono ?_); (case side1 => exact eD); (case side2 => exact fM); rintro e I7 ⟨rfl, hi, hb, hk⟩; replace A1 := a_ (Kd.ae (Kd.dC (aj.apart (show aj w0 _ g s0_0 A6 A7 from eD) (ra_ A1.out) (by decide)) hk (fun _ h => h.2)) (fun _ h => h.1)); replace HK := a_ (ax.trans eZ hk (.inl rfl)); replace HB := a_ (hb); replace HI0 := a_ (hi); (try clear hb); (try clear hb2); (try clear hk); (try clear hi); have hcv37 := gZ (P := Tryz.prog) Tryz.underlying32 Tryz.underlying5 Tryz.underlying9 (Kd.gJ A1.out); have hcv37q := fun n_ : Nat => gZ (P := Tryz.prog) Tryz.underlying32 Tryz.underlying5 Tryz.underlying9 (Kd.gJ (Kd.aD A1.out n_)))))
   go_ret3
   exact ⟨fO, eD, fM, eZ⟩
def bY.l0 : Nat → List Int → Int → List Int → Int → Option (List Int)
 | 0, _, _, _, _ => none
 | k + 1, x0, x1, x5, x6 => if x6 < (x0.length : Int) then (if 0 ≤ x6 then (if x5.length < 17592186044416 then (bY.l0 k x0 x1 (x5 ++ [wrap64 ((rd x0 x6) + x1)]) (wrap64 (x6 + 1))) else (none)) else (none)) else (some x5)
def bY.f (k : Nat) (l0 : List Int) (a1 : Int) : Option (List Int) := bY.l0 k l0 a1 (([] : List Int)) 0
theorem bY.di : ∀ k, (∀ y0 y1 y2 y3, LeO (bY.l0 k y0 y1 y2 y3) (bY.l0 (k + 1) y0 y1 y2 y3))
 | 0 => fun _ _ _ _ r h => by simp [bY.l0] at h
 | k + 1 => by
  have ih0 := bY.di k
  ·intro y0 y1 y2 y3
   unfold bY.l0
   repeat' first | (with_reducible first | exact ih0 .. | exact LeO.refl .. | exact LeO.none .. | refine LeO.ite ?_ ?_ | refine LeO.bind ?_ (fun _ => ?_))
theorem bY.mono : ∀ a0 a1 k, LeO (bY.f k a0 a1) (bY.f (k + 1) a0 a1) := by
 intro a0 a1 k
 have ih0 := bY.di k
 unfold bY.f
 repeat' first | (with_reducible first | exact ih0 .. | exact LeO.refl .. | exact LeO.none .. | refine LeO.ite ?_ ?_ | refine LeO.bind ?_ (fun _ => ?_))
theorem bY.calls (k : Nat) (A0 : Option Addr) (c0 : Nat) (l0 : List Int) (a1 : Int) (r : List Int) (w : World) (hr0 : Kd.C (Kd.int .i64) w A0 l0.length l0) (hc0 : l0.length ≤ c0) (h : bY.f k l0 a1 = some r) :
  Calls Tryz.prog 58 #[.slice A0 l0.length c0, .int .i64 a1] w fun e w' => ∃ v0_ : Value, e = .returned (v0_) ∧ Kd.R (Kd.int .i64) 2 w' w.heap.size (fun _ => True) v0_ r ∧ Below w.heap.size w w' := by
 have HR0 := a_ hr0
 have C6 := a_ hc0
 clear hr0 hc0
 have HB := a_ (Below.refl w.heap.size w)
 have H : (bY.l0 k l0 a1 (([] : List Int)) 0) = some r := h
 clear h
 obtain ⟨A9, A3⟩ : ∃ y_ : List Int, y_ = (([] : List Int)) := ⟨_, rfl⟩
 replace H : (bY.l0 k l0 a1 A9 0) = some r := rh_ A3 H
 have A6 := a_ A3
 clear A3
 have H' := a_ H
 clear H
 go_enter Tryz.func58, Tryz.ntmps58
 go_wp2_with (first | ((with_reducible refine bf (N := 7) rfl ?_); refine Kd.fU (Kd.int .i64) _ 2 ?hg (N := 7) ?hd (xs := ([] : List Int)) (inner := []) (ok := fun _ => True) (okp := fun _ => True) ?hr ?hp (fun _ hk => hk) trivial (Below.refl _ _) (Nat.le_refl _) (by simp) ?_; (case hd => rfl); (case hg => rfl); (case hr => first | (go_simp; done) | (go_simp; rfl)); (case hp => exact (dm.none _ _)); intro C3 w3 ho4 hb hg_ hnew_; clear hg_ hnew_; (first | rw [← A6.out] at ho4 | (simp only [Int.reduceToNat] at ho4; rw [← A6.out] at ho4)); have B0 := a_ (Kd.bu ho4 (af bO)); replace HB := df bO hb; clear hb ho4))
 go_loopg [5, 6] k (fun kq v5 v6 w' => ∃ (A4 : List Int) (A1 : Int), v6 = .int .i64 A1 ∧ ah (bY.l0 kq l0 a1 A4 A1 = some r) ∧ ah (kq ≤ k) ∧ ah (Kd.R (Kd.int .i64) 2 w' w.heap.size (fun _ => True) v5 A4) ∧ ah (Below w.heap.size w w'))
 case atStart => exact ⟨(A9), (0), bZ, H', ⟨Nat.le_refl _⟩, ⟨by (with_reducible repeat (first | apply Kd.aC | apply Kd.aD | apply Kd.az)); exact B0.out⟩, ⟨bO⟩⟩
 case round =>
  clear H'
  obtain ⟨A4, A1, rfl, HA, HK1, HO_5, HB⟩ := hrel
  cases gk with
  | zero => exact absurd HA.out (by simp [bY.l0])
  | succ k1 =>
   have H := HA.out
   clear HA
   simp only [bY.l0] at H
   by_cases c5 : A1 < (l0.length : Int)
   ·rw [if_pos c5] at H
    have C0 := decide_eq_true c5
    clear c5
    replace H := ig_ H; obtain ⟨c6, H⟩ := H
    have C4 := decide_eq_true c6
    clear c6
    replace H := ig_ H; obtain ⟨c7, H⟩ := H
    have LMc7 := a_ c7
    clear c7
    obtain ⟨B3, A5⟩ : ∃ y_ : List Int, y_ = (A4 ++ [wrap64 ((rd l0 A1) + a1)]) := ⟨_, rfl⟩
    replace H : (bY.l0 k1 l0 a1 B3 (wrap64 (A1 + 1))) = some r := rh_ A5 H
    have B4 := a_ A5
    clear A5
    have H' := a_ H
    clear H
    have A7 : 0 ≤ (A1 : Int) := of_decide_eq_true aG
    have A8 : A1 < (l0.length : Int) := of_decide_eq_true aG
    obtain ⟨C2, C1, A2⟩ := Kd.dM HR0.out A1 A7 A8
    cases C1
    replace A2 := (HB.out.cell (World.block_lt_of_cell? _ _ A2)).trans A2
    replace A7 := eq_true A7
    replace A8 := eq_true A8
    go_wp2_with (first | ((with_reducible refine bF (b := .append) (xs := #[.tmp 14, .tmp 21]) rfl ?_); at_builtin; refine Kd.fH (Kd.int .i64) (w0 := w) w.heap.size rfl (.tmp 14) (.tmp 21) 22 2 (.int .i64 0) 8 rfl Tryz.underlying22 jc rfl (by decide) (by omega) u5 A4 (wrap64 ((rd l0 A1) + a1)) [.int .i64 (wrap64 ((rd l0 A1) + a1))] (fun _ => True) (fun _ => False) rfl rfl ?aP (fun _ hk => hk.elim) ?aF ?aO ?aB ?aS ?aL ?_; (case aP => exact rfl); (case aB => exact bO); (case aF => exact (fun _ _ => trivial)); (case aO => exact (ra_ HO_5.out)); (case aS => exact (af bO)); (case aL => have := LMc7.out; omega); intro C5 w8 ho hb hg hat; rw [← B4.out] at ho; replace HB := a_ (hb); have B7 := a_ (ho); clear HO_5; clear ho hb hg hat))
    go_roundg k1
    case measure => have := HK1.out; omega
    case rel => exact ⟨(B3), (wrap64 (A1 + 1)), bZ, H', ⟨jR⟩, ⟨by (with_reducible repeat (first | apply Kd.aC | apply Kd.aD | apply Kd.az)); exact B7.out⟩, ⟨bO⟩⟩
   rw [if_neg c5] at H
   have C0 := decide_eq_false c5
   clear c5
   obtain rfl := Option.some.inj H
   go_wp2
   go_ret
   exact ⟨_, fO, lG, bO⟩
end Go.Proofs.YtkpidjmhdagkfaaGreatDoor.QFnReadForms
