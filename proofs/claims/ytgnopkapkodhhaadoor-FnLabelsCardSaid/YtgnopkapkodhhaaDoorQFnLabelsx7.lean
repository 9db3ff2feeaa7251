-- Written by own_print.py of this session's repo over the kit's print (its output, turned at some places).
import Derived.Test.YtgnopkapkodhhaaDoorQFnLabelsx0
import Derived.Test.YtgnopkapkodhhaaDoorQFnLabelsx2
import Derived.Test.YtgnopkapkodhhaaDoorQFnLabelsx4
import Derived.Test.YtgnopkapkodhhaaDoorQFnLabelsx6
namespace Go.Proofs.YtgnopkapkodhhaaDoor.QFnLabels
open Go.RowKit Go.Proofs.YtgnopkapkodhhaaDoorW.PrintWords Go.Proofs.YtgnopkapkodhhaaDoorW.PrintLast Go.Proofs.YtgnopkapkodhhaaDoorW.PrintMore
attribute [local go_sem] max2_int min2_int max_two min_two max_three min_three max_four min_four   -- for this text's walks alone
set_option linter.unusedVariables false
set_option linter.unusedSimpArgs false

/-! ### spec_l01Damage: function 29 -/
def spec_l01Damage.f (s0_0 : List Int) (s0_1 : Int) (s0_2 : Int) (a1 : ByteArray) : Option (ByteArray × Int × Int) := (spec_l01Next.f s0_0 s0_1 s0_2 (wrap64 ((a1.size : Int) + 1))).bind fun bt311 => ((spec_l01Next.f s0_0 bt311.2.1 bt311.2.2 8).bind fun bt314 => (if bt314.1 = 0 then (if 0 ≤ bt311.1 then (if bt311.1 ≤ (a1.size : Int) then (some (a1.extract 0 (bt311.1 : Int).toNat, bt314.2.1, bt314.2.2)) else (none)) else (none)) else (if bt314.1 = 1 then (if 0 ≤ bt311.1 then (if bt311.1 ≤ (a1.size : Int) then ((some (([(⟨#[48]⟩ : ByteArray), (⟨#[49]⟩ : ByteArray), (⟨#[32]⟩ : ByteArray), (⟨#[45]⟩ : ByteArray), (⟨#[46]⟩ : ByteArray), (⟨#[44]⟩ : ByteArray), (⟨#[10]⟩ : ByteArray), (⟨#[120]⟩ : ByteArray)] : List ByteArray) : List ByteArray)).bind fun y317 => ((spec_l01Next.f s0_0 bt314.2.1 bt314.2.2 8).bind fun bt320 => (if 0 ≤ bt320.1 then (if bt320.1 < (y317.length : Int) then (if (a1.extract 0 (bt311.1 : Int).toNat).size + (rdOf ByteArray.empty y317 bt320.1).size ≤ 9223372036854775807 then (if ((a1.extract 0 (bt311.1 : Int).toNat) ++ (rdOf ByteArray.empty y317 bt320.1)).size + (a1.extract (bt311.1 : Int).toNat a1.size).size ≤ 9223372036854775807 then (some (((a1.extract 0 (bt311.1 : Int).toNat) ++ (rdOf ByteArray.empty y317 bt320.1)) ++ (a1.extract (bt311.1 : Int).toNat a1.size), bt320.2.1, bt320.2.2)) else (none)) else (none)) else (none)) else (none)))) else (none)) else (none)) else (if bt314.1 = 2 then (if bt311.1 < (a1.size : Int) then (if 0 ≤ bt311.1 then (if bt311.1 ≤ (a1.size : Int) then (if 0 ≤ (wrap64 (bt311.1 + 1)) then (if (wrap64 (bt311.1 + 1)) ≤ (a1.size : Int) then (if (a1.extract 0 (bt311.1 : Int).toNat).size + (a1.extract ((wrap64 (bt311.1 + 1)) : Int).toNat a1.size).size ≤ 9223372036854775807 then (some ((a1.extract 0 (bt311.1 : Int).toNat) ++ (a1.extract ((wrap64 (bt311.1 + 1)) : Int).toNat a1.size), bt314.2.1, bt314.2.2)) else (none)) else (none)) else (none)) else (none)) else (none)) else (some (a1, bt314.2.1, bt314.2.2))) else (some (a1, bt314.2.1, bt314.2.2))))))
def spec_l01Damage.T6 : Bool × List (List Nat × List Nat) := (true, [([], []), ([], []), ([0, 1], [0, 1]), ([], []), ([], []), ([4], [4]), ([3, 5], [3, 5]), ([6], [6]), ([2, 7], [2, 7]), ([], []), ([], []), ([9, 10], [9, 10]), ([8, 11], [8, 11]), ([12, 5, 0, 1, 2, 3, 4, 5, 6, 7, 8, 9, 10, 11, 12], [12])])
def spec_l01Damage.B6 : List Nat := [0, 0, 3, 0, 0, 16, 56, 120, 255, 0, 0, 1536, 4095, 8191]
theorem spec_l01Damage.tab6 : rtab .any (opsOf Tryd.f29 6) = spec_l01Damage.T6 := by kernel_rfl
theorem spec_l01Damage.bits6 : waitsOk spec_l01Damage.T6.2 spec_l01Damage.B6 = true := by kernel_rfl
def spec_l01Damage.T9 : Bool × List (List Nat × List Nat) := (true, [([], []), ([], []), ([0, 1], [0, 1]), ([], []), ([], []), ([4], [4]), ([3, 5], [3, 5]), ([2, 6], [2, 6]), ([7, 0, 1, 2, 3, 4, 5, 6, 7], [7])])
def spec_l01Damage.B9 : List Nat := [0, 0, 3, 0, 0, 16, 56, 127, 255]
theorem spec_l01Damage.tab9 : rtab .any (opsOf Tryd.f29 9) = spec_l01Damage.T9 := by kernel_rfl
theorem spec_l01Damage.bits9 : waitsOk spec_l01Damage.T9.2 spec_l01Damage.B9 = true := by kernel_rfl
set_option maxHeartbeats 8000000 in
set_option maxRecDepth 100000 in
theorem spec_l01Damage.calls (g : Nat) (s0_0 : List Int) (s0_1 : Int) (s0_2 : Int) (a1 : ByteArray) (r1 : ByteArray) (r2 : Int) (r3 : Int) (w0 w : World) (hI : IsS63 w0 w g s0_0 s0_1 s0_2) (hB : Below w0.heap.size w0 w) (h : spec_l01Damage.f s0_0 s0_1 s0_2 a1 = some (r1, r2, r3)) :
    Calls Tryd.prog 29 #[.pointer (some ⟨g, 0, none⟩), .string a1] w fun e w' => e = .returned (.string r1) ∧ IsS63 w0 w' g s0_0 r2 r3 ∧ Below w0.heap.size w0 w' ∧ KeepBut w w' g none := by
  have HI0 := Aside0.mk hI
  have HK := Aside0.mk (KeepBut.refl w g none)
  have HL := Aside0.mk hB.size
  clear hI
  have HW0 := Aside0.mk hB.size
  have HB := Aside0.mk hB
  clear hB
  have H : ((spec_l01Next.f s0_0 s0_1 s0_2 (wrap64 ((a1.size : Int) + 1))).bind fun bt311 => ((spec_l01Next.f s0_0 bt311.2.1 bt311.2.2 8).bind fun bt314 => (if bt314.1 = 0 then (if 0 ≤ bt311.1 then (if bt311.1 ≤ (a1.size : Int) then (some (a1.extract 0 (bt311.1 : Int).toNat, bt314.2.1, bt314.2.2)) else (none)) else (none)) else (if bt314.1 = 1 then (if 0 ≤ bt311.1 then (if bt311.1 ≤ (a1.size : Int) then ((some (([(⟨#[48]⟩ : ByteArray), (⟨#[49]⟩ : ByteArray), (⟨#[32]⟩ : ByteArray), (⟨#[45]⟩ : ByteArray), (⟨#[46]⟩ : ByteArray), (⟨#[44]⟩ : ByteArray), (⟨#[10]⟩ : ByteArray), (⟨#[120]⟩ : ByteArray)] : List ByteArray) : List ByteArray)).bind fun y317 => ((spec_l01Next.f s0_0 bt314.2.1 bt314.2.2 8).bind fun bt320 => (if 0 ≤ bt320.1 then (if bt320.1 < (y317.length : Int) then (if (a1.extract 0 (bt311.1 : Int).toNat).size + (rdOf ByteArray.empty y317 bt320.1).size ≤ 9223372036854775807 then (if ((a1.extract 0 (bt311.1 : Int).toNat) ++ (rdOf ByteArray.empty y317 bt320.1)).size + (a1.extract (bt311.1 : Int).toNat a1.size).size ≤ 9223372036854775807 then (some (((a1.extract 0 (bt311.1 : Int).toNat) ++ (rdOf ByteArray.empty y317 bt320.1)) ++ (a1.extract (bt311.1 : Int).toNat a1.size), bt320.2.1, bt320.2.2)) else (none)) else (none)) else (none)) else (none)))) else (none)) else (none)) else (if bt314.1 = 2 then (if bt311.1 < (a1.size : Int) then (if 0 ≤ bt311.1 then (if bt311.1 ≤ (a1.size : Int) then (if 0 ≤ (wrap64 (bt311.1 + 1)) then (if (wrap64 (bt311.1 + 1)) ≤ (a1.size : Int) then (if (a1.extract 0 (bt311.1 : Int).toNat).size + (a1.extract ((wrap64 (bt311.1 + 1)) : Int).toNat a1.size).size ≤ 9223372036854775807 then (some ((a1.extract 0 (bt311.1 : Int).toNat) ++ (a1.extract ((wrap64 (bt311.1 + 1)) : Int).toNat a1.size), bt314.2.1, bt314.2.2)) else (none)) else (none)) else (none)) else (none)) else (none)) else (some (a1, bt314.2.1, bt314.2.2))) else (some (a1, bt314.2.1, bt314.2.2))))))) = some (r1, r2, r3) := h
  clear h
  replace H := Option.bind_eq_some_iff.mp H
  obtain ⟨⟨t311, t312, t313⟩, A30, H⟩ := H
  replace H : ((spec_l01Next.f s0_0 t312 t313 8).bind fun bt314 => (if bt314.1 = 0 then (if 0 ≤ t311 then (if t311 ≤ (a1.size : Int) then (some (a1.extract 0 (t311 : Int).toNat, bt314.2.1, bt314.2.2)) else (none)) else (none)) else (if bt314.1 = 1 then (if 0 ≤ t311 then (if t311 ≤ (a1.size : Int) then ((some (([(⟨#[48]⟩ : ByteArray), (⟨#[49]⟩ : ByteArray), (⟨#[32]⟩ : ByteArray), (⟨#[45]⟩ : ByteArray), (⟨#[46]⟩ : ByteArray), (⟨#[44]⟩ : ByteArray), (⟨#[10]⟩ : ByteArray), (⟨#[120]⟩ : ByteArray)] : List ByteArray) : List ByteArray)).bind fun y317 => ((spec_l01Next.f s0_0 bt314.2.1 bt314.2.2 8).bind fun bt320 => (if 0 ≤ bt320.1 then (if bt320.1 < (y317.length : Int) then (if (a1.extract 0 (t311 : Int).toNat).size + (rdOf ByteArray.empty y317 bt320.1).size ≤ 9223372036854775807 then (if ((a1.extract 0 (t311 : Int).toNat) ++ (rdOf ByteArray.empty y317 bt320.1)).size + (a1.extract (t311 : Int).toNat a1.size).size ≤ 9223372036854775807 then (some (((a1.extract 0 (t311 : Int).toNat) ++ (rdOf ByteArray.empty y317 bt320.1)) ++ (a1.extract (t311 : Int).toNat a1.size), bt320.2.1, bt320.2.2)) else (none)) else (none)) else (none)) else (none)))) else (none)) else (none)) else (if bt314.1 = 2 then (if t311 < (a1.size : Int) then (if 0 ≤ t311 then (if t311 ≤ (a1.size : Int) then (if 0 ≤ (wrap64 (t311 + 1)) then (if (wrap64 (t311 + 1)) ≤ (a1.size : Int) then (if (a1.extract 0 (t311 : Int).toNat).size + (a1.extract ((wrap64 (t311 + 1)) : Int).toNat a1.size).size ≤ 9223372036854775807 then (some ((a1.extract 0 (t311 : Int).toNat) ++ (a1.extract ((wrap64 (t311 + 1)) : Int).toNat a1.size), bt314.2.1, bt314.2.2)) else (none)) else (none)) else (none)) else (none)) else (none)) else (some (a1, bt314.2.1, bt314.2.2))) else (some (a1, bt314.2.1, bt314.2.2)))))) = some (r1, r2, r3) := H
  have A3 := Aside0.mk A30
  clear A30
  replace H := Option.bind_eq_some_iff.mp H
  obtain ⟨⟨t314, t315, t316⟩, A40, H⟩ := H
  replace H : (if t314 = 0 then (if 0 ≤ t311 then (if t311 ≤ (a1.size : Int) then (some (a1.extract 0 (t311 : Int).toNat, t315, t316)) else (none)) else (none)) else (if t314 = 1 then (if 0 ≤ t311 then (if t311 ≤ (a1.size : Int) then ((some (([(⟨#[48]⟩ : ByteArray), (⟨#[49]⟩ : ByteArray), (⟨#[32]⟩ : ByteArray), (⟨#[45]⟩ : ByteArray), (⟨#[46]⟩ : ByteArray), (⟨#[44]⟩ : ByteArray), (⟨#[10]⟩ : ByteArray), (⟨#[120]⟩ : ByteArray)] : List ByteArray) : List ByteArray)).bind fun y317 => ((spec_l01Next.f s0_0 t315 t316 8).bind fun bt320 => (if 0 ≤ bt320.1 then (if bt320.1 < (y317.length : Int) then (if (a1.extract 0 (t311 : Int).toNat).size + (rdOf ByteArray.empty y317 bt320.1).size ≤ 9223372036854775807 then (if ((a1.extract 0 (t311 : Int).toNat) ++ (rdOf ByteArray.empty y317 bt320.1)).size + (a1.extract (t311 : Int).toNat a1.size).size ≤ 9223372036854775807 then (some (((a1.extract 0 (t311 : Int).toNat) ++ (rdOf ByteArray.empty y317 bt320.1)) ++ (a1.extract (t311 : Int).toNat a1.size), bt320.2.1, bt320.2.2)) else (none)) else (none)) else (none)) else (none)))) else (none)) else (none)) else (if t314 = 2 then (if t311 < (a1.size : Int) then (if 0 ≤ t311 then (if t311 ≤ (a1.size : Int) then (if 0 ≤ (wrap64 (t311 + 1)) then (if (wrap64 (t311 + 1)) ≤ (a1.size : Int) then (if (a1.extract 0 (t311 : Int).toNat).size + (a1.extract ((wrap64 (t311 + 1)) : Int).toNat a1.size).size ≤ 9223372036854775807 then (some ((a1.extract 0 (t311 : Int).toNat) ++ (a1.extract ((wrap64 (t311 + 1)) : Int).toNat a1.size), t315, t316)) else (none)) else (none)) else (none)) else (none)) else (none)) else (some (a1, t315, t316))) else (some (a1, t315, t316))))) = some (r1, r2, r3) := H
  have A4 := Aside0.mk A40
  clear A40
  by_cases c5 : t314 = 0
  · rw [if_pos c5] at H
    have c5b0 : (t314 == 0) = true := beq_iff_eq.mpr c5
    have c5b1 : (t314 != 0) = false := bne_eq_false_iff_eq.mpr c5
    clear c5
    by_cases c6 : 0 ≤ t311
    · rw [if_pos c6] at H
      have c6b0 := eq_true c6
      have c6b1 : decide (0 ≤ t311) = true := decide_eq_true c6
      clear c6
      by_cases c7 : t311 ≤ (a1.size : Int)
      · rw [if_pos c7] at H
        have c7b0 := eq_true c7
        have c7b1 : decide (t311 ≤ (a1.size : Int)) = true := decide_eq_true c7
        clear c7
        simp only [Option.some.injEq, Prod.mk.injEq] at H
        obtain ⟨rfl, rfl, rfl⟩ := H
        go_enter Tryd.func29, Tryd.ntmps29
        go_wp2_with (first | ((with_reducible refine gate_callee (f := 28) rfl ?_); refine goesL_ (some 10) rfl rfl Tryd.func28 (by kernel_rfl) rfl #[.pointer (some ⟨g, 0, none⟩), .int .i64 (wrap64 ((a1.size : Int) + 1))] rfl (by (try simp only [List.map_toArray, List.map_cons, List.map_nil]); first | done | rfl | (simp only [List.length_drop, List.length_take]; rfl)) ?_; (with_reducible refine (spec_l01Next.calls g s0_0 s0_1 s0_2 (wrap64 ((a1.size : Int) + 1)) t311 t312 t313 w0 _ ?side1 ?side2 A3.out).mono ?_); (case side1 => repeat (first | (with_reducible first | exact HI0.out | apply IsS63.alloc | apply IsS63.drewN | apply IsS63.drew | apply IsS63.set_1 | apply IsS63.set_2) | exact HI0.out)); (case side2 => repeat (first | (with_reducible first | exact HB.out | apply below_alloc | apply pw_below_drewN | apply below_drew1 | refine below_set ?_ (IsS63.ge HI0.out)) | exact HB.out)); rintro e w8 ⟨rfl, hi, hb, hk⟩; refine ⟨_, rfl, ?_⟩; have n0_ := Aside0.mk (KeepBut.trans (by repeat (first | (with_reducible first | exact HK.out | apply KeepBut.set_ | apply keep_drewN | apply keep_drew | apply keep_alloc) | exact HK.out)) hk (.inl rfl)); have n1_ := Aside0.mk (hb); have n2_ := Aside0.mk (hi); clear HK; clear HB; clear HI0; have HK := n0_; have HB := n1_; have HI0 := n2_; clear n0_ n1_ n2_; (try clear hb); (try clear hb2); (try clear hk); (try clear hi)) | ((with_reducible refine gate_callee (f := 28) rfl ?_); refine goesL_ (some 12) rfl rfl Tryd.func28 (by kernel_rfl) rfl #[.pointer (some ⟨g, 0, none⟩), .int .i64 8] rfl (by (try simp only [List.map_toArray, List.map_cons, List.map_nil]); first | done | rfl | (simp only [List.length_drop, List.length_take]; rfl)) ?_; (with_reducible refine (spec_l01Next.calls g s0_0 t312 t313 8 t314 t315 t316 w0 _ ?side1 ?side2 A4.out).mono ?_); (case side1 => repeat (first | (with_reducible first | exact HI0.out | apply IsS63.alloc | apply IsS63.drewN | apply IsS63.drew | apply IsS63.set_1 | apply IsS63.set_2) | exact HI0.out)); (case side2 => repeat (first | (with_reducible first | exact HB.out | apply below_alloc | apply pw_below_drewN | apply below_drew1 | refine below_set ?_ (IsS63.ge HI0.out)) | exact HB.out)); rintro e w9 ⟨rfl, hi, hb, hk⟩; refine ⟨_, rfl, ?_⟩; have n0_ := Aside0.mk (KeepBut.trans (by repeat (first | (with_reducible first | exact HK.out | apply KeepBut.set_ | apply keep_drewN | apply keep_drew | apply keep_alloc) | exact HK.out)) hk (.inl rfl)); have n1_ := Aside0.mk (hb); have n2_ := Aside0.mk (hi); clear HK; clear HB; clear HI0; have HK := n0_; have HB := n1_; have HI0 := n2_; clear n0_ n1_ n2_; (try clear hb); (try clear hb2); (try clear hk); (try clear hi)))
        go_ret
        exact ⟨by first | rfl | (simp only [Go.IntWalk.i64_left]; first | done | rfl) | (simp [errW_none, errW_some] <;> rfl) | (simp [*, errW_none, errW_some] <;> rfl), by repeat (first | (with_reducible first | exact HI0.out | apply IsS63.alloc | apply IsS63.drewN | apply IsS63.drew | apply IsS63.set_1 | apply IsS63.set_2) | exact HI0.out), by repeat (first | (with_reducible first | exact HB.out | apply below_alloc | apply pw_below_drewN | apply below_drew1 | refine below_set ?_ (IsS63.ge HI0.out)) | exact HB.out), by repeat (first | (with_reducible first | exact HK.out | apply KeepBut.set_ | apply keep_drewN | apply keep_drew | apply keep_alloc) | exact HK.out)⟩
      · rw [if_neg c7] at H
        exact absurd H (by simp)
    · rw [if_neg c6] at H
      exact absurd H (by simp)
  · rw [if_neg c5] at H
    have c5b0 : (t314 == 0) = false := beq_eq_false_iff_ne.mpr c5
    have c5b1 : (t314 != 0) = true := bne_iff_ne.mpr c5
    by_cases c10 : t314 = 1
    · rw [if_pos c10] at H
      have c10b0 : (t314 == 1) = true := beq_iff_eq.mpr c10
      have c10b1 : (t314 != 1) = false := bne_eq_false_iff_eq.mpr c10
      clear c10
      by_cases c11 : 0 ≤ t311
      · rw [if_pos c11] at H
        have c11b0 := eq_true c11
        have c11b1 : decide (0 ≤ t311) = true := decide_eq_true c11
        clear c11
        by_cases c12 : t311 ≤ (a1.size : Int)
        · rw [if_pos c12] at H
          have c12b0 := eq_true c12
          have c12b1 : decide (t311 ≤ (a1.size : Int)) = true := decide_eq_true c12
          clear c12
          obtain ⟨y317, hy317⟩ : ∃ y_ : List ByteArray, y_ = (([(⟨#[48]⟩ : ByteArray), (⟨#[49]⟩ : ByteArray), (⟨#[32]⟩ : ByteArray), (⟨#[45]⟩ : ByteArray), (⟨#[46]⟩ : ByteArray), (⟨#[44]⟩ : ByteArray), (⟨#[10]⟩ : ByteArray), (⟨#[120]⟩ : ByteArray)] : List ByteArray)) := ⟨_, rfl⟩
          replace H : ((spec_l01Next.f s0_0 t315 t316 8).bind fun bt320 => (if 0 ≤ bt320.1 then (if bt320.1 < (y317.length : Int) then (if (a1.extract 0 (t311 : Int).toNat).size + (rdOf ByteArray.empty y317 bt320.1).size ≤ 9223372036854775807 then (if ((a1.extract 0 (t311 : Int).toNat) ++ (rdOf ByteArray.empty y317 bt320.1)).size + (a1.extract (t311 : Int).toNat a1.size).size ≤ 9223372036854775807 then (some (((a1.extract 0 (t311 : Int).toNat) ++ (rdOf ByteArray.empty y317 bt320.1)) ++ (a1.extract (t311 : Int).toNat a1.size), bt320.2.1, bt320.2.2)) else (none)) else (none)) else (none)) else (none))) = some (r1, r2, r3) := by first | (rw [hy317]; with_reducible exact H) | (have H2_ := (Option.bind_some _ _).symm.trans H; rw [hy317]; with_reducible exact H2_) | (have H2_ := (Option.bind_some _ _).symm.trans H; with_reducible exact H2_) | with_reducible exact H | (rw [hy317]; exact H) | exact H
          have Ny317 := Aside0.mk hy317
          clear hy317
          replace H := Option.bind_eq_some_iff.mp H
          obtain ⟨⟨t320, t321, t322⟩, A130, H⟩ := H
          replace H : (if 0 ≤ t320 then (if t320 < (y317.length : Int) then (if (a1.extract 0 (t311 : Int).toNat).size + (rdOf ByteArray.empty y317 t320).size ≤ 9223372036854775807 then (if ((a1.extract 0 (t311 : Int).toNat) ++ (rdOf ByteArray.empty y317 t320)).size + (a1.extract (t311 : Int).toNat a1.size).size ≤ 9223372036854775807 then (some (((a1.extract 0 (t311 : Int).toNat) ++ (rdOf ByteArray.empty y317 t320)) ++ (a1.extract (t311 : Int).toNat a1.size), t321, t322)) else (none)) else (none)) else (none)) else (none)) = some (r1, r2, r3) := H
          have A13 := Aside0.mk A130
          clear A130
          by_cases c14 : 0 ≤ t320
          · rw [if_pos c14] at H
            have c14b0 : decide (0 ≤ t320) = true := decide_eq_true c14
            clear c14
            by_cases c15 : t320 < (y317.length : Int)
            · rw [if_pos c15] at H
              have c15b0 : decide (t320 < (y317.length : Int)) = true := decide_eq_true c15
              clear c15
              by_cases c16 : (a1.extract 0 (t311 : Int).toNat).size + (rdOf ByteArray.empty y317 t320).size ≤ 9223372036854775807
              · rw [if_pos c16] at H
                have c16b0 := eq_true c16
                have c16b1 : decide ((a1.extract 0 (t311 : Int).toNat).size + (rdOf ByteArray.empty y317 t320).size ≤ 9223372036854775807) = true := decide_eq_true c16
                try have c16b2 : (9223372036854775807 < (a1.extract 0 (t311 : Int).toNat).size + (rdOf ByteArray.empty y317 t320).size) = False := eq_false (Nat.not_lt.2 c16)
                (try (have c16s := c16; simp only [ByteArray.size_append, ByteArray.size_extract] at c16s; have c16s0 := eq_true c16s; have c16s1 := decide_eq_true c16s; have c16s2 := eq_false (Nat.not_lt.2 c16s)))
                (try have c16t := (show (9223372036854775807 < (t311 : Int).toNat + (rdOf ByteArray.empty y317 t320).size) = False from eq_false (by have h_ := c16s; simp only [decide_eq_true_eq, eq_iff_iff, iff_true] at *; omega)))
                have c17b0 := eq_true (of_decide_eq_true (by first | (with_reducible assumption) | assumption) : 0 ≤ t311)
                have c18b0 := eq_true (of_decide_eq_true (by first | (with_reducible assumption) | assumption) : t311 ≤ (a1.size : Int))
                by_cases c19 : ((a1.extract 0 (t311 : Int).toNat) ++ (rdOf ByteArray.empty y317 t320)).size + (a1.extract (t311 : Int).toNat a1.size).size ≤ 9223372036854775807
                · rw [if_pos c19] at H
                  have c19b0 := eq_true c19
                  have c19b1 : decide (((a1.extract 0 (t311 : Int).toNat) ++ (rdOf ByteArray.empty y317 t320)).size + (a1.extract (t311 : Int).toNat a1.size).size ≤ 9223372036854775807) = true := decide_eq_true c19
                  try have c19b2 : (9223372036854775807 < ((a1.extract 0 (t311 : Int).toNat) ++ (rdOf ByteArray.empty y317 t320)).size + (a1.extract (t311 : Int).toNat a1.size).size) = False := eq_false (Nat.not_lt.2 c19)
                  (try (have c19s := c19; simp only [ByteArray.size_append, ByteArray.size_extract] at c19s; have c19s0 := eq_true c19s; have c19s1 := decide_eq_true c19s; have c19s2 := eq_false (Nat.not_lt.2 c19s)))
                  (try have c19t := (show (9223372036854775807 < ((a1.extract 0 (t311 : Int).toNat) ++ (rdOf ByteArray.empty y317 t320)).size + (a1.size - (t311 : Int).toNat)) = False from eq_false (by have h_ := c19s; simp only [decide_eq_true_eq, eq_iff_iff, iff_true] at *; omega)))
                  simp only [Option.some.injEq, Prod.mk.injEq] at H
                  obtain ⟨rfl, rfl, rfl⟩ := H
                  go_enter Tryd.func29, Tryd.ntmps29
                  try go_wp2_with (first | ((with_reducible refine gate_callee (f := 28) rfl ?_); refine goesL_ (some 10) rfl rfl Tryd.func28 (by kernel_rfl) rfl #[.pointer (some ⟨g, 0, none⟩), .int .i64 (wrap64 ((a1.size : Int) + 1))] rfl (by (try simp only [List.map_toArray, List.map_cons, List.map_nil]); first | done | rfl | (simp only [List.length_drop, List.length_take]; rfl)) ?_; (with_reducible refine (spec_l01Next.calls g s0_0 s0_1 s0_2 (wrap64 ((a1.size : Int) + 1)) t311 t312 t313 w0 _ ?side1 ?side2 A3.out).mono ?_); (case side1 => repeat (first | (with_reducible first | exact HI0.out | apply IsS63.alloc | apply IsS63.drewN | apply IsS63.drew | apply IsS63.set_1 | apply IsS63.set_2) | exact HI0.out)); (case side2 => repeat (first | (with_reducible first | exact HB.out | apply below_alloc | apply pw_below_drewN | apply below_drew1 | refine below_set ?_ (IsS63.ge HI0.out)) | exact HB.out)); rintro e w20 ⟨rfl, hi, hb, hk⟩; refine ⟨_, rfl, ?_⟩; have n0_ := Aside0.mk (KeepBut.trans (by repeat (first | (with_reducible first | exact HK.out | apply KeepBut.set_ | apply keep_drewN | apply keep_drew | apply keep_alloc) | exact HK.out)) hk (.inl rfl)); have n1_ := Aside0.mk (hb); have n2_ := Aside0.mk (hi); clear HK; clear HB; clear HI0; have HK := n0_; have HB := n1_; have HI0 := n2_; clear n0_ n1_ n2_; (try clear hb); (try clear hb2); (try clear hk); (try clear hi)) | ((with_reducible refine gate_callee (f := 28) rfl ?_); refine goesL_ (some 12) rfl rfl Tryd.func28 (by kernel_rfl) rfl #[.pointer (some ⟨g, 0, none⟩), .int .i64 8] rfl (by (try simp only [List.map_toArray, List.map_cons, List.map_nil]); first | done | rfl | (simp only [List.length_drop, List.length_take]; rfl)) ?_; (with_reducible refine (spec_l01Next.calls g s0_0 t312 t313 8 t314 t315 t316 w0 _ ?side1 ?side2 A4.out).mono ?_); (case side1 => repeat (first | (with_reducible first | exact HI0.out | apply IsS63.alloc | apply IsS63.drewN | apply IsS63.drew | apply IsS63.set_1 | apply IsS63.set_2) | exact HI0.out)); (case side2 => repeat (first | (with_reducible first | exact HB.out | apply below_alloc | apply pw_below_drewN | apply below_drew1 | refine below_set ?_ (IsS63.ge HI0.out)) | exact HB.out)); rintro e w21 ⟨rfl, hi, hb, hk⟩; refine ⟨_, rfl, ?_⟩; have n0_ := Aside0.mk (KeepBut.trans (by repeat (first | (with_reducible first | exact HK.out | apply KeepBut.set_ | apply keep_drewN | apply keep_drew | apply keep_alloc) | exact HK.out)) hk (.inl rfl)); have n1_ := Aside0.mk (hb); have n2_ := Aside0.mk (hi); clear HK; clear HB; clear HI0; have HK := n0_; have HB := n1_; have HI0 := n2_; clear n0_ n1_ n2_; (try clear hb); (try clear hb2); (try clear hk); (try clear hi)))
                  have pi323 : (0 ≤ (t320 : Int)) = True := eq_true (of_decide_eq_true (by first | (with_reducible assumption) | assumption))
                  have qi323 : (t320 < (y317.length : Int)) = True := eq_true (of_decide_eq_true (by first | (with_reducible assumption) | assumption))
                  have n0_ := Aside0.mk (IsS63.drew HI0.out)
                  have n1_ := Aside0.mk (keep_drew HK.out)
                  have n2_ := Aside0.mk (below_drew1 HB.out)
                  clear HI0
                  clear HK
                  clear HB
                  have HI0 := n0_
                  have HK := n1_
                  have HB := n2_
                  clear n0_ n1_ n2_
                  refine start_ (n := 14) (S := fun w' => True) (ds := []) #[false, false, false, false, false, false, false, false, false, false, false, false, false, false] (by kernel_rfl) rfl rfl trivial (fun hHeld => ?_); refine with_tabW spec_l01Damage.tab6 spec_l01Damage.bits6 (fun HT_ HW_ => ?_)
                  generalize w21.drew = w22 at HI0 HK HB hHeld ⊢
                  refine pure_ (i := 0) (N := some 20) (v := ?_) (a' := ?_) #[true, false, false, false, false, false, false, false, false, false, false, false, false, false] rfl rfl (any_of HT_.out (by kernel_rfl)) (fun _ _ _ h => h) (Or.inl ⟨by rfl, ?_⟩) ?_ ?_
                  rotate_left
                  · intro w'
                    go_simp
                    with_reducible rfl
                  rotate_left
                  · simp only [Act.put, List.setIfInBounds_toArray, List.set_cons_zero, List.set_cons_succ, i64_w, i32_w]
                    rfl
                  refine pure_ (i := 1) (N := some 21) (v := ?_) (a' := ?_) #[true, true, false, false, false, false, false, false, false, false, false, false, false, false] rfl rfl (any_of HT_.out (by kernel_rfl)) (fun _ _ _ h => h) (Or.inl ⟨by rfl, ?_⟩) ?_ ?_
                  rotate_left
                  · intro w'
                    go_simp
                    with_reducible rfl
                  rotate_left
                  · simp only [Act.put, List.setIfInBounds_toArray, List.set_cons_zero, List.set_cons_succ, i64_w, i32_w]
                    rfl
                  refine pure_ (i := 4) (N := some 24) (v := ?_) (a' := ?_) #[true, true, false, false, true, false, false, false, false, false, false, false, false, false] rfl rfl (any_of HT_.out (by kernel_rfl)) (fun _ _ _ h => h) (Or.inl ⟨by rfl, ?_⟩) ?_ ?_
                  rotate_left
                  · intro w'
                    go_simp
                    with_reducible rfl
                  rotate_left
                  · simp only [Act.put, List.setIfInBounds_toArray, List.set_cons_zero, List.set_cons_succ, i64_w, i32_w]
                    rfl
                  refine pure_ (i := 9) (N := some 29) (v := ?_) (a' := ?_) #[true, true, false, false, true, false, false, false, false, true, false, false, false, false] rfl rfl (any_of HT_.out (by kernel_rfl)) (fun _ _ _ h => h) (Or.inl ⟨by rfl, ?_⟩) ?_ ?_
                  rotate_left
                  · intro w'
                    go_simp
                    with_reducible rfl
                  rotate_left
                  · simp only [Act.put, List.setIfInBounds_toArray, List.set_cons_zero, List.set_cons_succ, i64_w, i32_w]
                    rfl
                  refine pure_ (i := 10) (N := some 30) (v := ?_) (a' := ?_) #[true, true, false, false, true, false, false, false, false, true, true, false, false, false] rfl rfl (any_of HT_.out (by kernel_rfl)) (fun _ _ _ h => h) (Or.inl ⟨by rfl, ?_⟩) ?_ ?_
                  rotate_left
                  · intro w'
                    go_simp
                    with_reducible rfl
                  rotate_left
                  · simp only [Act.put, List.setIfInBounds_toArray, List.set_cons_zero, List.set_cons_succ, i64_w, i32_w]
                    rfl
                  refine inv_at [2, 3, 5, 6, 7, 8, 11, 12, 13] (fun a0_ b a w' => ∃ (v318 : Value) (adz_v318 : Addr) (m6_ : Value), a = putSel a0_ b [(2, 22, .string (a1.extract 0 (t311 : Int).toNat)), (3, 23, v318), (5, 25, .int .i64 t320), (6, 26, m6_), (7, 27, .string (rdOf ByteArray.empty y317 t320)), (8, 28, .string ((a1.extract 0 (t311 : Int).toNat) ++ (rdOf ByteArray.empty y317 t320))), (11, 31, .string (a1.extract (t311 : Int).toNat a1.size)), (12, 32, .string (((a1.extract 0 (t311 : Int).toNat) ++ (rdOf ByteArray.empty y317 t320)) ++ (a1.extract (t311 : Int).toNat a1.size))), (13, 4, .string (((a1.extract 0 (t311 : Int).toNat) ++ (rdOf ByteArray.empty y317 t320)) ++ (a1.extract (t311 : Int).toNat a1.size)))] ∧ (b 5 = false → IsS63 w0 w' g s0_0 t315 t316) ∧ (KeepBut w w' g none) ∧ (Below w0.heap.size w0 w') ∧ (b 3 = true → Kd.R Kd.string 9 w' w.heap.size (fun _ => True) v318 y317) ∧ (b 3 = true → ∃ c_, (v318 : Value) = .slice (some adz_v318) y317.length c_) ∧ (b 5 = true → IsS63 w0 w' g s0_0 t321 t322) ∧ (b 6 = true → (m6_ : Value) = .pointer (some (adz_v318.add (t320).toNat)))) HT_.out HW_.out (by kernel_rfl) (by kernel_rfl) ?_ ?_ ?_
                  · exact ⟨.bool false, ⟨0, 0, none⟩, .bool false, by simp only [putSel, Bool.false_eq_true, if_false], fun _ => HI0.out, HK.out, HB.out, fun h_ => absurd h_ (by decide), fun h_ => absurd h_ (by decide), fun h_ => absurd h_ (by decide), fun h_ => absurd h_ (by decide)⟩
                  · skip
                    clear HB HI0 HK
                    refine steps_cons ?_ ?_
                    · rintro b a w' ⟨v318, adz_v318, m6_, ha, Q_HI0, Q_HK, Q_HB, Q_HO319, Q_HA_HO319, Q_HI0_e5, Q_X6_⟩ hb_ hon hoff
                      refine ⟨_, rfl, fun K hK => ?_⟩
                      have e20 : a.tmps[20]? = some (.string a1) := by rw [ha]; exact (putSel_off rfl).trans rfl
                      have e21 : a.tmps[21]? = some (.int .i64 t311) := by rw [ha]; exact (putSel_off rfl).trans rfl
                      replace ha := Aside0.mk ha
                      have HK := Aside0.mk Q_HK
                      have HB := Aside0.mk Q_HB
                      refine value_ (w1 := w') (v := .string (a1.extract 0 (t311 : Int).toNat)) (by rfl) rfl ?_ ?_
                      · go_simp
                        (try simp only [i64_w])
                        try rfl
                        (try (first | done | omega | (simp only [decide_eq_true_eq] at *; omega)))
                      refine hK.out _ _ ⟨v318, adz_v318, m6_, (by rw [ha.out]; exact putSel_upk 0 hb_ rfl rfl rfl), Q_HI0, Q_HK, Q_HB, Q_HO319, Q_HA_HO319, Q_HI0_e5, Q_X6_⟩
                    refine steps_cons ?_ ?_
                    · rintro b a w' ⟨v318, adz_v318, m6_, ha, Q_HI0, Q_HK, Q_HB, Q_HO319, Q_HA_HO319, Q_HI0_e5, Q_X6_⟩ hb_ hon hoff
                      refine ⟨_, rfl, fun K hK => ?_⟩
                      replace ha := Aside0.mk ha
                      have HK := Aside0.mk Q_HK
                      have HB := Aside0.mk Q_HB
                      refine Kd.R_lit_step Kd.string _ 9 ?hg (N := 23) ?hd (xs := ([(⟨#[48]⟩ : ByteArray), (⟨#[49]⟩ : ByteArray), (⟨#[32]⟩ : ByteArray), (⟨#[45]⟩ : ByteArray), (⟨#[46]⟩ : ByteArray), (⟨#[44]⟩ : ByteArray), (⟨#[10]⟩ : ByteArray), (⟨#[120]⟩ : ByteArray)] : List ByteArray)) (inner := [.string (⟨#[48]⟩ : ByteArray), .string (⟨#[49]⟩ : ByteArray), .string (⟨#[32]⟩ : ByteArray), .string (⟨#[45]⟩ : ByteArray), .string (⟨#[46]⟩ : ByteArray), .string (⟨#[44]⟩ : ByteArray), .string (⟨#[10]⟩ : ByteArray), .string (⟨#[120]⟩ : ByteArray)]) (ok := fun _ => True) (okp := fun _ => True) ?hr ?hp (fun _ hk => hk) trivial (Below.refl _ _) (Nat.le_refl _) (by simp) ?_; (case hd => rfl); (case hg => rfl); (case hr => first | (go_simp; done) | (go_simp; rfl)); (case hp => exact (Reps.one (show Kd.M Kd.string _ _ _ (⟨#[48]⟩ : ByteArray) [.string (⟨#[48]⟩ : ByteArray)] from rfl) (Reps.one (show Kd.M Kd.string _ _ _ (⟨#[49]⟩ : ByteArray) [.string (⟨#[49]⟩ : ByteArray)] from rfl) (Reps.one (show Kd.M Kd.string _ _ _ (⟨#[32]⟩ : ByteArray) [.string (⟨#[32]⟩ : ByteArray)] from rfl) (Reps.one (show Kd.M Kd.string _ _ _ (⟨#[45]⟩ : ByteArray) [.string (⟨#[45]⟩ : ByteArray)] from rfl) (Reps.one (show Kd.M Kd.string _ _ _ (⟨#[46]⟩ : ByteArray) [.string (⟨#[46]⟩ : ByteArray)] from rfl) (Reps.one (show Kd.M Kd.string _ _ _ (⟨#[44]⟩ : ByteArray) [.string (⟨#[44]⟩ : ByteArray)] from rfl) (Reps.one (show Kd.M Kd.string _ _ _ (⟨#[10]⟩ : ByteArray) [.string (⟨#[10]⟩ : ByteArray)] from rfl) (Reps.one (show Kd.M Kd.string _ _ _ (⟨#[120]⟩ : ByteArray) [.string (⟨#[120]⟩ : ByteArray)] from rfl) (Reps.none _ _))))))))))
                      intro v318 w23 ho24 hb hg_ hnew_
                      clear hg_ hnew_
                      (first | rw [← Ny317.out] at ho24 | (simp only [Int.reduceToNat] at ho24; rw [← Ny317.out] at ho24))
                      have n0_ := Aside0.mk (Kd.R_lower ho24 (keep_size (w := w) (g := g) (row := none) (by repeat (first | (with_reducible first | exact HK.out | apply KeepBut.set_ | apply keep_drewN | apply keep_drew | apply keep_alloc) | exact HK.out))))
                      have n2_ := Aside0.mk (KeepBut.trans (by repeat (first | (with_reducible first | exact HK.out | apply KeepBut.set_ | apply keep_drewN | apply keep_drew | apply keep_alloc) | exact HK.out)) (KeepBut.of_below hb g none) (.inl rfl))
                      have n3_ := Aside0.mk (below_step (by repeat (first | (with_reducible first | exact HB.out | apply below_alloc | apply pw_below_drewN | apply below_drew1) | exact HB.out)) hb)
                      have z_HI0 := fun (h0_ : b 5 = false) => (show IsS63 w0 w23 g s0_0 t315 t316 from by first | exact (IsS63.below (by repeat (first | (with_reducible first | exact (Q_HI0 h0_) | apply IsS63.alloc | apply IsS63.drewN | apply IsS63.drew | apply IsS63.set_1 | apply IsS63.set_2) | exact (Q_HI0 h0_))) hb))
                      have z_HI0_e5 := fun (h0_ : b 5 = true) => (show IsS63 w0 w23 g s0_0 t321 t322 from by first | exact (IsS63.below (by repeat (first | (with_reducible first | exact (Q_HI0_e5 h0_) | apply IsS63.alloc | apply IsS63.drewN | apply IsS63.drew | apply IsS63.set_1 | apply IsS63.set_2) | exact (Q_HI0_e5 h0_))) hb))
                      clear HK
                      clear HB
                      have HO319 := n0_
                      have HK := n2_
                      have HB := n3_
                      clear n0_ n2_ n3_
                      clear hb ho24
                      obtain ⟨Ao25, co25, eo25⟩ := Kd.R_slice HO319.out
                      subst eo25
                      obtain ⟨ado25, fo25, _⟩ := Kd.at_string (Kd.R_reads' HO319.out).2.2 0 (by decide) (by rw [Ny317.out]; simp)
                      cases fo25
                      refine hK.out _ _ ⟨.slice (some ado25) y317.length co25, ado25, m6_, (by rw [ha.out]; exact putSel_upk 1 hb_ rfl rfl rfl), z_HI0, (by repeat (first | (with_reducible first | exact HK.out | apply KeepBut.set_ | apply keep_drewN | apply keep_drew | apply keep_alloc) | exact HK.out)), (by repeat (first | (with_reducible first | exact HB.out | apply below_alloc | apply pw_below_drewN | apply below_drew1) | exact HB.out)), fun _ => (by (with_reducible repeat (first | apply Kd.R_alloc | apply Kd.R_drewN | apply Kd.R_drew)); exact HO319.out), fun _ => ⟨_, rfl⟩, z_HI0_e5, fun h0_ => absurd ((hoff 6 (by kernel_rfl)).symm.trans h0_) (by decide)⟩
                    refine steps_cons ?_ ?_
                    · rintro b a w' ⟨v318, adz_v318, m6_, ha, Q_HI0, Q_HK, Q_HB, Q_HO319, Q_HA_HO319, Q_HI0_e5, Q_X6_⟩ hb_ hon hoff
                      refine ⟨_, rfl, fun K hK => ?_⟩
                      have e24 : a.tmps[24]? = some (.pointer (some ⟨g, 0, none⟩)) := by rw [ha]; exact (putSel_off rfl).trans rfl
                      replace ha := Aside0.mk ha
                      have HI0 := Aside0.mk (Q_HI0 hb_)
                      have HK := Aside0.mk Q_HK
                      have HB := Aside0.mk Q_HB
                      refine goes_ Tryd.func28 (by kernel_rfl) rfl #[.pointer (some ⟨g, 0, none⟩), .int .i64 8] (by rfl) rfl rfl (by first | (simp only [List.map_toArray, List.map_cons, List.map_nil, Act.eval, Array.getD_eq_getD_getElem?, Option.getD_some, e24]; done) | (simp only [List.map_toArray, List.map_cons, List.map_nil, Act.eval, Array.getD_eq_getD_getElem?, Option.getD_some, e24]; rfl)) ?_
                      with_reducible refine (spec_l01Next.calls g s0_0 t315 t316 8 t320 t321 t322 w0 _ ?side1 ?side2 A13.out).mono ?_
                      (case side1 => repeat (first | (with_reducible first | exact HI0.out | apply IsS63.alloc | apply IsS63.drewN | apply IsS63.drew | apply IsS63.set_1 | apply IsS63.set_2) | exact HI0.out))
                      (case side2 => repeat (first | (with_reducible first | exact HB.out | apply below_alloc | apply pw_below_drewN | apply below_drew1 | refine below_set ?_ (IsS63.ge HI0.out)) | exact HB.out))
                      rintro e w23 ⟨rfl, hi, hb, hk⟩
                      refine ⟨_, rfl, ?_⟩
                      have n0_ := Aside0.mk (KeepBut.trans (by repeat (first | (with_reducible first | exact HK.out | apply KeepBut.set_ | apply keep_drewN | apply keep_drew | apply keep_alloc) | exact HK.out)) hk (.inl rfl))
                      have n1_ := Aside0.mk (hb)
                      have n2_ := Aside0.mk (hi)
                      have z_HO319 := fun (h0_ : b 3 = true) => (show Kd.R Kd.string 9 w23 w.heap.size (fun _ => True) v318 y317 from by first | exact (Kd.R_mono (Kd.R_keep (IsS63.apart (show IsS63 w0 _ g s0_0 t315 t316 from by repeat (first | (with_reducible first | exact HI0.out | apply IsS63.alloc | apply IsS63.drewN | apply IsS63.drew | apply IsS63.set_1 | apply IsS63.set_2) | exact HI0.out)) (by (with_reducible repeat (first | apply Kd.R_alloc | apply Kd.R_drewN | apply Kd.R_drew)); exact (Q_HO319 h0_)) (by decide)) hk (fun _ h => h.2)) (fun _ h => h.1)) | exact Kd.R_mono (Kd.R_mono (Kd.R_keep (IsS63.apart (show IsS63 w0 _ g s0_0 t315 t316 from by repeat (first | (with_reducible first | exact HI0.out | apply IsS63.alloc | apply IsS63.drewN | apply IsS63.drew | apply IsS63.set_1 | apply IsS63.set_2) | exact HI0.out)) (by (with_reducible repeat (first | apply Kd.R_alloc | apply Kd.R_drewN | apply Kd.R_drew)); exact (Q_HO319 h0_)) (by decide)) hk (fun _ h => h.2)) (fun _ h => h.1)) (fun _ h_ => by first | trivial | exact h_ | exact h_.1))
                      clear HK
                      clear HB
                      clear HI0
                      have HK := n0_
                      have HB := n1_
                      have HI0 := n2_
                      clear n0_ n1_ n2_
                      (try clear hb)
                      (try clear hb2)
                      (try clear hk)
                      (try clear hi)
                      refine hK.out _ _ ⟨v318, adz_v318, m6_, (by rw [ha.out]; exact putSel_upk 2 hb_ rfl rfl rfl), fun h0_ => absurd ((up_self b 5).symm.trans h0_) (by decide), (by repeat (first | (with_reducible first | exact HK.out | apply KeepBut.set_ | apply keep_drewN | apply keep_drew | apply keep_alloc) | exact HK.out)), (by repeat (first | (with_reducible first | exact HB.out | apply below_alloc | apply pw_below_drewN | apply below_drew1 | refine below_set ?_ (IsS63.ge HI0.out)) | exact HB.out)), z_HO319, Q_HA_HO319, fun _ => (by repeat (first | (with_reducible first | exact HI0.out | apply IsS63.alloc | apply IsS63.drewN | apply IsS63.drew | apply IsS63.set_1 | apply IsS63.set_2) | exact HI0.out)), fun h0_ => absurd ((hoff 6 (by kernel_rfl)).symm.trans h0_) (by decide)⟩
                    refine steps_cons ?_ ?_
                    · rintro b a w' ⟨v318, adz_v318, m6_, ha, Q_HI0, Q_HK, Q_HB, Q_HO319, Q_HA_HO319, Q_HI0_e5, Q_X6_⟩ hb_ hon hoff
                      refine ⟨_, rfl, fun K hK => ?_⟩
                      have e23 : a.tmps[23]? = some (v318) := by rw [ha]; exact putSel_on (e := (3, 23, v318)) 1 rfl rfl (hon 3 (by kernel_rfl)) rfl
                      have e25 : a.tmps[25]? = some (.int .i64 t320) := by rw [ha]; exact putSel_on (e := (5, 25, .int .i64 t320)) 2 rfl rfl (hon 5 (by kernel_rfl)) rfl
                      replace ha := Aside0.mk ha
                      have HK := Aside0.mk Q_HK
                      have HB := Aside0.mk Q_HB
                      have HO319 := Aside0.mk (Q_HO319 (hon 3 (by kernel_rfl)))
                      have HA_HO319 := Aside0.mk (Q_HA_HO319 (hon 3 (by kernel_rfl)))
                      have HI0 := Aside0.mk (Q_HI0_e5 (hon 5 (by kernel_rfl)))
                      obtain ⟨c_, hv_⟩ := HA_HO319.out
                      rw [hv_] at e23
                      refine value_ (w1 := w') (v := .pointer (some (adz_v318.add (t320).toNat))) (by rfl) rfl ?_ ?_
                      · go_simp
                        (try simp only [i64_w])
                        try rfl
                        (try (first | done | omega | (simp only [decide_eq_true_eq] at *; omega)))
                      refine hK.out _ _ ⟨v318, adz_v318, (.pointer (some (adz_v318.add (t320).toNat))), (by rw [ha.out]; exact putSel_upk 3 hb_ rfl rfl rfl), fun h0_ => absurd ((hon 5 (by kernel_rfl)).symm.trans h0_) (by decide), Q_HK, Q_HB, Q_HO319, Q_HA_HO319, Q_HI0_e5, fun _ => rfl⟩
                    refine steps_cons ?_ ?_
                    · rintro b a w' ⟨v318, adz_v318, m6_, ha, Q_HI0, Q_HK, Q_HB, Q_HO319, Q_HA_HO319, Q_HI0_e5, Q_X6_⟩ hb_ hon hoff
                      refine ⟨_, rfl, fun K hK => ?_⟩
                      have e26 : a.tmps[26]? = some (m6_) := by rw [ha]; exact putSel_on (e := (6, 26, m6_)) 3 rfl rfl (hon 6 (by kernel_rfl)) rfl
                      rw [Q_X6_ (hon 6 (by kernel_rfl))] at e26
                      replace ha := Aside0.mk ha
                      have HK := Aside0.mk Q_HK
                      have HB := Aside0.mk Q_HB
                      have HO319 := Aside0.mk (Q_HO319 (hon 3 (by kernel_rfl)))
                      have HA_HO319 := Aside0.mk (Q_HA_HO319 (hon 3 (by kernel_rfl)))
                      have HI0 := Aside0.mk (Q_HI0_e5 (hon 5 (by kernel_rfl)))
                      obtain ⟨c_, hv_⟩ := HA_HO319.out
                      have hF_ := HO319.out
                      rw [hv_] at hF_
                      obtain ⟨ad_, ea_, hx_⟩ := Kd.at_string (Kd.R_reads' hF_).2.2 t320 (of_eq_true pi323) (of_eq_true qi323)
                      cases ea_
                      refine value_ (w1 := w') (v := .string (rdOf ByteArray.empty y317 t320)) (by rfl) rfl ?_ ?_
                      · go_simp
                        (try simp only [i64_w])
                        try rfl
                        (try (first | done | omega | (simp only [decide_eq_true_eq] at *; omega)))
                      refine hK.out _ _ ⟨v318, adz_v318, m6_, (by rw [ha.out]; exact putSel_upk 4 hb_ rfl rfl rfl), fun h0_ => absurd ((hon 5 (by kernel_rfl)).symm.trans h0_) (by decide), Q_HK, Q_HB, Q_HO319, Q_HA_HO319, Q_HI0_e5, Q_X6_⟩
                    refine steps_cons ?_ ?_
                    · rintro b a w' ⟨v318, adz_v318, m6_, ha, Q_HI0, Q_HK, Q_HB, Q_HO319, Q_HA_HO319, Q_HI0_e5, Q_X6_⟩ hb_ hon hoff
                      refine ⟨_, rfl, fun K hK => ?_⟩
                      have e22 : a.tmps[22]? = some (.string (a1.extract 0 (t311 : Int).toNat)) := by rw [ha]; exact putSel_on (e := (2, 22, .string (a1.extract 0 (t311 : Int).toNat))) 0 rfl rfl (hon 2 (by kernel_rfl)) rfl
                      have e27 : a.tmps[27]? = some (.string (rdOf ByteArray.empty y317 t320)) := by rw [ha]; exact putSel_on (e := (7, 27, .string (rdOf ByteArray.empty y317 t320))) 4 rfl rfl (hon 7 (by kernel_rfl)) rfl
                      replace ha := Aside0.mk ha
                      have HK := Aside0.mk Q_HK
                      have HB := Aside0.mk Q_HB
                      have HO319 := Aside0.mk (Q_HO319 (hon 3 (by kernel_rfl)))
                      have HA_HO319 := Aside0.mk (Q_HA_HO319 (hon 3 (by kernel_rfl)))
                      have HI0 := Aside0.mk (Q_HI0_e5 (hon 5 (by kernel_rfl)))
                      refine value_ (w1 := w') (v := .string ((a1.extract 0 (t311 : Int).toNat) ++ (rdOf ByteArray.empty y317 t320))) (by rfl) rfl ?_ ?_
                      · go_simp
                        (try simp only [i64_w])
                        try rfl
                        (try (first | done | omega | (simp only [decide_eq_true_eq] at *; omega)))
                      refine hK.out _ _ ⟨v318, adz_v318, m6_, (by rw [ha.out]; exact putSel_upk 5 hb_ rfl rfl rfl), fun h0_ => absurd ((hon 5 (by kernel_rfl)).symm.trans h0_) (by decide), Q_HK, Q_HB, Q_HO319, Q_HA_HO319, Q_HI0_e5, Q_X6_⟩
                    refine steps_cons ?_ ?_
                    · rintro b a w' ⟨v318, adz_v318, m6_, ha, Q_HI0, Q_HK, Q_HB, Q_HO319, Q_HA_HO319, Q_HI0_e5, Q_X6_⟩ hb_ hon hoff
                      refine ⟨_, rfl, fun K hK => ?_⟩
                      have e29 : a.tmps[29]? = some (.string a1) := by rw [ha]; exact (putSel_off rfl).trans rfl
                      have e30 : a.tmps[30]? = some (.int .i64 t311) := by rw [ha]; exact (putSel_off rfl).trans rfl
                      replace ha := Aside0.mk ha
                      have HK := Aside0.mk Q_HK
                      have HB := Aside0.mk Q_HB
                      refine value_ (w1 := w') (v := .string (a1.extract (t311 : Int).toNat a1.size)) (by rfl) rfl ?_ ?_
                      · go_simp
                        (try simp only [i64_w])
                        try rfl
                        (try (first | done | omega | (simp only [decide_eq_true_eq] at *; omega)))
                      refine hK.out _ _ ⟨v318, adz_v318, m6_, (by rw [ha.out]; exact putSel_upk 6 hb_ rfl rfl rfl), Q_HI0, Q_HK, Q_HB, Q_HO319, Q_HA_HO319, Q_HI0_e5, Q_X6_⟩
                    refine steps_cons ?_ ?_
                    · rintro b a w' ⟨v318, adz_v318, m6_, ha, Q_HI0, Q_HK, Q_HB, Q_HO319, Q_HA_HO319, Q_HI0_e5, Q_X6_⟩ hb_ hon hoff
                      refine ⟨_, rfl, fun K hK => ?_⟩
                      have e28 : a.tmps[28]? = some (.string ((a1.extract 0 (t311 : Int).toNat) ++ (rdOf ByteArray.empty y317 t320))) := by rw [ha]; exact putSel_on (e := (8, 28, .string ((a1.extract 0 (t311 : Int).toNat) ++ (rdOf ByteArray.empty y317 t320)))) 5 rfl rfl (hon 8 (by kernel_rfl)) rfl
                      have e31 : a.tmps[31]? = some (.string (a1.extract (t311 : Int).toNat a1.size)) := by rw [ha]; exact putSel_on (e := (11, 31, .string (a1.extract (t311 : Int).toNat a1.size))) 6 rfl rfl (hon 11 (by kernel_rfl)) rfl
                      replace ha := Aside0.mk ha
                      have HK := Aside0.mk Q_HK
                      have HB := Aside0.mk Q_HB
                      have HO319 := Aside0.mk (Q_HO319 (hon 3 (by kernel_rfl)))
                      have HA_HO319 := Aside0.mk (Q_HA_HO319 (hon 3 (by kernel_rfl)))
                      have HI0 := Aside0.mk (Q_HI0_e5 (hon 5 (by kernel_rfl)))
                      refine value_ (w1 := w') (v := .string (((a1.extract 0 (t311 : Int).toNat) ++ (rdOf ByteArray.empty y317 t320)) ++ (a1.extract (t311 : Int).toNat a1.size))) (by rfl) rfl ?_ ?_
                      · go_simp
                        (try simp only [i64_w])
                        try rfl
                        (try (first | done | omega | (simp only [decide_eq_true_eq] at *; omega)))
                      refine hK.out _ _ ⟨v318, adz_v318, m6_, (by rw [ha.out]; exact putSel_upk 7 hb_ rfl rfl rfl), fun h0_ => absurd ((hon 5 (by kernel_rfl)).symm.trans h0_) (by decide), Q_HK, Q_HB, Q_HO319, Q_HA_HO319, Q_HI0_e5, Q_X6_⟩
                    refine steps_cons ?_ ?_
                    · rintro b a w' ⟨v318, adz_v318, m6_, ha, Q_HI0, Q_HK, Q_HB, Q_HO319, Q_HA_HO319, Q_HI0_e5, Q_X6_⟩ hb_ hon hoff
                      refine ⟨_, rfl, fun K hK => ?_⟩
                      have e32 : a.tmps[32]? = some (.string (((a1.extract 0 (t311 : Int).toNat) ++ (rdOf ByteArray.empty y317 t320)) ++ (a1.extract (t311 : Int).toNat a1.size))) := by rw [ha]; exact putSel_on (e := (12, 32, .string (((a1.extract 0 (t311 : Int).toNat) ++ (rdOf ByteArray.empty y317 t320)) ++ (a1.extract (t311 : Int).toNat a1.size)))) 7 rfl rfl (hon 12 (by kernel_rfl)) rfl
                      replace ha := Aside0.mk ha
                      have HK := Aside0.mk Q_HK
                      have HB := Aside0.mk Q_HB
                      have HO319 := Aside0.mk (Q_HO319 (hon 3 (by kernel_rfl)))
                      have HA_HO319 := Aside0.mk (Q_HA_HO319 (hon 3 (by kernel_rfl)))
                      have HI0 := Aside0.mk (Q_HI0_e5 (hon 5 (by kernel_rfl)))
                      refine value_ (w1 := w') (v := .string (((a1.extract 0 (t311 : Int).toNat) ++ (rdOf ByteArray.empty y317 t320)) ++ (a1.extract (t311 : Int).toNat a1.size))) (by rfl) rfl ?_ ?_
                      · go_simp
                        (try simp only [i64_w])
                        try rfl
                        (try (first | done | omega | (simp only [decide_eq_true_eq] at *; omega)))
                      refine hK.out _ _ ⟨v318, adz_v318, m6_, (by rw [ha.out]; exact putSel_upk 8 hb_ rfl rfl rfl), fun h0_ => absurd ((hon 5 (by kernel_rfl)).symm.trans h0_) (by decide), Q_HK, Q_HB, Q_HO319, Q_HA_HO319, Q_HI0_e5, Q_X6_⟩
                    exact steps_nil
                  rintro b a w27 hall ⟨v318, adz_v318, m6_, ha, Q_HI0, Q_HK, Q_HB, Q_HO319, Q_HA_HO319, Q_HI0_e5, Q_X6_⟩
                  clear HB HI0 HK
                  have hb2_ := hall 2 (by kernel_rfl)
                  have hb3_ := hall 3 (by kernel_rfl)
                  have hb5_ := hall 5 (by kernel_rfl)
                  have hb6_ := hall 6 (by kernel_rfl)
                  have hb7_ := hall 7 (by kernel_rfl)
                  have hb8_ := hall 8 (by kernel_rfl)
                  have hb11_ := hall 11 (by kernel_rfl)
                  have hb12_ := hall 12 (by kernel_rfl)
                  have hb13_ := hall 13 (by kernel_rfl)
                  subst ha
                  obtain rfl := Q_X6_ hb6_
                  simp only [putSel, hb2_, hb3_, hb5_, hb6_, hb7_, hb8_, hb11_, hb12_, hb13_, if_true, Act.put, List.setIfInBounds_toArray, List.set_cons_zero, List.set_cons_succ]
                  clear Q_HI0
                  have HK := Aside0.mk Q_HK
                  clear Q_HK
                  have HB := Aside0.mk Q_HB
                  clear Q_HB
                  have HO319 := Aside0.mk (Q_HO319 hb3_)
                  clear Q_HO319
                  have HA_HO319 := Aside0.mk (Q_HA_HO319 hb3_)
                  clear Q_HA_HO319
                  have HI0 := Aside0.mk (Q_HI0_e5 hb5_)
                  clear Q_HI0_e5
                  clear hall hb2_ hb3_ hb5_ hb6_ hb7_ hb8_ hb11_ hb12_ hb13_
                  obtain ⟨co28, eo28⟩ := HA_HO319.out
                  clear HA_HO319
                  subst eo28
                  try go_wp2
                  go_ret
                  exact ⟨by first | rfl | (simp only [Go.IntWalk.i64_left]; first | done | rfl) | (simp [errW_none, errW_some] <;> rfl) | (simp [*, errW_none, errW_some] <;> rfl), by repeat (first | (with_reducible first | exact HI0.out | apply IsS63.alloc | apply IsS63.drewN | apply IsS63.drew | apply IsS63.set_1 | apply IsS63.set_2) | exact HI0.out), by repeat (first | (with_reducible first | exact HB.out | apply below_alloc | apply pw_below_drewN | apply below_drew1 | refine below_set ?_ (IsS63.ge HI0.out)) | exact HB.out), by repeat (first | (with_reducible first | exact HK.out | apply KeepBut.set_ | apply keep_drewN | apply keep_drew | apply keep_alloc) | exact HK.out)⟩
                · rw [if_neg c19] at H
                  exact absurd H (by simp)
              · rw [if_neg c16] at H
                exact absurd H (by simp)
            · rw [if_neg c15] at H
              exact absurd H (by simp)
          · rw [if_neg c14] at H
            exact absurd H (by simp)
        · rw [if_neg c12] at H
          exact absurd H (by simp)
      · rw [if_neg c11] at H
        exact absurd H (by simp)
    · rw [if_neg c10] at H
      have c10b0 : (t314 == 1) = false := beq_eq_false_iff_ne.mpr c10
      have c10b1 : (t314 != 1) = true := bne_iff_ne.mpr c10
      by_cases c29 : t314 = 2
      · rw [if_pos c29] at H
        have c29b0 : (t314 == 2) = true := beq_iff_eq.mpr c29
        have c29b1 : (t314 != 2) = false := bne_eq_false_iff_eq.mpr c29
        clear c29
        by_cases c30 : t311 < (a1.size : Int)
        · rw [if_pos c30] at H
          have c30b0 : decide (t311 < (a1.size : Int)) = true := decide_eq_true c30
          clear c30
          by_cases c31 : 0 ≤ t311
          · rw [if_pos c31] at H
            have c31b0 := eq_true c31
            have c31b1 : decide (0 ≤ t311) = true := decide_eq_true c31
            clear c31
            by_cases c32 : t311 ≤ (a1.size : Int)
            · rw [if_pos c32] at H
              have c32b0 := eq_true c32
              have c32b1 : decide (t311 ≤ (a1.size : Int)) = true := decide_eq_true c32
              clear c32
              obtain ⟨ji33, hji33⟩ : ∃ j_ : Int, (wrap64 (t311 + 1)) = j_ := ⟨_, rfl⟩
              replace H : (if 0 ≤ (ji33) then (if (ji33) ≤ (a1.size : Int) then (if (a1.extract 0 (t311 : Int).toNat).size + (a1.extract ((ji33) : Int).toNat a1.size).size ≤ 9223372036854775807 then (some ((a1.extract 0 (t311 : Int).toNat) ++ (a1.extract ((ji33) : Int).toNat a1.size), t315, t316)) else (none)) else (none)) else (none)) = some (r1, r2, r3) := by first | (rw [hji33] at H; exact H) | (simp only [hji33] at H ⊢; exact H)
              (try rw [hji33] at A3)
              (try rw [hji33] at A4)
              have hji33w : (IntKind.i64.wrap (t311 + 1)) = ji33 := (i64_w _).trans hji33
              by_cases c34 : 0 ≤ (ji33)
              · rw [if_pos c34] at H
                have c34b0 := eq_true c34
                have c34b1 : decide (0 ≤ (ji33)) = true := decide_eq_true c34
                clear c34
                by_cases c35 : (ji33) ≤ (a1.size : Int)
                · rw [if_pos c35] at H
                  have c35b0 := eq_true c35
                  have c35b1 : decide ((ji33) ≤ (a1.size : Int)) = true := decide_eq_true c35
                  clear c35
                  by_cases c36 : (a1.extract 0 (t311 : Int).toNat).size + (a1.extract ((ji33) : Int).toNat a1.size).size ≤ 9223372036854775807
                  · rw [if_pos c36] at H
                    have c36b0 := eq_true c36
                    have c36b1 : decide ((a1.extract 0 (t311 : Int).toNat).size + (a1.extract ((ji33) : Int).toNat a1.size).size ≤ 9223372036854775807) = true := decide_eq_true c36
                    try have c36b2 : (9223372036854775807 < (a1.extract 0 (t311 : Int).toNat).size + (a1.extract ((ji33) : Int).toNat a1.size).size) = False := eq_false (Nat.not_lt.2 c36)
                    (try (have c36s := c36; simp only [ByteArray.size_append, ByteArray.size_extract] at c36s; have c36s0 := eq_true c36s; have c36s1 := decide_eq_true c36s; have c36s2 := eq_false (Nat.not_lt.2 c36s)))
                    (try have c36t := (show (9223372036854775807 < (t311 : Int).toNat + (a1.size - ((ji33) : Int).toNat)) = False from eq_false (by have h_ := c36s; simp only [decide_eq_true_eq, eq_iff_iff, iff_true] at *; omega)))
                    simp only [Option.some.injEq, Prod.mk.injEq] at H
                    obtain ⟨rfl, rfl, rfl⟩ := H
                    go_enter Tryd.func29, Tryd.ntmps29
                    try go_wp2_with (first | ((with_reducible refine gate_callee (f := 28) rfl ?_); refine goesL_ (some 10) rfl rfl Tryd.func28 (by kernel_rfl) rfl #[.pointer (some ⟨g, 0, none⟩), .int .i64 (wrap64 ((a1.size : Int) + 1))] rfl (by (try simp only [List.map_toArray, List.map_cons, List.map_nil]); first | done | rfl | (simp only [List.length_drop, List.length_take]; rfl)) ?_; (with_reducible refine (spec_l01Next.calls g s0_0 s0_1 s0_2 (wrap64 ((a1.size : Int) + 1)) t311 t312 t313 w0 _ ?side1 ?side2 A3.out).mono ?_); (case side1 => repeat (first | (with_reducible first | exact HI0.out | apply IsS63.alloc | apply IsS63.drewN | apply IsS63.drew | apply IsS63.set_1 | apply IsS63.set_2) | exact HI0.out)); (case side2 => repeat (first | (with_reducible first | exact HB.out | apply below_alloc | apply pw_below_drewN | apply below_drew1 | refine below_set ?_ (IsS63.ge HI0.out)) | exact HB.out)); rintro e w37 ⟨rfl, hi, hb, hk⟩; refine ⟨_, rfl, ?_⟩; have n0_ := Aside0.mk (KeepBut.trans (by repeat (first | (with_reducible first | exact HK.out | apply KeepBut.set_ | apply keep_drewN | apply keep_drew | apply keep_alloc) | exact HK.out)) hk (.inl rfl)); have n1_ := Aside0.mk (hb); have n2_ := Aside0.mk (hi); clear HK; clear HB; clear HI0; have HK := n0_; have HB := n1_; have HI0 := n2_; clear n0_ n1_ n2_; (try clear hb); (try clear hb2); (try clear hk); (try clear hi)) | ((with_reducible refine gate_callee (f := 28) rfl ?_); refine goesL_ (some 12) rfl rfl Tryd.func28 (by kernel_rfl) rfl #[.pointer (some ⟨g, 0, none⟩), .int .i64 8] rfl (by (try simp only [List.map_toArray, List.map_cons, List.map_nil]); first | done | rfl | (simp only [List.length_drop, List.length_take]; rfl)) ?_; (with_reducible refine (spec_l01Next.calls g s0_0 t312 t313 8 t314 t315 t316 w0 _ ?side1 ?side2 A4.out).mono ?_); (case side1 => repeat (first | (with_reducible first | exact HI0.out | apply IsS63.alloc | apply IsS63.drewN | apply IsS63.drew | apply IsS63.set_1 | apply IsS63.set_2) | exact HI0.out)); (case side2 => repeat (first | (with_reducible first | exact HB.out | apply below_alloc | apply pw_below_drewN | apply below_drew1 | refine below_set ?_ (IsS63.ge HI0.out)) | exact HB.out)); rintro e w38 ⟨rfl, hi, hb, hk⟩; refine ⟨_, rfl, ?_⟩; have n0_ := Aside0.mk (KeepBut.trans (by repeat (first | (with_reducible first | exact HK.out | apply KeepBut.set_ | apply keep_drewN | apply keep_drew | apply keep_alloc) | exact HK.out)) hk (.inl rfl)); have n1_ := Aside0.mk (hb); have n2_ := Aside0.mk (hi); clear HK; clear HB; clear HI0; have HK := n0_; have HB := n1_; have HI0 := n2_; clear n0_ n1_ n2_; (try clear hb); (try clear hb2); (try clear hk); (try clear hi)))
                    have n0_ := Aside0.mk (IsS63.drew HI0.out)
                    have n1_ := Aside0.mk (keep_drew HK.out)
                    have n2_ := Aside0.mk (below_drew1 HB.out)
                    clear HI0
                    clear HK
                    clear HB
                    have HI0 := n0_
                    have HK := n1_
                    have HB := n2_
                    clear n0_ n1_ n2_
                    refine start_ (n := 9) (S := fun w' => True) (ds := []) #[false, false, false, false, false, false, false, false, false] (by kernel_rfl) rfl rfl trivial (fun hHeld => ?_); refine with_tabW spec_l01Damage.tab9 spec_l01Damage.bits9 (fun HT_ HW_ => ?_)
                    generalize w38.drew = w39 at HI0 HK HB hHeld ⊢
                    refine pure_ (i := 0) (N := some 39) (v := ?_) (a' := ?_) #[true, false, false, false, false, false, false, false, false] rfl rfl (any_of HT_.out (by kernel_rfl)) (fun _ _ _ h => h) (Or.inl ⟨by rfl, ?_⟩) ?_ ?_
                    rotate_left
                    · intro w'
                      go_simp
                      with_reducible rfl
                    rotate_left
                    · simp only [Act.put, List.setIfInBounds_toArray, List.set_cons_zero, List.set_cons_succ, i64_w, i32_w]
                      rfl
                    refine pure_ (i := 1) (N := some 40) (v := ?_) (a' := ?_) #[true, true, false, false, false, false, false, false, false] rfl rfl (any_of HT_.out (by kernel_rfl)) (fun _ _ _ h => h) (Or.inl ⟨by rfl, ?_⟩) ?_ ?_
                    rotate_left
                    · intro w'
                      go_simp
                      with_reducible rfl
                    rotate_left
                    · simp only [Act.put, List.setIfInBounds_toArray, List.set_cons_zero, List.set_cons_succ, i64_w, i32_w]
                      rfl
                    refine pure_ (i := 2) (N := some 41) (v := ?_) (a' := ?_) #[true, true, true, false, false, false, false, false, false] rfl rfl (any_of HT_.out (by kernel_rfl)) (fun _ _ _ h => h) (Or.inl ⟨by rfl, ?_⟩) ?_ ?_
                    rotate_left
                    · intro w'
                      go_simp
                      with_reducible rfl
                    rotate_left
                    · simp only [Act.put, List.setIfInBounds_toArray, List.set_cons_zero, List.set_cons_succ, i64_w, i32_w]
                      rfl
                    refine pure_ (i := 3) (N := some 42) (v := ?_) (a' := ?_) #[true, true, true, true, false, false, false, false, false] rfl rfl (any_of HT_.out (by kernel_rfl)) (fun _ _ _ h => h) (Or.inl ⟨by rfl, ?_⟩) ?_ ?_
                    rotate_left
                    · intro w'
                      go_simp
                      with_reducible rfl
                    rotate_left
                    · simp only [Act.put, List.setIfInBounds_toArray, List.set_cons_zero, List.set_cons_succ, i64_w, i32_w]
                      rfl
                    refine pure_ (i := 4) (N := some 43) (v := ?_) (a' := ?_) #[true, true, true, true, true, false, false, false, false] rfl rfl (any_of HT_.out (by kernel_rfl)) (fun _ _ _ h => h) (Or.inl ⟨by rfl, ?_⟩) ?_ ?_
                    rotate_left
                    · intro w'
                      go_simp
                      with_reducible rfl
                    rotate_left
                    · simp only [Act.put, List.setIfInBounds_toArray, List.set_cons_zero, List.set_cons_succ, i64_w, i32_w]
                      rfl
                    refine pure_ (i := 5) (N := some 44) (v := ?_) (a' := ?_) #[true, true, true, true, true, true, false, false, false] rfl rfl (any_of HT_.out (by kernel_rfl)) (fun _ _ _ h => h) (Or.inl ⟨by rfl, ?_⟩) ?_ ?_
                    rotate_left
                    · intro w'
                      go_simp
                      with_reducible rfl
                    rotate_left
                    · simp only [Act.put, List.setIfInBounds_toArray, List.set_cons_zero, List.set_cons_succ, i64_w, i32_w]
                      rfl
                    refine pure_ (i := 6) (N := some 45) (v := ?_) (a' := ?_) #[true, true, true, true, true, true, true, false, false] rfl rfl (any_of HT_.out (by kernel_rfl)) (fun _ _ _ h => h) (Or.inl ⟨by rfl, ?_⟩) ?_ ?_
                    rotate_left
                    · intro w'
                      go_simp
                      with_reducible rfl
                    rotate_left
                    · simp only [Act.put, List.setIfInBounds_toArray, List.set_cons_zero, List.set_cons_succ, i64_w, i32_w]
                      rfl
                    refine pure_ (i := 7) (N := some 46) (v := ?_) (a' := ?_) #[true, true, true, true, true, true, true, true, false] rfl rfl (any_of HT_.out (by kernel_rfl)) (fun _ _ _ h => h) (Or.inl ⟨by rfl, ?_⟩) ?_ ?_
                    rotate_left
                    · intro w'
                      go_simp
                      with_reducible rfl
                    rotate_left
                    · simp only [Act.put, List.setIfInBounds_toArray, List.set_cons_zero, List.set_cons_succ, i64_w, i32_w]
                      rfl
                    refine pure_ (i := 8) (N := some 4) (v := ?_) (a' := ?_) #[true, true, true, true, true, true, true, true, true] rfl rfl (any_of HT_.out (by kernel_rfl)) (fun _ _ _ h => h) (Or.inl ⟨by rfl, ?_⟩) ?_ ?_
                    rotate_left
                    · intro w'
                      go_simp
                      with_reducible rfl
                    rotate_left
                    · simp only [Act.put, List.setIfInBounds_toArray, List.set_cons_zero, List.set_cons_succ, i64_w, i32_w]
                      rfl
                    refine done_ (done_of HT_.out (by kernel_rfl)) ?_
                    try go_wp2
                    go_ret
                    exact ⟨by first | rfl | (simp only [Go.IntWalk.i64_left]; first | done | rfl) | (simp [errW_none, errW_some] <;> rfl) | (simp only [← hji33]; first | rfl | (simp [errW_none, errW_some] <;> rfl)) | (simp [*, errW_none, errW_some] <;> rfl), by repeat (first | (with_reducible first | exact HI0.out | apply IsS63.alloc | apply IsS63.drewN | apply IsS63.drew | apply IsS63.set_1 | apply IsS63.set_2) | exact HI0.out), by repeat (first | (with_reducible first | exact HB.out | apply below_alloc | apply pw_below_drewN | apply below_drew1 | refine below_set ?_ (IsS63.ge HI0.out)) | exact HB.out), by repeat (first | (with_reducible first | exact HK.out | apply KeepBut.set_ | apply keep_drewN | apply keep_drew | apply keep_alloc) | exact HK.out)⟩
                  · rw [if_neg c36] at H
                    exact absurd H (by simp)
                · rw [if_neg c35] at H
                  exact absurd H (by simp)
              · rw [if_neg c34] at H
                exact absurd H (by simp)
            · rw [if_neg c32] at H
              exact absurd H (by simp)
          · rw [if_neg c31] at H
            exact absurd H (by simp)
        · rw [if_neg c30] at H
          have c30b0 : decide (t311 < (a1.size : Int)) = false := decide_eq_false c30
          clear c30
          simp only [Option.some.injEq, Prod.mk.injEq] at H
          obtain ⟨rfl, rfl, rfl⟩ := H
          go_enter Tryd.func29, Tryd.ntmps29
          go_wp2_with (first | ((with_reducible refine gate_callee (f := 28) rfl ?_); refine goesL_ (some 10) rfl rfl Tryd.func28 (by kernel_rfl) rfl #[.pointer (some ⟨g, 0, none⟩), .int .i64 (wrap64 ((a1.size : Int) + 1))] rfl (by (try simp only [List.map_toArray, List.map_cons, List.map_nil]); first | done | rfl | (simp only [List.length_drop, List.length_take]; rfl)) ?_; (with_reducible refine (spec_l01Next.calls g s0_0 s0_1 s0_2 (wrap64 ((a1.size : Int) + 1)) t311 t312 t313 w0 _ ?side1 ?side2 A3.out).mono ?_); (case side1 => repeat (first | (with_reducible first | exact HI0.out | apply IsS63.alloc | apply IsS63.drewN | apply IsS63.drew | apply IsS63.set_1 | apply IsS63.set_2) | exact HI0.out)); (case side2 => repeat (first | (with_reducible first | exact HB.out | apply below_alloc | apply pw_below_drewN | apply below_drew1 | refine below_set ?_ (IsS63.ge HI0.out)) | exact HB.out)); rintro e w40 ⟨rfl, hi, hb, hk⟩; refine ⟨_, rfl, ?_⟩; have n0_ := Aside0.mk (KeepBut.trans (by repeat (first | (with_reducible first | exact HK.out | apply KeepBut.set_ | apply keep_drewN | apply keep_drew | apply keep_alloc) | exact HK.out)) hk (.inl rfl)); have n1_ := Aside0.mk (hb); have n2_ := Aside0.mk (hi); clear HK; clear HB; clear HI0; have HK := n0_; have HB := n1_; have HI0 := n2_; clear n0_ n1_ n2_; (try clear hb); (try clear hb2); (try clear hk); (try clear hi)) | ((with_reducible refine gate_callee (f := 28) rfl ?_); refine goesL_ (some 12) rfl rfl Tryd.func28 (by kernel_rfl) rfl #[.pointer (some ⟨g, 0, none⟩), .int .i64 8] rfl (by (try simp only [List.map_toArray, List.map_cons, List.map_nil]); first | done | rfl | (simp only [List.length_drop, List.length_take]; rfl)) ?_; (with_reducible refine (spec_l01Next.calls g s0_0 t312 t313 8 t314 t315 t316 w0 _ ?side1 ?side2 A4.out).mono ?_); (case side1 => repeat (first | (with_reducible first | exact HI0.out | apply IsS63.alloc | apply IsS63.drewN | apply IsS63.drew | apply IsS63.set_1 | apply IsS63.set_2) | exact HI0.out)); (case side2 => repeat (first | (with_reducible first | exact HB.out | apply below_alloc | apply pw_below_drewN | apply below_drew1 | refine below_set ?_ (IsS63.ge HI0.out)) | exact HB.out)); rintro e w41 ⟨rfl, hi, hb, hk⟩; refine ⟨_, rfl, ?_⟩; have n0_ := Aside0.mk (KeepBut.trans (by repeat (first | (with_reducible first | exact HK.out | apply KeepBut.set_ | apply keep_drewN | apply keep_drew | apply keep_alloc) | exact HK.out)) hk (.inl rfl)); have n1_ := Aside0.mk (hb); have n2_ := Aside0.mk (hi); clear HK; clear HB; clear HI0; have HK := n0_; have HB := n1_; have HI0 := n2_; clear n0_ n1_ n2_; (try clear hb); (try clear hb2); (try clear hk); (try clear hi)))
          go_ret
          exact ⟨by first | rfl | (simp only [Go.IntWalk.i64_left]; first | done | rfl) | (simp [errW_none, errW_some] <;> rfl) | (simp [*, errW_none, errW_some] <;> rfl), by repeat (first | (with_reducible first | exact HI0.out | apply IsS63.alloc | apply IsS63.drewN | apply IsS63.drew | apply IsS63.set_1 | apply IsS63.set_2) | exact HI0.out), by repeat (first | (with_reducible first | exact HB.out | apply below_alloc | apply pw_below_drewN | apply below_drew1 | refine below_set ?_ (IsS63.ge HI0.out)) | exact HB.out), by repeat (first | (with_reducible first | exact HK.out | apply KeepBut.set_ | apply keep_drewN | apply keep_drew | apply keep_alloc) | exact HK.out)⟩
      · rw [if_neg c29] at H
        have c29b0 : (t314 == 2) = false := beq_eq_false_iff_ne.mpr c29
        have c29b1 : (t314 != 2) = true := bne_iff_ne.mpr c29
        simp only [Option.some.injEq, Prod.mk.injEq] at H
        obtain ⟨rfl, rfl, rfl⟩ := H
        go_enter Tryd.func29, Tryd.ntmps29
        go_wp2_with (first | ((with_reducible refine gate_callee (f := 28) rfl ?_); refine goesL_ (some 10) rfl rfl Tryd.func28 (by kernel_rfl) rfl #[.pointer (some ⟨g, 0, none⟩), .int .i64 (wrap64 ((a1.size : Int) + 1))] rfl (by (try simp only [List.map_toArray, List.map_cons, List.map_nil]); first | done | rfl | (simp only [List.length_drop, List.length_take]; rfl)) ?_; (with_reducible refine (spec_l01Next.calls g s0_0 s0_1 s0_2 (wrap64 ((a1.size : Int) + 1)) t311 t312 t313 w0 _ ?side1 ?side2 A3.out).mono ?_); (case side1 => repeat (first | (with_reducible first | exact HI0.out | apply IsS63.alloc | apply IsS63.drewN | apply IsS63.drew | apply IsS63.set_1 | apply IsS63.set_2) | exact HI0.out)); (case side2 => repeat (first | (with_reducible first | exact HB.out | apply below_alloc | apply pw_below_drewN | apply below_drew1 | refine below_set ?_ (IsS63.ge HI0.out)) | exact HB.out)); rintro e w42 ⟨rfl, hi, hb, hk⟩; refine ⟨_, rfl, ?_⟩; have n0_ := Aside0.mk (KeepBut.trans (by repeat (first | (with_reducible first | exact HK.out | apply KeepBut.set_ | apply keep_drewN | apply keep_drew | apply keep_alloc) | exact HK.out)) hk (.inl rfl)); have n1_ := Aside0.mk (hb); have n2_ := Aside0.mk (hi); clear HK; clear HB; clear HI0; have HK := n0_; have HB := n1_; have HI0 := n2_; clear n0_ n1_ n2_; (try clear hb); (try clear hb2); (try clear hk); (try clear hi)) | ((with_reducible refine gate_callee (f := 28) rfl ?_); refine goesL_ (some 12) rfl rfl Tryd.func28 (by kernel_rfl) rfl #[.pointer (some ⟨g, 0, none⟩), .int .i64 8] rfl (by (try simp only [List.map_toArray, List.map_cons, List.map_nil]); first | done | rfl | (simp only [List.length_drop, List.length_take]; rfl)) ?_; (with_reducible refine (spec_l01Next.calls g s0_0 t312 t313 8 t314 t315 t316 w0 _ ?side1 ?side2 A4.out).mono ?_); (case side1 => repeat (first | (with_reducible first | exact HI0.out | apply IsS63.alloc | apply IsS63.drewN | apply IsS63.drew | apply IsS63.set_1 | apply IsS63.set_2) | exact HI0.out)); (case side2 => repeat (first | (with_reducible first | exact HB.out | apply below_alloc | apply pw_below_drewN | apply below_drew1 | refine below_set ?_ (IsS63.ge HI0.out)) | exact HB.out)); rintro e w43 ⟨rfl, hi, hb, hk⟩; refine ⟨_, rfl, ?_⟩; have n0_ := Aside0.mk (KeepBut.trans (by repeat (first | (with_reducible first | exact HK.out | apply KeepBut.set_ | apply keep_drewN | apply keep_drew | apply keep_alloc) | exact HK.out)) hk (.inl rfl)); have n1_ := Aside0.mk (hb); have n2_ := Aside0.mk (hi); clear HK; clear HB; clear HI0; have HK := n0_; have HB := n1_; have HI0 := n2_; clear n0_ n1_ n2_; (try clear hb); (try clear hb2); (try clear hk); (try clear hi)))
        go_ret
        exact ⟨by first | rfl | (simp only [Go.IntWalk.i64_left]; first | done | rfl) | (simp [errW_none, errW_some] <;> rfl) | (simp [*, errW_none, errW_some] <;> rfl), by repeat (first | (with_reducible first | exact HI0.out | apply IsS63.alloc | apply IsS63.drewN | apply IsS63.drew | apply IsS63.set_1 | apply IsS63.set_2) | exact HI0.out), by repeat (first | (with_reducible first | exact HB.out | apply below_alloc | apply pw_below_drewN | apply below_drew1 | refine below_set ?_ (IsS63.ge HI0.out)) | exact HB.out), by repeat (first | (with_reducible first | exact HK.out | apply KeepBut.set_ | apply keep_drewN | apply keep_drew | apply keep_alloc) | exact HK.out)⟩

/-! ### spec_DrawPageOfLabel: function 15 -/
def spec_DrawPageOfLabel.f (k : Nat) (l0 : List Int) : Option (Int × List Int × Bool × ByteArray) := (spec_l01From.f k l0).bind fun bt325 => ((spec_l02DrawPage.f k bt325.1 bt325.2.1 bt325.2.2).bind fun bt329 => ((spec_LabelOf.f k bt329.1 bt329.2.1 bt329.2.2.1 bt329.2.2.2.1).bind fun bt338 => ((spec_l01Next.f bt325.1 bt329.2.2.2.2.1 bt329.2.2.2.2.2 4).bind fun bt340 => (if bt340.1 = 0 then ((spec_l01Damage.f bt325.1 bt340.2.1 bt340.2.2 bt338.1).bind fun bt343 => (some (bt329.1, bt329.2.1, bt329.2.2.1, bt343.1))) else (some (bt329.1, bt329.2.1, bt329.2.2.1, bt338.1))))))
theorem spec_DrawPageOfLabel.mono : ∀ a0 k, LeO (spec_DrawPageOfLabel.f k a0) (spec_DrawPageOfLabel.f (k + 1) a0) := by
  intro a0 k
  unfold spec_DrawPageOfLabel.f
  repeat' first
      | (with_reducible exact spec_LabelOf.mono _ _ _ _ _)
      | (with_reducible exact spec_l01From.mono _ _)
      | (with_reducible exact spec_l02DrawPage.mono _ _ _ _)
      | (with_reducible exact LeO.refl _)
      | (with_reducible exact LeO.none _)
      | (with_reducible refine LeO.ite ?_ ?_)
      | (with_reducible refine LeO.bind ?_ (fun _ => ?_))
      | exact spec_LabelOf.mono _ _ _ _ _
      | exact spec_l01From.mono _ _
      | exact spec_l02DrawPage.mono _ _ _ _
      | exact LeO.none _
      | refine LeO.ite ?_ ?_
      | refine LeO.bind ?_ (fun _ => ?_)
set_option maxHeartbeats 8000000 in
set_option maxRecDepth 100000 in
theorem spec_DrawPageOfLabel.calls (k : Nat) (A0 : Option Addr) (c0 : Nat) (l0 : List Int) (r1 : Int) (r2 : List Int) (r3 : Bool) (r4 : ByteArray) (w : World) (hr0 : Kd.C (Kd.int .u8) w A0 l0.length l0) (hc0 : l0.length ≤ c0) (h : spec_DrawPageOfLabel.f k l0 = some (r1, r2, r3, r4)) :
    Calls Tryd.prog 15 #[.slice A0 l0.length c0] w fun e w' => ∃ v1_ : Value, e = .returned (.tuple #[.agg #[.int .i64 r1, v1_, .bool r3], .string r4]) ∧ Kd.R (Kd.int .i64) 2 w' w.heap.size (fun _ => True) v1_ r2 ∧ Below w.heap.size w w' := by
  have hu28 := Tryd.underlying28
  have HR0 := Aside0.mk hr0
  have HC0 := Aside0.mk hc0
  clear hr0 hc0
  have HB := Aside0.mk (Below.refl w.heap.size w)
  have H : ((spec_l01From.f k l0).bind fun bt325 => ((spec_l02DrawPage.f k bt325.1 bt325.2.1 bt325.2.2).bind fun bt329 => ((spec_LabelOf.f k bt329.1 bt329.2.1 bt329.2.2.1 bt329.2.2.2.1).bind fun bt338 => ((spec_l01Next.f bt325.1 bt329.2.2.2.2.1 bt329.2.2.2.2.2 4).bind fun bt340 => (if bt340.1 = 0 then ((spec_l01Damage.f bt325.1 bt340.2.1 bt340.2.2 bt338.1).bind fun bt343 => (some (bt329.1, bt329.2.1, bt329.2.2.1, bt343.1))) else (some (bt329.1, bt329.2.1, bt329.2.2.1, bt338.1))))))) = some (r1, r2, r3, r4) := h
  clear h
  replace H := Option.bind_eq_some_iff.mp H
  obtain ⟨⟨t325, t326, t327⟩, A20, H⟩ := H
  replace H : ((spec_l02DrawPage.f k t325 t326 t327).bind fun bt329 => ((spec_LabelOf.f k bt329.1 bt329.2.1 bt329.2.2.1 bt329.2.2.2.1).bind fun bt338 => ((spec_l01Next.f t325 bt329.2.2.2.2.1 bt329.2.2.2.2.2 4).bind fun bt340 => (if bt340.1 = 0 then ((spec_l01Damage.f t325 bt340.2.1 bt340.2.2 bt338.1).bind fun bt343 => (some (bt329.1, bt329.2.1, bt329.2.2.1, bt343.1))) else (some (bt329.1, bt329.2.1, bt329.2.2.1, bt338.1)))))) = some (r1, r2, r3, r4) := H
  have A2 := Aside0.mk A20
  clear A20
  replace H := Option.bind_eq_some_iff.mp H
  obtain ⟨⟨t329, t330, t333, t334, t335, t336⟩, A30, H⟩ := H
  replace H : ((spec_LabelOf.f k t329 t330 t333 t334).bind fun bt338 => ((spec_l01Next.f t325 t335 t336 4).bind fun bt340 => (if bt340.1 = 0 then ((spec_l01Damage.f t325 bt340.2.1 bt340.2.2 bt338.1).bind fun bt343 => (some (t329, t330, t333, bt343.1))) else (some (t329, t330, t333, bt338.1))))) = some (r1, r2, r3, r4) := H
  have A3 := Aside0.mk A30
  clear A30
  replace H := Option.bind_eq_some_iff.mp H
  obtain ⟨⟨t338, t339⟩, A40, H⟩ := H
  replace H : ((spec_l01Next.f t325 t335 t336 4).bind fun bt340 => (if bt340.1 = 0 then ((spec_l01Damage.f t325 bt340.2.1 bt340.2.2 t338).bind fun bt343 => (some (t329, t330, t333, bt343.1))) else (some (t329, t330, t333, t338)))) = some (r1, r2, r3, r4) := H
  have A4 := Aside0.mk A40
  clear A40
  replace H := Option.bind_eq_some_iff.mp H
  obtain ⟨⟨t340, t341, t342⟩, A50, H⟩ := H
  replace H : (if t340 = 0 then ((spec_l01Damage.f t325 t341 t342 t338).bind fun bt343 => (some (t329, t330, t333, bt343.1))) else (some (t329, t330, t333, t338))) = some (r1, r2, r3, r4) := H
  have A5 := Aside0.mk A50
  clear A50
  by_cases c6 : t340 = 0
  · rw [if_pos c6] at H
    have c6b0 : (t340 == 0) = true := beq_iff_eq.mpr c6
    have c6b1 : (t340 != 0) = false := bne_eq_false_iff_eq.mpr c6
    clear c6
    replace H := Option.bind_eq_some_iff.mp H
    obtain ⟨⟨t343, t344, t345⟩, A70, H⟩ := H
    replace H : (some (t329, t330, t333, t343)) = some (r1, r2, r3, r4) := H
    have A7 := Aside0.mk A70
    clear A70
    simp only [Option.some.injEq, Prod.mk.injEq] at H
    obtain ⟨rfl, rfl, rfl, rfl⟩ := H
    go_enter Tryd.func15, Tryd.ntmps15
    try go_wp2_with (first | ((with_reducible refine gate_dst (N := 2) rfl ?_); refine box_event ?hg (N := 2) ?hd (cs := #[.int .i64 0, .slice none 0 0, .bool false]) (t := 28) ?hr ?_; (case hd => rfl); (case hg => rfl); (case hr => first | (go_simp; done) | (go_simp; rfl)); intro gb324 hg w8 hbox hb; have n0_ := Aside0.mk (below_step (by repeat (first | (with_reducible first | exact HB.out | apply below_alloc | apply pw_below_drewN | apply below_drew1) | exact HB.out)) hb); have n1_ := Aside0.mk (hbox); have n2_ := Aside0.mk ((by rw [hg]; exact (below_size (by repeat (first | (with_reducible first | exact HB.out | apply below_alloc | apply pw_below_drewN | apply below_drew1) | exact HB.out))) : w.heap.size ≤ gb324)); have n3_ := Aside0.mk ((by rw [hg]; exact (below_size (by repeat (first | (with_reducible first | exact HB.out | apply below_alloc | apply pw_below_drewN | apply below_drew1) | exact HB.out))) : w.heap.size ≤ gb324)); clear HB; have HB := n0_; have BK324 := n1_; have GW324 := n2_; have GE324 := n3_; clear n0_ n1_ n2_ n3_; clear hb hbox hg) | ((with_reducible refine gate_callee (f := 27) rfl ?_); refine goesL_ (some 10) rfl rfl Tryd.func27 (by kernel_rfl) rfl #[.slice A0 l0.length c0] rfl (by (try simp only [List.map_toArray, List.map_cons, List.map_nil]); first | done | rfl | (simp only [List.length_drop, List.length_take]; rfl)) ?_; (with_reducible refine (spec_l01From.calls k _ _ l0 t325 t326 t327 w _ ?side1 ?side2 ?side3 A2.out).mono ?_); (case side1 => repeat (first | (with_reducible first | exact HB.out | apply below_alloc | apply pw_below_drewN | apply below_drew1 | refine below_set ?_ GE324.out) | exact HB.out)); (case side2 => exact HR0.out); (case side3 => exact HC0.out); rintro e w9 ⟨g328, rfl, hi, hb, hb2⟩; refine ⟨_, rfl, ?_⟩; have n0_ := Aside0.mk (blk_below (g := gb324) (o := .cells #[.int .i64 0, .slice none 0 0, .bool false] 28 (0, 0)) (by (with_reducible repeat (first | refine blk_drewN ?_ _ | refine blk_drew ?_ | refine blk_alloc ?_ _)); exact BK324.out) hb2); have n1_ := Aside0.mk (hb); have n2_ := Aside0.mk (hi); have n3_ := Aside0.mk (IsS63.ne_blk hi (blk_below (g := gb324) (o := .cells #[.int .i64 0, .slice none 0 0, .bool false] 28 (0, 0)) (by (with_reducible repeat (first | refine blk_drewN ?_ _ | refine blk_drew ?_ | refine blk_alloc ?_ _)); exact BK324.out) hb2) (by decide)); have n4_ := Aside0.mk (Ne.symm (IsS63.ne_blk hi (blk_below (g := gb324) (o := .cells #[.int .i64 0, .slice none 0 0, .bool false] 28 (0, 0)) (by (with_reducible repeat (first | refine blk_drewN ?_ _ | refine blk_drew ?_ | refine blk_alloc ?_ _)); exact BK324.out) hb2) (by decide))); clear BK324; clear HB; have BK324 := n0_; have HB := n1_; have HI328 := n2_; have NB328_324 := n3_; have NB324_328 := n4_; clear n0_ n1_ n2_ n3_ n4_; (try clear hb); (try clear hb2); (try clear hk); (try clear hi)) | ((with_reducible refine gate_callee (f := 26) rfl ?_); refine goesL_ (some 13) rfl rfl Tryd.func26 (by kernel_rfl) rfl #[.pointer (some ⟨g328, 0, none⟩)] rfl (by (try simp only [List.map_toArray, List.map_cons, List.map_nil]); first | done | rfl | (simp only [List.length_drop, List.length_take]; rfl)) ?_; (with_reducible refine (spec_l02DrawPage.calls k g328 t325 t326 t327 t329 t330 t333 t334 t335 t336 w _ ?side1 ?side2 A3.out).mono ?_); (case side1 => repeat (first | (with_reducible first | exact HI328.out | apply IsS63.alloc | apply IsS63.drewN | apply IsS63.drew | apply IsS63.set_1 | apply IsS63.set_2 | refine IsS63.far ?_ NB328_324.out _) | exact HI328.out)); (case side2 => repeat (first | (with_reducible first | exact HB.out | apply below_alloc | apply pw_below_drewN | apply below_drew1 | refine below_set ?_ (IsS63.ge HI328.out) | refine below_set ?_ GE324.out) | exact HB.out)); rintro e w10 ⟨v331, rfl, ho0, hi, hb, hk⟩; refine ⟨_, rfl, ?_⟩; have n0_ := Aside0.mk (KeepBut.blk hk (g' := gb324) (o := .cells #[.int .i64 0, .slice none 0 0, .bool false] 28 (0, 0)) (by (with_reducible repeat (first | refine blk_drewN ?_ _ | refine blk_drew ?_ | refine blk_alloc ?_ _)); exact BK324.out) NB324_328.out (by simp)); have n1_ := Aside0.mk (Kd.R_lower ho0 (below_size (by repeat (first | (with_reducible first | exact HB.out | apply below_alloc | apply pw_below_drewN | apply below_drew1 | refine below_set ?_ (IsS63.ge HI328.out) | refine below_set ?_ GE324.out) | exact HB.out)))); have n2_ := Aside0.mk (hb); have n3_ := Aside0.mk (hi); clear BK324; clear HB; clear HI328; have BK324 := n0_; have HO332 := n1_; have HB := n2_; have HI328 := n3_; clear n0_ n1_ n2_ n3_; (try clear hb); (try clear hb2); (try clear hk); (try clear hi); (try clear ho0)) | ((with_reducible refine gate_dst (N := 5) rfl ?_); refine box_event ?hg (N := 5) ?hd (cs := #[.int .i64 0, .slice none 0 0, .bool false]) (t := 28) ?hr ?_; (case hd => rfl); (case hg => rfl); (case hr => first | (go_simp; done) | (go_simp; rfl)); intro gb337 hg w11 hbox hb; have n0_ := Aside0.mk (Kd.R_below (by (with_reducible repeat (first | apply Kd.R_alloc | apply Kd.R_drewN | apply Kd.R_drew)); exact HO332.out) hb); have n1_ := Aside0.mk (blk_below (g := gb324) (o := .cells #[.int .i64 0, .slice none 0 0, .bool false] 28 (0, 0)) (by (with_reducible repeat (first | refine blk_drewN ?_ _ | refine blk_drew ?_ | refine blk_alloc ?_ _)); exact BK324.out) hb); have n2_ := Aside0.mk (IsS63.below (by repeat (first | (with_reducible first | exact HI328.out | apply IsS63.alloc | apply IsS63.drewN | apply IsS63.drew | apply IsS63.set_1 | apply IsS63.set_2 | refine IsS63.far ?_ NB328_324.out _) | exact HI328.out)) hb); have n3_ := Aside0.mk (below_step (by repeat (first | (with_reducible first | exact HB.out | apply below_alloc | apply pw_below_drewN | apply below_drew1 | refine below_set ?_ (IsS63.ge HI328.out) | refine below_set ?_ GE324.out) | exact HB.out)) hb); have n4_ := Aside0.mk (hbox); have n5_ := Aside0.mk ((by rw [hg]; exact (below_size (by repeat (first | (with_reducible first | exact HB.out | apply below_alloc | apply pw_below_drewN | apply below_drew1 | refine below_set ?_ (IsS63.ge HI328.out) | refine below_set ?_ GE324.out) | exact HB.out))) : w.heap.size ≤ gb337)); have n6_ := Aside0.mk ((by rw [hg]; exact (below_size (by repeat (first | (with_reducible first | exact HB.out | apply below_alloc | apply pw_below_drewN | apply below_drew1 | refine below_set ?_ (IsS63.ge HI328.out) | refine below_set ?_ GE324.out) | exact HB.out))) : w.heap.size ≤ gb337)); have n7_ := Aside0.mk ((by rw [hg]; exact Nat.ne_of_lt (blk_lt (g := gb324) (o := .cells #[.int .i64 0, .slice none 0 0, .bool false] 28 (0, 0)) (by (with_reducible repeat (first | refine blk_drewN ?_ _ | refine blk_drew ?_ | refine blk_alloc ?_ _)); exact BK324.out)) : gb324 ≠ gb337)); have n8_ := Aside0.mk ((by rw [hg]; exact Nat.ne_of_gt (blk_lt (g := gb324) (o := .cells #[.int .i64 0, .slice none 0 0, .bool false] 28 (0, 0)) (by (with_reducible repeat (first | refine blk_drewN ?_ _ | refine blk_drew ?_ | refine blk_alloc ?_ _)); exact BK324.out)) : gb337 ≠ gb324)); have n9_ := Aside0.mk ((by rw [hg]; exact Nat.ne_of_lt (IsS63.lt (show IsS63 w _ g328 t325 t335 t336 from by repeat (first | (with_reducible first | exact HI328.out | apply IsS63.alloc | apply IsS63.drewN | apply IsS63.drew | apply IsS63.set_1 | apply IsS63.set_2 | refine IsS63.far ?_ NB328_324.out _) | exact HI328.out))) : g328 ≠ gb337)); have n10_ := Aside0.mk ((by rw [hg]; exact Nat.ne_of_gt (IsS63.lt (show IsS63 w _ g328 t325 t335 t336 from by repeat (first | (with_reducible first | exact HI328.out | apply IsS63.alloc | apply IsS63.drewN | apply IsS63.drew | apply IsS63.set_1 | apply IsS63.set_2 | refine IsS63.far ?_ NB328_324.out _) | exact HI328.out))) : gb337 ≠ g328)); clear HO332; clear BK324; clear HI328; clear HB; have HO332 := n0_; have BK324 := n1_; have HI328 := n2_; have HB := n3_; have BK337 := n4_; have GW337 := n5_; have GE337 := n6_; have NB324_337 := n7_; have NB337_324 := n8_; have NB328_337 := n9_; have NB337_328 := n10_; clear n0_ n1_ n2_ n3_ n4_ n5_ n6_ n7_ n8_ n9_ n10_; clear hb hbox hg; have hnb12 := NB337_324.out; have hnc12 := NB324_337.out; have hnb13 := NB337_328.out; have hnc13 := NB328_337.out; have hcz14_0 : w11.cell? ⟨gb337, 0, none⟩ = some (.int .i64 0) := (blk_cell BK337.out 0).trans rfl; have hcz14_1 : w11.cell? ⟨gb337, 1, none⟩ = some (.slice none 0 0) := (blk_cell BK337.out 1).trans rfl; have hcz14_2 : w11.cell? ⟨gb337, 2, none⟩ = some (.bool false) := (blk_cell BK337.out 2).trans rfl; have hfz14_0 := blk_frozen BK337.out 0; have hfz14_1 := blk_frozen BK337.out 1; have hfz14_2 := blk_frozen BK337.out 2; obtain ⟨Ao15, co15, eo15⟩ := Kd.R_slice HO332.out; subst eo15) | ((with_reducible refine gate_callee (f := 7) rfl ?_); refine goesL_ (some 19) rfl rfl Tryd.func7 (by kernel_rfl) rfl #[.agg #[.int .i64 t329, .slice Ao15 t330.length co15, .bool t333], .int .i64 t334] rfl (by (try simp only [List.map_toArray, List.map_cons, List.map_nil]); first | done | rfl | (simp only [List.length_drop, List.length_take]; rfl)) ?_; (with_reducible refine (spec_LabelOf.calls k t329 _ _ t330 t333 t334 t338 t339 _ ?side1 ?side2 A4.out).mono ?_); (case side1 => refine (Kd.R_reads' (e := 2) (base := w.heap.size) (ok := fun k_ => True) (n := t330.length) (c := co15) ?_).2.2; exact (by (with_reducible repeat (first | apply Kd.R_alloc | apply Kd.R_drewN | apply Kd.R_drew)); exact (Kd.R_mono (Kd.R_far (p := ⟨gb337, 2, none⟩) (Kd.R_far (p := ⟨gb337, 1, none⟩) (Kd.R_far (p := ⟨gb337, 0, none⟩) (Kd.R_types HO332.out BK337.out (by decide)) (fun _ hk => hk.2) (.int .i64 t329)) (fun _ hk => hk.2) (.slice Ao15 t330.length co15)) (fun _ hk => hk.2) (.bool t333)) (fun _ h_ => h_.1)))); (case side2 => exact (Kd.R_reads' HO332.out).2.1); rintro e w16 ⟨rfl, hb⟩; refine ⟨_, rfl, ?_⟩; have n0_ := Aside0.mk (Kd.R_below (by (with_reducible repeat (first | apply Kd.R_alloc | apply Kd.R_drewN | apply Kd.R_drew)); exact (Kd.R_mono (Kd.R_far (p := ⟨gb337, 2, none⟩) (Kd.R_far (p := ⟨gb337, 1, none⟩) (Kd.R_far (p := ⟨gb337, 0, none⟩) (Kd.R_types HO332.out BK337.out (by decide)) (fun _ hk => hk.2) (.int .i64 t329)) (fun _ hk => hk.2) (.slice Ao15 t330.length co15)) (fun _ hk => hk.2) (.bool t333)) (fun _ h_ => h_.1))) hb); have n1_ := Aside0.mk (blk_below (g := gb324) (o := .cells #[.int .i64 0, .slice none 0 0, .bool false] 28 (0, 0)) (by (with_reducible repeat (first | refine blk_drewN ?_ _ | refine blk_drew ?_ | refine blk_alloc ?_ _)); refine blk_far ?_ NB324_337.out _; (with_reducible repeat (first | refine blk_drewN ?_ _ | refine blk_drew ?_ | refine blk_alloc ?_ _)); refine blk_far ?_ NB324_337.out _; (with_reducible repeat (first | refine blk_drewN ?_ _ | refine blk_drew ?_ | refine blk_alloc ?_ _)); refine blk_far ?_ NB324_337.out _; (with_reducible repeat (first | refine blk_drewN ?_ _ | refine blk_drew ?_ | refine blk_alloc ?_ _)); exact BK324.out) hb); have n2_ := Aside0.mk (IsS63.below (show IsS63 w (((w11.setCell ⟨gb337, 0, none⟩ (.int .i64 t329)).setCell ⟨gb337, 1, none⟩ (.slice Ao15 t330.length co15)).setCell ⟨gb337, 2, none⟩ (.bool t333)) g328 t325 t335 t336 from by repeat (first | (with_reducible first | exact HI328.out | apply IsS63.alloc | apply IsS63.drewN | apply IsS63.drew | apply IsS63.set_1 | apply IsS63.set_2 | refine IsS63.far ?_ NB328_324.out _ | refine IsS63.far ?_ NB328_337.out _) | exact HI328.out)) hb); have n3_ := Aside0.mk (blk_below (g := gb337) (o := .cells #[.int .i64 t329, .slice Ao15 t330.length co15, .bool t333] 28 (0, 0)) (by (with_reducible repeat (first | refine blk_drewN ?_ _ | refine blk_drew ?_ | refine blk_alloc ?_ _)); refine blk_put (cs := #[.int .i64 t329, .slice Ao15 t330.length co15, .bool false]) ?_ 2 _ rfl; (with_reducible repeat (first | refine blk_drewN ?_ _ | refine blk_drew ?_ | refine blk_alloc ?_ _)); refine blk_put (cs := #[.int .i64 t329, .slice none 0 0, .bool false]) ?_ 1 _ rfl; (with_reducible repeat (first | refine blk_drewN ?_ _ | refine blk_drew ?_ | refine blk_alloc ?_ _)); refine blk_put (cs := #[.int .i64 0, .slice none 0 0, .bool false]) ?_ 0 _ rfl; (with_reducible repeat (first | refine blk_drewN ?_ _ | refine blk_drew ?_ | refine blk_alloc ?_ _)); exact BK337.out) hb); have n4_ := Aside0.mk (below_step (by repeat (first | (with_reducible first | exact HB.out | apply below_alloc | apply pw_below_drewN | apply below_drew1 | refine below_set ?_ (IsS63.ge HI328.out) | refine below_set ?_ GE324.out | refine below_set ?_ GE337.out) | exact HB.out)) hb); clear HO332; clear BK324; clear HI328; clear BK337; clear HB; have HO332 := n0_; have BK324 := n1_; have HI328 := n2_; have BK337 := n3_; have HB := n4_; clear n0_ n1_ n2_ n3_ n4_; (try clear hb); (try clear hb2); (try clear hk); (try clear hi)) | ((with_reducible refine gate_callee (f := 28) rfl ?_); refine goesL_ (some 23) rfl rfl Tryd.func28 (by kernel_rfl) rfl #[.pointer (some ⟨g328, 0, none⟩), .int .i64 4] rfl (by (try simp only [List.map_toArray, List.map_cons, List.map_nil]); first | done | rfl | (simp only [List.length_drop, List.length_take]; rfl)) ?_; (with_reducible refine (spec_l01Next.calls g328 t325 t335 t336 4 t340 t341 t342 w _ ?side1 ?side2 A5.out).mono ?_); (case side1 => repeat (first | (with_reducible first | exact HI328.out | apply IsS63.alloc | apply IsS63.drewN | apply IsS63.drew | apply IsS63.set_1 | apply IsS63.set_2 | refine IsS63.far ?_ NB328_324.out _ | refine IsS63.far ?_ NB328_337.out _) | exact HI328.out)); (case side2 => repeat (first | (with_reducible first | exact HB.out | apply below_alloc | apply pw_below_drewN | apply below_drew1 | refine below_set ?_ (IsS63.ge HI328.out) | refine below_set ?_ GE324.out | refine below_set ?_ GE337.out) | exact HB.out)); rintro e w17 ⟨rfl, hi, hb, hk⟩; refine ⟨_, rfl, ?_⟩; have n0_ := Aside0.mk (KeepBut.blk hk (g' := gb324) (o := .cells #[.int .i64 0, .slice none 0 0, .bool false] 28 (0, 0)) (by (with_reducible repeat (first | refine blk_drewN ?_ _ | refine blk_drew ?_ | refine blk_alloc ?_ _)); exact BK324.out) NB324_328.out (by simp)); have n1_ := Aside0.mk (Kd.R_mono (Kd.R_keep (IsS63.apart (show IsS63 w _ g328 t325 t335 t336 from by repeat (first | (with_reducible first | exact HI328.out | apply IsS63.alloc | apply IsS63.drewN | apply IsS63.drew | apply IsS63.set_1 | apply IsS63.set_2 | refine IsS63.far ?_ NB328_324.out _ | refine IsS63.far ?_ NB328_337.out _) | exact HI328.out)) (by (with_reducible repeat (first | apply Kd.R_alloc | apply Kd.R_drewN | apply Kd.R_drew)); exact HO332.out) (by decide)) hk (fun _ h => h.2)) (fun _ h => h.1)); have n2_ := Aside0.mk (KeepBut.blk hk (g' := gb337) (o := .cells #[.int .i64 t329, .slice Ao15 t330.length co15, .bool t333] 28 (0, 0)) (by (with_reducible repeat (first | refine blk_drewN ?_ _ | refine blk_drew ?_ | refine blk_alloc ?_ _)); exact BK337.out) NB337_328.out (by simp)); have n3_ := Aside0.mk (hb); have n4_ := Aside0.mk (hi); clear BK324; clear HO332; clear BK337; clear HB; clear HI328; have BK324 := n0_; have HO332 := n1_; have BK337 := n2_; have HB := n3_; have HI328 := n4_; clear n0_ n1_ n2_ n3_ n4_; (try clear hb); (try clear hb2); (try clear hk); (try clear hi)))
    have n0_ := Aside0.mk (Kd.R_drew HO332.out)
    have n1_ := Aside0.mk (blk_drew BK324.out)
    have n2_ := Aside0.mk (blk_drew BK337.out)
    have n3_ := Aside0.mk (IsS63.drew HI328.out)
    have n4_ := Aside0.mk (below_drew1 HB.out)
    clear HO332
    clear BK324
    clear BK337
    clear HI328
    clear HB
    have HO332 := n0_
    have BK324 := n1_
    have BK337 := n2_
    have HI328 := n3_
    have HB := n4_
    clear n0_ n1_ n2_ n3_ n4_
    refine start_ (n := 6) (S := fun w' => w'.cell? ⟨gb337, 0, none⟩ = some (.int .i64 t329) ∧ w'.cell? ⟨gb337, 1, none⟩ = some (.slice Ao15 t330.length co15) ∧ w'.cell? ⟨gb337, 2, none⟩ = some (.bool t333)) (ds := []) #[false, false, false, false, false, false] (by kernel_rfl) rfl rfl ⟨(blk_cell BK337.out 0).trans rfl, (blk_cell BK337.out 1).trans rfl, (blk_cell BK337.out 2).trans rfl⟩ (fun hHeld => ?_)
    generalize w17.drew = w18 at HO332 BK324 BK337 HI328 HB hHeld ⊢
    refine pure_ (i := 1) (N := some 26) (v := ?_) (a' := ?_) #[false, true, false, false, false, false] rfl rfl (by kernel_rfl) (fun _ _ _ h => h) (Or.inl ⟨by rfl, ?_⟩) ?_ ?_
    rotate_left
    · intro w'
      go_simp
      with_reducible rfl
    rotate_left
    · simp only [Act.put, List.setIfInBounds_toArray, List.set_cons_zero, List.set_cons_succ, i64_w, i32_w]
      rfl
    refine pure_ (i := 2) (N := some 27) (v := ?_) (a' := ?_) #[false, true, true, false, false, false] rfl rfl (by kernel_rfl) (fun _ _ _ h => h) (Or.inl ⟨by rfl, ?_⟩) ?_ ?_
    rotate_left
    · intro w'
      go_simp
      with_reducible rfl
    rotate_left
    · simp only [Act.put, List.setIfInBounds_toArray, List.set_cons_zero, List.set_cons_succ, i64_w, i32_w]
      rfl
    refine take_ (i := 0) (N := some 25) (v := ?_) (a' := ?_) #[true, true, true, false, false, false] rfl rfl (by kernel_rfl) (fun _ _ _ h => h) (Or.inl ⟨by rfl, ?_⟩) hHeld ?_ ?_
    rotate_left
    · rintro w' ⟨s0, s1, s2⟩
      go_simp
      with_reducible rfl
    rotate_left
    · simp only [Act.put, List.setIfInBounds_toArray, List.set_cons_zero, List.set_cons_succ, i64_w, i32_w]
      rfl
    refine one_ (i := 3) (N := some 28) #[true, true, true, true, false, false] rfl rfl (by kernel_rfl) (by decide) (fun K hK => ?_)
    refine goes_ Tryd.func29 (by kernel_rfl) rfl #[.pointer (some ⟨g328, 0, none⟩), .string t338] (by rfl) rfl rfl (by (try simp only [List.map_toArray, List.map_cons, List.map_nil]); first | done | rfl | (simp only [List.length_drop, List.length_take]; rfl)) ?_
    with_reducible refine (spec_l01Damage.calls g328 t325 t341 t342 t338 t343 t344 t345 w _ ?side1 ?side2 A7.out).mono ?_
    (case side1 => repeat (first | (with_reducible first | exact HI328.out | apply IsS63.alloc | apply IsS63.drewN | apply IsS63.drew | apply IsS63.set_1 | apply IsS63.set_2 | refine IsS63.far ?_ NB328_324.out _ | refine IsS63.far ?_ NB328_337.out _) | exact HI328.out))
    (case side2 => repeat (first | (with_reducible first | exact HB.out | apply below_alloc | apply pw_below_drewN | apply below_drew1 | refine below_set ?_ (IsS63.ge HI328.out) | refine below_set ?_ GE324.out | refine below_set ?_ GE337.out) | exact HB.out))
    rintro e w19 ⟨rfl, hi, hb, hk⟩
    refine ⟨_, rfl, ?_⟩
    have n0_ := Aside0.mk (KeepBut.blk hk (g' := gb324) (o := .cells #[.int .i64 0, .slice none 0 0, .bool false] 28 (0, 0)) (by (with_reducible repeat (first | refine blk_drewN ?_ _ | refine blk_drew ?_ | refine blk_alloc ?_ _)); exact BK324.out) NB324_328.out (by simp))
    have n1_ := Aside0.mk (Kd.R_mono (Kd.R_keep (IsS63.apart (show IsS63 w _ g328 t325 t341 t342 from by repeat (first | (with_reducible first | exact HI328.out | apply IsS63.alloc | apply IsS63.drewN | apply IsS63.drew | apply IsS63.set_1 | apply IsS63.set_2 | refine IsS63.far ?_ NB328_324.out _ | refine IsS63.far ?_ NB328_337.out _) | exact HI328.out)) (by (with_reducible repeat (first | apply Kd.R_alloc | apply Kd.R_drewN | apply Kd.R_drew)); exact HO332.out) (by decide)) hk (fun _ h => h.2)) (fun _ h => h.1))
    have n2_ := Aside0.mk (KeepBut.blk hk (g' := gb337) (o := .cells #[.int .i64 t329, .slice Ao15 t330.length co15, .bool t333] 28 (0, 0)) (by (with_reducible repeat (first | refine blk_drewN ?_ _ | refine blk_drew ?_ | refine blk_alloc ?_ _)); exact BK337.out) NB337_328.out (by simp))
    have n3_ := Aside0.mk (hb)
    have n4_ := Aside0.mk (hi)
    clear BK324
    clear HO332
    clear BK337
    clear HB
    clear HI328
    have BK324 := n0_
    have HO332 := n1_
    have BK337 := n2_
    have HB := n3_
    have HI328 := n4_
    clear n0_ n1_ n2_ n3_ n4_
    (try clear hb)
    (try clear hb2)
    (try clear hk)
    (try clear hi)
    refine hK.out _ _ ⟨(blk_cell BK337.out 0).trans rfl, (blk_cell BK337.out 1).trans rfl, (blk_cell BK337.out 2).trans rfl⟩ (fun hHeld => ?_)
    clear hK K
    refine norm_ (a' := ?_) ?_ ?_
    rotate_left
    · show Act.put _ (some 28) _ = _
      simp only [Act.put, List.setIfInBounds_toArray, List.set_cons_zero, List.set_cons_succ, i64_w, i32_w]
      rfl
    refine one_ (i := 4) (N := none) #[true, true, true, true, true, false] rfl rfl (by kernel_rfl) (by decide) (fun K hK => ?_)
    have hs20 : w19.cell? ⟨gb324, 0, none⟩ = some (.int .i64 0) := (blk_cell BK324.out 0).trans rfl
    have hfs20 := blk_frozen BK324.out 0
    have hns20_1 := NB337_324.out
    have hms20_1 := NB324_337.out
    have hs21 : w19.cell? ⟨gb324, 1, none⟩ = some (.slice none 0 0) := (blk_cell BK324.out 1).trans rfl
    have hfs21 := blk_frozen BK324.out 1
    have hns21_1 := NB337_324.out
    have hms21_1 := NB324_337.out
    have hs22 : w19.cell? ⟨gb324, 2, none⟩ = some (.bool false) := (blk_cell BK324.out 2).trans rfl
    have hfs22 := blk_frozen BK324.out 2
    have hns22_1 := NB337_324.out
    have hms22_1 := NB324_337.out
    refine skip_ (w1 := ?_) (by rfl) rfl ?_ ?_
    rotate_left
    · go_simp
      rfl
    refine hK.out _ _ ⟨((cell_far (p := ⟨gb324, _, none⟩) NB337_324.out _).trans (((cell_far (p := ⟨gb324, _, none⟩) NB337_324.out _).trans (((cell_far (p := ⟨gb324, _, none⟩) NB337_324.out _).trans (hHeld.1)))))), ((cell_far (p := ⟨gb324, _, none⟩) NB337_324.out _).trans (((cell_far (p := ⟨gb324, _, none⟩) NB337_324.out _).trans (((cell_far (p := ⟨gb324, _, none⟩) NB337_324.out _).trans (hHeld.2.1)))))), ((cell_far (p := ⟨gb324, _, none⟩) NB337_324.out _).trans (((cell_far (p := ⟨gb324, _, none⟩) NB337_324.out _).trans (((cell_far (p := ⟨gb324, _, none⟩) NB337_324.out _).trans (hHeld.2.2))))))⟩ (fun hHeld => ?_)
    clear hK K
    refine pure_ (i := 5) (N := some 3) (v := ?_) (a' := ?_) #[true, true, true, true, true, true] rfl rfl (by kernel_rfl) (fun _ _ _ h => h) (Or.inl ⟨by rfl, ?_⟩) ?_ ?_
    rotate_left
    · intro w'
      go_simp
      with_reducible rfl
    rotate_left
    · simp only [Act.put, List.setIfInBounds_toArray, List.set_cons_zero, List.set_cons_succ, i64_w, i32_w]
      rfl
    refine done_ (by kernel_rfl) ?_
    try go_wp2
    refine bodyPost_ret (results_ct rfl _ _ gb324 28 #[.int .i64 t329, .slice Ao15 t330.length co15, .bool t333] (0, 0) _ rfl (by (with_reducible repeat (first | refine blk_drewN ?_ _ | refine blk_drew ?_ | refine blk_alloc ?_ _)); refine blk_put (cs := #[.int .i64 t329, .slice Ao15 t330.length co15, .bool false]) ?_ 2 _ rfl; (with_reducible repeat (first | refine blk_drewN ?_ _ | refine blk_drew ?_ | refine blk_alloc ?_ _)); refine blk_put (cs := #[.int .i64 t329, .slice none 0 0, .bool false]) ?_ 1 _ rfl; (with_reducible repeat (first | refine blk_drewN ?_ _ | refine blk_drew ?_ | refine blk_alloc ?_ _)); refine blk_put (cs := #[.int .i64 0, .slice none 0 0, .bool false]) ?_ 0 _ rfl; (with_reducible repeat (first | refine blk_drewN ?_ _ | refine blk_drew ?_ | refine blk_alloc ?_ _)); exact BK324.out) Tryd.underlying28 rfl (by kernel_rfl)) rfl ?_
    exact ⟨_, by first | rfl | (simp only [Go.IntWalk.i64_left]; first | done | rfl) | (simp [errW_none, errW_some] <;> rfl) | (simp [*, errW_none, errW_some] <;> rfl), by (with_reducible repeat (first | apply Kd.R_alloc | apply Kd.R_drewN | apply Kd.R_drew)); exact Kd.R_mono (Kd.R_far (p := ⟨gb324, 2, none⟩) (Kd.R_far (p := ⟨gb324, 1, none⟩) (Kd.R_far (p := ⟨gb324, 0, none⟩) (Kd.R_types HO332.out BK324.out (by decide)) (fun _ hk => hk.2) (.int .i64 t329)) (fun _ hk => hk.2) (.slice Ao15 t330.length co15)) (fun _ hk => hk.2) (.bool t333)) (fun _ hk => trivial), by repeat (first | (with_reducible first | exact HB.out | apply below_alloc | apply pw_below_drewN | apply below_drew1 | refine below_set ?_ (IsS63.ge HI328.out) | refine below_set ?_ GE324.out | refine below_set ?_ GE337.out) | exact HB.out)⟩
  · rw [if_neg c6] at H
    have c6b0 : (t340 == 0) = false := beq_eq_false_iff_ne.mpr c6
    have c6b1 : (t340 != 0) = true := bne_iff_ne.mpr c6
    simp only [Option.some.injEq, Prod.mk.injEq] at H
    obtain ⟨rfl, rfl, rfl, rfl⟩ := H
    go_enter Tryd.func15, Tryd.ntmps15
    go_wp2_with (first | ((with_reducible refine gate_dst (N := 2) rfl ?_); refine box_event ?hg (N := 2) ?hd (cs := #[.int .i64 0, .slice none 0 0, .bool false]) (t := 28) ?hr ?_; (case hd => rfl); (case hg => rfl); (case hr => first | (go_simp; done) | (go_simp; rfl)); intro gb324 hg w23 hbox hb; have n0_ := Aside0.mk (below_step (by repeat (first | (with_reducible first | exact HB.out | apply below_alloc | apply pw_below_drewN | apply below_drew1) | exact HB.out)) hb); have n1_ := Aside0.mk (hbox); have n2_ := Aside0.mk ((by rw [hg]; exact (below_size (by repeat (first | (with_reducible first | exact HB.out | apply below_alloc | apply pw_below_drewN | apply below_drew1) | exact HB.out))) : w.heap.size ≤ gb324)); have n3_ := Aside0.mk ((by rw [hg]; exact (below_size (by repeat (first | (with_reducible first | exact HB.out | apply below_alloc | apply pw_below_drewN | apply below_drew1) | exact HB.out))) : w.heap.size ≤ gb324)); clear HB; have HB := n0_; have BK324 := n1_; have GW324 := n2_; have GE324 := n3_; clear n0_ n1_ n2_ n3_; clear hb hbox hg) | ((with_reducible refine gate_callee (f := 27) rfl ?_); refine goesL_ (some 10) rfl rfl Tryd.func27 (by kernel_rfl) rfl #[.slice A0 l0.length c0] rfl (by (try simp only [List.map_toArray, List.map_cons, List.map_nil]); first | done | rfl | (simp only [List.length_drop, List.length_take]; rfl)) ?_; (with_reducible refine (spec_l01From.calls k _ _ l0 t325 t326 t327 w _ ?side1 ?side2 ?side3 A2.out).mono ?_); (case side1 => repeat (first | (with_reducible first | exact HB.out | apply below_alloc | apply pw_below_drewN | apply below_drew1 | refine below_set ?_ GE324.out) | exact HB.out)); (case side2 => exact HR0.out); (case side3 => exact HC0.out); rintro e w24 ⟨g328, rfl, hi, hb, hb2⟩; refine ⟨_, rfl, ?_⟩; have n0_ := Aside0.mk (blk_below (g := gb324) (o := .cells #[.int .i64 0, .slice none 0 0, .bool false] 28 (0, 0)) (by (with_reducible repeat (first | refine blk_drewN ?_ _ | refine blk_drew ?_ | refine blk_alloc ?_ _)); exact BK324.out) hb2); have n1_ := Aside0.mk (hb); have n2_ := Aside0.mk (hi); have n3_ := Aside0.mk (IsS63.ne_blk hi (blk_below (g := gb324) (o := .cells #[.int .i64 0, .slice none 0 0, .bool false] 28 (0, 0)) (by (with_reducible repeat (first | refine blk_drewN ?_ _ | refine blk_drew ?_ | refine blk_alloc ?_ _)); exact BK324.out) hb2) (by decide)); have n4_ := Aside0.mk (Ne.symm (IsS63.ne_blk hi (blk_below (g := gb324) (o := .cells #[.int .i64 0, .slice none 0 0, .bool false] 28 (0, 0)) (by (with_reducible repeat (first | refine blk_drewN ?_ _ | refine blk_drew ?_ | refine blk_alloc ?_ _)); exact BK324.out) hb2) (by decide))); clear BK324; clear HB; have BK324 := n0_; have HB := n1_; have HI328 := n2_; have NB328_324 := n3_; have NB324_328 := n4_; clear n0_ n1_ n2_ n3_ n4_; (try clear hb); (try clear hb2); (try clear hk); (try clear hi)) | ((with_reducible refine gate_callee (f := 26) rfl ?_); refine goesL_ (some 13) rfl rfl Tryd.func26 (by kernel_rfl) rfl #[.pointer (some ⟨g328, 0, none⟩)] rfl (by (try simp only [List.map_toArray, List.map_cons, List.map_nil]); first | done | rfl | (simp only [List.length_drop, List.length_take]; rfl)) ?_; (with_reducible refine (spec_l02DrawPage.calls k g328 t325 t326 t327 t329 t330 t333 t334 t335 t336 w _ ?side1 ?side2 A3.out).mono ?_); (case side1 => repeat (first | (with_reducible first | exact HI328.out | apply IsS63.alloc | apply IsS63.drewN | apply IsS63.drew | apply IsS63.set_1 | apply IsS63.set_2 | refine IsS63.far ?_ NB328_324.out _) | exact HI328.out)); (case side2 => repeat (first | (with_reducible first | exact HB.out | apply below_alloc | apply pw_below_drewN | apply below_drew1 | refine below_set ?_ (IsS63.ge HI328.out) | refine below_set ?_ GE324.out) | exact HB.out)); rintro e w25 ⟨v331, rfl, ho0, hi, hb, hk⟩; refine ⟨_, rfl, ?_⟩; have n0_ := Aside0.mk (KeepBut.blk hk (g' := gb324) (o := .cells #[.int .i64 0, .slice none 0 0, .bool false] 28 (0, 0)) (by (with_reducible repeat (first | refine blk_drewN ?_ _ | refine blk_drew ?_ | refine blk_alloc ?_ _)); exact BK324.out) NB324_328.out (by simp)); have n1_ := Aside0.mk (Kd.R_lower ho0 (below_size (by repeat (first | (with_reducible first | exact HB.out | apply below_alloc | apply pw_below_drewN | apply below_drew1 | refine below_set ?_ (IsS63.ge HI328.out) | refine below_set ?_ GE324.out) | exact HB.out)))); have n2_ := Aside0.mk (hb); have n3_ := Aside0.mk (hi); clear BK324; clear HB; clear HI328; have BK324 := n0_; have HO332 := n1_; have HB := n2_; have HI328 := n3_; clear n0_ n1_ n2_ n3_; (try clear hb); (try clear hb2); (try clear hk); (try clear hi); (try clear ho0)) | ((with_reducible refine gate_dst (N := 5) rfl ?_); refine box_event ?hg (N := 5) ?hd (cs := #[.int .i64 0, .slice none 0 0, .bool false]) (t := 28) ?hr ?_; (case hd => rfl); (case hg => rfl); (case hr => first | (go_simp; done) | (go_simp; rfl)); intro gb337 hg w26 hbox hb; have n0_ := Aside0.mk (Kd.R_below (by (with_reducible repeat (first | apply Kd.R_alloc | apply Kd.R_drewN | apply Kd.R_drew)); exact HO332.out) hb); have n1_ := Aside0.mk (blk_below (g := gb324) (o := .cells #[.int .i64 0, .slice none 0 0, .bool false] 28 (0, 0)) (by (with_reducible repeat (first | refine blk_drewN ?_ _ | refine blk_drew ?_ | refine blk_alloc ?_ _)); exact BK324.out) hb); have n2_ := Aside0.mk (IsS63.below (by repeat (first | (with_reducible first | exact HI328.out | apply IsS63.alloc | apply IsS63.drewN | apply IsS63.drew | apply IsS63.set_1 | apply IsS63.set_2 | refine IsS63.far ?_ NB328_324.out _) | exact HI328.out)) hb); have n3_ := Aside0.mk (below_step (by repeat (first | (with_reducible first | exact HB.out | apply below_alloc | apply pw_below_drewN | apply below_drew1 | refine below_set ?_ (IsS63.ge HI328.out) | refine below_set ?_ GE324.out) | exact HB.out)) hb); have n4_ := Aside0.mk (hbox); have n5_ := Aside0.mk ((by rw [hg]; exact (below_size (by repeat (first | (with_reducible first | exact HB.out | apply below_alloc | apply pw_below_drewN | apply below_drew1 | refine below_set ?_ (IsS63.ge HI328.out) | refine below_set ?_ GE324.out) | exact HB.out))) : w.heap.size ≤ gb337)); have n6_ := Aside0.mk ((by rw [hg]; exact (below_size (by repeat (first | (with_reducible first | exact HB.out | apply below_alloc | apply pw_below_drewN | apply below_drew1 | refine below_set ?_ (IsS63.ge HI328.out) | refine below_set ?_ GE324.out) | exact HB.out))) : w.heap.size ≤ gb337)); have n7_ := Aside0.mk ((by rw [hg]; exact Nat.ne_of_lt (blk_lt (g := gb324) (o := .cells #[.int .i64 0, .slice none 0 0, .bool false] 28 (0, 0)) (by (with_reducible repeat (first | refine blk_drewN ?_ _ | refine blk_drew ?_ | refine blk_alloc ?_ _)); exact BK324.out)) : gb324 ≠ gb337)); have n8_ := Aside0.mk ((by rw [hg]; exact Nat.ne_of_gt (blk_lt (g := gb324) (o := .cells #[.int .i64 0, .slice none 0 0, .bool false] 28 (0, 0)) (by (with_reducible repeat (first | refine blk_drewN ?_ _ | refine blk_drew ?_ | refine blk_alloc ?_ _)); exact BK324.out)) : gb337 ≠ gb324)); have n9_ := Aside0.mk ((by rw [hg]; exact Nat.ne_of_lt (IsS63.lt (show IsS63 w _ g328 t325 t335 t336 from by repeat (first | (with_reducible first | exact HI328.out | apply IsS63.alloc | apply IsS63.drewN | apply IsS63.drew | apply IsS63.set_1 | apply IsS63.set_2 | refine IsS63.far ?_ NB328_324.out _) | exact HI328.out))) : g328 ≠ gb337)); have n10_ := Aside0.mk ((by rw [hg]; exact Nat.ne_of_gt (IsS63.lt (show IsS63 w _ g328 t325 t335 t336 from by repeat (first | (with_reducible first | exact HI328.out | apply IsS63.alloc | apply IsS63.drewN | apply IsS63.drew | apply IsS63.set_1 | apply IsS63.set_2 | refine IsS63.far ?_ NB328_324.out _) | exact HI328.out))) : gb337 ≠ g328)); clear HO332; clear BK324; clear HI328; clear HB; have HO332 := n0_; have BK324 := n1_; have HI328 := n2_; have HB := n3_; have BK337 := n4_; have GW337 := n5_; have GE337 := n6_; have NB324_337 := n7_; have NB337_324 := n8_; have NB328_337 := n9_; have NB337_328 := n10_; clear n0_ n1_ n2_ n3_ n4_ n5_ n6_ n7_ n8_ n9_ n10_; clear hb hbox hg; have hnb27 := NB337_324.out; have hnc27 := NB324_337.out; have hnb28 := NB337_328.out; have hnc28 := NB328_337.out; have hcz29_0 : w26.cell? ⟨gb337, 0, none⟩ = some (.int .i64 0) := (blk_cell BK337.out 0).trans rfl; have hcz29_1 : w26.cell? ⟨gb337, 1, none⟩ = some (.slice none 0 0) := (blk_cell BK337.out 1).trans rfl; have hcz29_2 : w26.cell? ⟨gb337, 2, none⟩ = some (.bool false) := (blk_cell BK337.out 2).trans rfl; have hfz29_0 := blk_frozen BK337.out 0; have hfz29_1 := blk_frozen BK337.out 1; have hfz29_2 := blk_frozen BK337.out 2; obtain ⟨Ao30, co30, eo30⟩ := Kd.R_slice HO332.out; subst eo30) | ((with_reducible refine gate_callee (f := 7) rfl ?_); refine goesL_ (some 19) rfl rfl Tryd.func7 (by kernel_rfl) rfl #[.agg #[.int .i64 t329, .slice Ao30 t330.length co30, .bool t333], .int .i64 t334] rfl (by (try simp only [List.map_toArray, List.map_cons, List.map_nil]); first | done | rfl | (simp only [List.length_drop, List.length_take]; rfl)) ?_; (with_reducible refine (spec_LabelOf.calls k t329 _ _ t330 t333 t334 t338 t339 _ ?side1 ?side2 A4.out).mono ?_); (case side1 => refine (Kd.R_reads' (e := 2) (base := w.heap.size) (ok := fun k_ => True) (n := t330.length) (c := co30) ?_).2.2; exact (by (with_reducible repeat (first | apply Kd.R_alloc | apply Kd.R_drewN | apply Kd.R_drew)); exact (Kd.R_mono (Kd.R_far (p := ⟨gb337, 2, none⟩) (Kd.R_far (p := ⟨gb337, 1, none⟩) (Kd.R_far (p := ⟨gb337, 0, none⟩) (Kd.R_types HO332.out BK337.out (by decide)) (fun _ hk => hk.2) (.int .i64 t329)) (fun _ hk => hk.2) (.slice Ao30 t330.length co30)) (fun _ hk => hk.2) (.bool t333)) (fun _ h_ => h_.1)))); (case side2 => exact (Kd.R_reads' HO332.out).2.1); rintro e w31 ⟨rfl, hb⟩; refine ⟨_, rfl, ?_⟩; have n0_ := Aside0.mk (Kd.R_below (by (with_reducible repeat (first | apply Kd.R_alloc | apply Kd.R_drewN | apply Kd.R_drew)); exact (Kd.R_mono (Kd.R_far (p := ⟨gb337, 2, none⟩) (Kd.R_far (p := ⟨gb337, 1, none⟩) (Kd.R_far (p := ⟨gb337, 0, none⟩) (Kd.R_types HO332.out BK337.out (by decide)) (fun _ hk => hk.2) (.int .i64 t329)) (fun _ hk => hk.2) (.slice Ao30 t330.length co30)) (fun _ hk => hk.2) (.bool t333)) (fun _ h_ => h_.1))) hb); have n1_ := Aside0.mk (blk_below (g := gb324) (o := .cells #[.int .i64 0, .slice none 0 0, .bool false] 28 (0, 0)) (by (with_reducible repeat (first | refine blk_drewN ?_ _ | refine blk_drew ?_ | refine blk_alloc ?_ _)); refine blk_far ?_ NB324_337.out _; (with_reducible repeat (first | refine blk_drewN ?_ _ | refine blk_drew ?_ | refine blk_alloc ?_ _)); refine blk_far ?_ NB324_337.out _; (with_reducible repeat (first | refine blk_drewN ?_ _ | refine blk_drew ?_ | refine blk_alloc ?_ _)); refine blk_far ?_ NB324_337.out _; (with_reducible repeat (first | refine blk_drewN ?_ _ | refine blk_drew ?_ | refine blk_alloc ?_ _)); exact BK324.out) hb); have n2_ := Aside0.mk (IsS63.below (show IsS63 w (((w26.setCell ⟨gb337, 0, none⟩ (.int .i64 t329)).setCell ⟨gb337, 1, none⟩ (.slice Ao30 t330.length co30)).setCell ⟨gb337, 2, none⟩ (.bool t333)) g328 t325 t335 t336 from by repeat (first | (with_reducible first | exact HI328.out | apply IsS63.alloc | apply IsS63.drewN | apply IsS63.drew | apply IsS63.set_1 | apply IsS63.set_2 | refine IsS63.far ?_ NB328_324.out _ | refine IsS63.far ?_ NB328_337.out _) | exact HI328.out)) hb); have n3_ := Aside0.mk (blk_below (g := gb337) (o := .cells #[.int .i64 t329, .slice Ao30 t330.length co30, .bool t333] 28 (0, 0)) (by (with_reducible repeat (first | refine blk_drewN ?_ _ | refine blk_drew ?_ | refine blk_alloc ?_ _)); refine blk_put (cs := #[.int .i64 t329, .slice Ao30 t330.length co30, .bool false]) ?_ 2 _ rfl; (with_reducible repeat (first | refine blk_drewN ?_ _ | refine blk_drew ?_ | refine blk_alloc ?_ _)); refine blk_put (cs := #[.int .i64 t329, .slice none 0 0, .bool false]) ?_ 1 _ rfl; (with_reducible repeat (first | refine blk_drewN ?_ _ | refine blk_drew ?_ | refine blk_alloc ?_ _)); refine blk_put (cs := #[.int .i64 0, .slice none 0 0, .bool false]) ?_ 0 _ rfl; (with_reducible repeat (first | refine blk_drewN ?_ _ | refine blk_drew ?_ | refine blk_alloc ?_ _)); exact BK337.out) hb); have n4_ := Aside0.mk (below_step (by repeat (first | (with_reducible first | exact HB.out | apply below_alloc | apply pw_below_drewN | apply below_drew1 | refine below_set ?_ (IsS63.ge HI328.out) | refine below_set ?_ GE324.out | refine below_set ?_ GE337.out) | exact HB.out)) hb); clear HO332; clear BK324; clear HI328; clear BK337; clear HB; have HO332 := n0_; have BK324 := n1_; have HI328 := n2_; have BK337 := n3_; have HB := n4_; clear n0_ n1_ n2_ n3_ n4_; (try clear hb); (try clear hb2); (try clear hk); (try clear hi)) | ((with_reducible refine gate_callee (f := 28) rfl ?_); refine goesL_ (some 23) rfl rfl Tryd.func28 (by kernel_rfl) rfl #[.pointer (some ⟨g328, 0, none⟩), .int .i64 4] rfl (by (try simp only [List.map_toArray, List.map_cons, List.map_nil]); first | done | rfl | (simp only [List.length_drop, List.length_take]; rfl)) ?_; (with_reducible refine (spec_l01Next.calls g328 t325 t335 t336 4 t340 t341 t342 w _ ?side1 ?side2 A5.out).mono ?_); (case side1 => repeat (first | (with_reducible first | exact HI328.out | apply IsS63.alloc | apply IsS63.drewN | apply IsS63.drew | apply IsS63.set_1 | apply IsS63.set_2 | refine IsS63.far ?_ NB328_324.out _ | refine IsS63.far ?_ NB328_337.out _) | exact HI328.out)); (case side2 => repeat (first | (with_reducible first | exact HB.out | apply below_alloc | apply pw_below_drewN | apply below_drew1 | refine below_set ?_ (IsS63.ge HI328.out) | refine below_set ?_ GE324.out | refine below_set ?_ GE337.out) | exact HB.out)); rintro e w32 ⟨rfl, hi, hb, hk⟩; refine ⟨_, rfl, ?_⟩; have n0_ := Aside0.mk (KeepBut.blk hk (g' := gb324) (o := .cells #[.int .i64 0, .slice none 0 0, .bool false] 28 (0, 0)) (by (with_reducible repeat (first | refine blk_drewN ?_ _ | refine blk_drew ?_ | refine blk_alloc ?_ _)); exact BK324.out) NB324_328.out (by simp)); have n1_ := Aside0.mk (Kd.R_mono (Kd.R_keep (IsS63.apart (show IsS63 w _ g328 t325 t335 t336 from by repeat (first | (with_reducible first | exact HI328.out | apply IsS63.alloc | apply IsS63.drewN | apply IsS63.drew | apply IsS63.set_1 | apply IsS63.set_2 | refine IsS63.far ?_ NB328_324.out _ | refine IsS63.far ?_ NB328_337.out _) | exact HI328.out)) (by (with_reducible repeat (first | apply Kd.R_alloc | apply Kd.R_drewN | apply Kd.R_drew)); exact HO332.out) (by decide)) hk (fun _ h => h.2)) (fun _ h => h.1)); have n2_ := Aside0.mk (KeepBut.blk hk (g' := gb337) (o := .cells #[.int .i64 t329, .slice Ao30 t330.length co30, .bool t333] 28 (0, 0)) (by (with_reducible repeat (first | refine blk_drewN ?_ _ | refine blk_drew ?_ | refine blk_alloc ?_ _)); exact BK337.out) NB337_328.out (by simp)); have n3_ := Aside0.mk (hb); have n4_ := Aside0.mk (hi); clear BK324; clear HO332; clear BK337; clear HB; clear HI328; have BK324 := n0_; have HO332 := n1_; have BK337 := n2_; have HB := n3_; have HI328 := n4_; clear n0_ n1_ n2_ n3_ n4_; (try clear hb); (try clear hb2); (try clear hk); (try clear hi); have hcz33_0 : w32.cell? ⟨gb337, 0, none⟩ = some (.int .i64 t329) := (blk_cell BK337.out 0).trans rfl; have hcz33_1 : w32.cell? ⟨gb337, 1, none⟩ = some (.slice Ao30 t330.length co30) := (blk_cell BK337.out 1).trans rfl; have hcz33_2 : w32.cell? ⟨gb337, 2, none⟩ = some (.bool t333) := (blk_cell BK337.out 2).trans rfl; have hfz33_0 := blk_frozen BK337.out 0; have hfz33_1 := blk_frozen BK337.out 1; have hfz33_2 := blk_frozen BK337.out 2; have hnb34 := NB324_328.out; have hnc34 := NB328_324.out; have hcz35_0 : w32.cell? ⟨gb324, 0, none⟩ = some (.int .i64 0) := (blk_cell BK324.out 0).trans rfl; have hcz35_1 : w32.cell? ⟨gb324, 1, none⟩ = some (.slice none 0 0) := (blk_cell BK324.out 1).trans rfl; have hcz35_2 : w32.cell? ⟨gb324, 2, none⟩ = some (.bool false) := (blk_cell BK324.out 2).trans rfl; have hfz35_0 := blk_frozen BK324.out 0; have hfz35_1 := blk_frozen BK324.out 1; have hfz35_2 := blk_frozen BK324.out 2))
    refine bodyPost_ret (results_ct rfl _ _ gb324 28 #[.int .i64 t329, .slice Ao30 t330.length co30, .bool t333] (0, 0) _ rfl (by (with_reducible repeat (first | refine blk_drewN ?_ _ | refine blk_drew ?_ | refine blk_alloc ?_ _)); refine blk_put (cs := #[.int .i64 t329, .slice Ao30 t330.length co30, .bool false]) ?_ 2 _ rfl; (with_reducible repeat (first | refine blk_drewN ?_ _ | refine blk_drew ?_ | refine blk_alloc ?_ _)); refine blk_put (cs := #[.int .i64 t329, .slice none 0 0, .bool false]) ?_ 1 _ rfl; (with_reducible repeat (first | refine blk_drewN ?_ _ | refine blk_drew ?_ | refine blk_alloc ?_ _)); refine blk_put (cs := #[.int .i64 0, .slice none 0 0, .bool false]) ?_ 0 _ rfl; (with_reducible repeat (first | refine blk_drewN ?_ _ | refine blk_drew ?_ | refine blk_alloc ?_ _)); exact BK324.out) Tryd.underlying28 rfl (by kernel_rfl)) rfl ?_
    exact ⟨_, by first | rfl | (simp only [Go.IntWalk.i64_left]; first | done | rfl) | (simp [errW_none, errW_some] <;> rfl) | (simp [*, errW_none, errW_some] <;> rfl), by (with_reducible repeat (first | apply Kd.R_alloc | apply Kd.R_drewN | apply Kd.R_drew)); exact Kd.R_mono (Kd.R_far (p := ⟨gb324, 2, none⟩) (Kd.R_far (p := ⟨gb324, 1, none⟩) (Kd.R_far (p := ⟨gb324, 0, none⟩) (Kd.R_types HO332.out BK324.out (by decide)) (fun _ hk => hk.2) (.int .i64 t329)) (fun _ hk => hk.2) (.slice Ao30 t330.length co30)) (fun _ hk => hk.2) (.bool t333)) (fun _ hk => trivial), by repeat (first | (with_reducible first | exact HB.out | apply below_alloc | apply pw_below_drewN | apply below_drew1 | refine below_set ?_ (IsS63.ge HI328.out) | refine below_set ?_ GE324.out | refine below_set ?_ GE337.out) | exact HB.out)⟩

end Go.Proofs.YtgnopkapkodhhaaDoor.QFnLabels
