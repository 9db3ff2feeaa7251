-- Written by own_print.py of this session's repo over the kit's print (its output, turned at some places).
import Derived.Test.YtkpidjmhdagkfaaQFnExactSchemesForx0
import Derived.Test.YtkpidjmhdagkfaaQFnExactSchemesForx1
namespace Go.Proofs.Ytkpidjmhdagkfaa.QFnExactSchemesFor
open Go.RowKit Go.Proofs.YtkpidjmhdagkfaaW.PrintWords Go.Proofs.YtkpidjmhdagkfaaW.PrintLast Go.Proofs.YtkpidjmhdagkfaaW.PrintMore
attribute [local go_sem] max2_int min2_int max_two min_two max_three min_three max_four min_four   -- for this text's walks alone
set_option linter.unusedVariables false
set_option linter.unusedSimpArgs false

/-! ### spec_l04Schemes: function 77 -/
mutual
def spec_l04Schemes.j0 : Nat → ByteArray → Int → Int → Bool → Option (List ByteArray)
 | 0, _, _, _, _ => none
 | k + 1, x0, x1, x2, x13 => if x13 = true then (some (([x0] : List ByteArray))) else ((some (([] : List ByteArray) : List ByteArray)).bind fun y175 => (if x2 > 0 then (if x0.size + 1 ≤ 9223372036854775807 then ((spec_l04Schemes.f k (x0 ++ (⟨#[66]⟩ : ByteArray)) x1 (wrap64 (x2 - 1))).bind fun t178 => (if y175.length + t178.length < 8796093022208 then (spec_l04Schemes.j1 k x0 x1 x2 (y175 ++ t178)) else (none))) else (none)) else (spec_l04Schemes.j1 k x0 x1 x2 y175)))
def spec_l04Schemes.j1 : Nat → ByteArray → Int → Int → List ByteArray → Option (List ByteArray)
 | 0, _, _, _, _ => none
 | k + 1, x0, x1, x2, x7 => if x1 > 0 then (if x0.size + 1 ≤ 9223372036854775807 then ((spec_l04Schemes.f k (x0 ++ (⟨#[76]⟩ : ByteArray)) (wrap64 (x1 - 1)) x2).bind fun t184 => (if x7.length + t184.length < 8796093022208 then ((some (x7 ++ t184 : List ByteArray)).bind fun y187 => ((spec_l04Schemes.f k (x0 ++ (⟨#[82]⟩ : ByteArray)) (wrap64 (x1 - 1)) x2).bind fun t190 => (if y187.length + t190.length < 8796093022208 then ((some (y187 ++ t190 : List ByteArray)).bind fun y193 => (if x2 > 0 then ((spec_l04Schemes.f k (x0 ++ (⟨#[84]⟩ : ByteArray)) x1 (wrap64 (x2 - 1))).bind fun t196 => (if y193.length + t196.length < 8796093022208 then (some (y193 ++ t196)) else (none))) else (some y193))) else (none)))) else (none))) else (none)) else (if x2 > 0 then (if x0.size + 1 ≤ 9223372036854775807 then ((spec_l04Schemes.f k (x0 ++ (⟨#[84]⟩ : ByteArray)) x1 (wrap64 (x2 - 1))).bind fun t202 => (if x7.length + t202.length < 8796093022208 then (some (x7 ++ t202)) else (none))) else (none)) else (some x7))
def spec_l04Schemes.f : Nat → ByteArray → Int → Int → Option (List ByteArray)
 | 0, _, _, _ => none
 | k + 1, a0, a1, a2 => if a1 = 0 then (spec_l04Schemes.j0 k a0 a1 a2 (a2 == 0)) else (spec_l04Schemes.j0 k a0 a1 a2 false)
end
theorem spec_l04Schemes.mono_l : ∀ k, (∀ y0 y1 y2, LeO (spec_l04Schemes.f k y0 y1 y2) (spec_l04Schemes.f (k + 1) y0 y1 y2)) ∧ (∀ y0 y1 y2 y3, LeO (spec_l04Schemes.j0 k y0 y1 y2 y3) (spec_l04Schemes.j0 (k + 1) y0 y1 y2 y3)) ∧ (∀ y0 y1 y2 y3, LeO (spec_l04Schemes.j1 k y0 y1 y2 y3) (spec_l04Schemes.j1 (k + 1) y0 y1 y2 y3))
 | 0 => ⟨fun _ _ _ r h => by simp [spec_l04Schemes.f] at h, fun _ _ _ _ r h => by simp [spec_l04Schemes.j0] at h, fun _ _ _ _ r h => by simp [spec_l04Schemes.j1] at h⟩
 | k + 1 => by
  obtain ⟨ih0, ih1, ih2⟩ := spec_l04Schemes.mono_l k
  refine ⟨?_, ?_, ?_⟩
  ·intro y0 y1 y2
   unfold spec_l04Schemes.f
   repeat' first
   | (with_reducible exact ih0 _ _ _)
   | (with_reducible exact ih1 _ _ _ _)
   | (with_reducible exact ih2 _ _ _ _)
   | (with_reducible exact LeO.refl _)
   | (with_reducible exact LeO.none _)
   | (with_reducible refine LeO.ite ?_ ?_)
   | (with_reducible refine LeO.bind ?_ (fun _ => ?_))
   | exact ih0 _ _ _
   | exact ih1 _ _ _ _
   | exact ih2 _ _ _ _
   | exact LeO.none _
   | refine LeO.ite ?_ ?_
   | refine LeO.bind ?_ (fun _ => ?_)
  ·intro y0 y1 y2 y3
   unfold spec_l04Schemes.j0
   repeat' first
   | (with_reducible exact ih0 _ _ _)
   | (with_reducible exact ih1 _ _ _ _)
   | (with_reducible exact ih2 _ _ _ _)
   | (with_reducible exact LeO.refl _)
   | (with_reducible exact LeO.none _)
   | (with_reducible refine LeO.ite ?_ ?_)
   | (with_reducible refine LeO.bind ?_ (fun _ => ?_))
   | exact ih0 _ _ _
   | exact ih1 _ _ _ _
   | exact ih2 _ _ _ _
   | exact LeO.none _
   | refine LeO.ite ?_ ?_
   | refine LeO.bind ?_ (fun _ => ?_)
  ·intro y0 y1 y2 y3
   unfold spec_l04Schemes.j1
   repeat' first
   | (with_reducible exact ih0 _ _ _)
   | (with_reducible exact ih1 _ _ _ _)
   | (with_reducible exact ih2 _ _ _ _)
   | (with_reducible exact LeO.refl _)
   | (with_reducible exact LeO.none _)
   | (with_reducible refine LeO.ite ?_ ?_)
   | (with_reducible refine LeO.bind ?_ (fun _ => ?_))
   | exact ih0 _ _ _
   | exact ih1 _ _ _ _
   | exact ih2 _ _ _ _
   | exact LeO.none _
   | refine LeO.ite ?_ ?_
   | refine LeO.bind ?_ (fun _ => ?_)
theorem spec_l04Schemes.mono : ∀ a0 a1 a2 k, LeO (spec_l04Schemes.f k a0 a1 a2) (spec_l04Schemes.f (k + 1) a0 a1 a2) := by
 intro a0 a1 a2 k
 obtain ⟨ih0, ih1, ih2⟩ := spec_l04Schemes.mono_l k
 exact ih0 a0 a1 a2
set_option maxHeartbeats 8000000 in
set_option maxRecDepth 100000 in
theorem spec_l04Schemes.calls (k : Nat) : ∀ (a0 : ByteArray) (a1 : Int) (a2 : Int) (r : List ByteArray) (w : World) (h : spec_l04Schemes.f k a0 a1 a2 = some r),
  Calls Try.prog 77 #[.string a0, .int .i64 a1, .int .i64 a2] w fun e w' => ∃ v0_ : Value, e = .returned (v0_) ∧ Kd.R Kd.string 9 w' w.heap.size (fun _ => True) v0_ r ∧ Below w.heap.size w w' := by
 induction k using Nat.strongRecOn with
 | _ k ih =>
 intro a0 a1 a2 r w h
 cases k with
 | zero => exact absurd h (by simp [spec_l04Schemes.f])
 | succ k =>
 simp only [spec_l04Schemes.f] at h
 have HB := a_ (Below.refl w.heap.size w)
 have H : (if a1 = 0 then (spec_l04Schemes.j0 k a0 a1 a2 (a2 == 0)) else (spec_l04Schemes.j0 k a0 a1 a2 false)) = some r := h
 clear h
 have HC4 := Aside0.mk H
 clear H
 go_enter Try.func77, Try.ntmps77
 go_upto_region 1 with (fail)
 go_cut [13] (fun v13 wc => ∃ (kq : Nat) (x13_3 : Bool), v13 = .bool x13_3 ∧ Aside0 (spec_l04Schemes.j0 kq a0 a1 a2 x13_3 = some r) ∧ Aside0 (kq ≤ k) ∧ Aside0 (Below w.heap.size w wc))
 case first =>
  have H := HC4.out
  clear HC4
  by_cases c5 : a1 = 0
  ·rw [if_pos c5] at H
   have c5b0 : (a1 == 0) = true := beq_iff_eq.mpr c5
   have c5b1 : (a1 != 0) = false := bne_eq_false_iff_eq.mpr c5
   clear c5
   (first | rw [c5b0] | (simp only [i64_w, i32_w]; rw [c5b0]) | skip)
   have H' := Aside0.mk H
   clear H
   go_wp2
   go_meet
   case rel => exact ⟨_, ((a2 == 0)), z81_, H', ⟨z84_⟩, ⟨z31_⟩⟩
  ·rw [if_neg c5] at H
   have c5b0 : (a1 == 0) = false := beq_eq_false_iff_ne.mpr c5
   have c5b1 : (a1 != 0) = true := bne_iff_ne.mpr c5
   (first | rw [c5b0] | (simp only [i64_w, i32_w]; rw [c5b0]) | skip)
   have H' := Aside0.mk H
   clear H
   go_wp2
   go_meet
   case rel => exact ⟨_, (false), z81_, H', ⟨z84_⟩, ⟨z31_⟩⟩
 case rest =>
  clear HC4
  obtain ⟨kq, x13_3, rfl, HA, HJ3, HB⟩ := hcut
  cases kq with
  | zero => exact absurd HA.out (by simp [spec_l04Schemes.j0])
  | succ kj3 =>
   have H := HA.out
   clear HA
   simp only [spec_l04Schemes.j0] at H
   by_cases c6 : x13_3 = true
   ·subst c6
    have H1 : (some (([a0] : List ByteArray))) = some r := by rw [if_pos rfl] at H; exact H
    clear H
    have H := H1
    clear H1
    obtain ⟨y172, hy172⟩ : ∃ y_ : List ByteArray, y_ = (([a0] : List ByteArray)) := ⟨_, rfl⟩
    replace H : (some y172) = some r := rh_ hy172 H
    have Ny172 := Aside0.mk hy172
    clear hy172
    obtain rfl := Option.some.inj H
    go_wp2_with (first | ((with_reducible refine gate_dst (N := 15) rfl ?_); refine Kd.R_lit Kd.string _ 9 ?hg (N := 15) ?hd (xs := ([a0] : List ByteArray)) (inner := [.string a0]) (ok := fun _ => True) (okp := fun _ => True) ?hr ?hp (fun _ hk => hk) trivial (Below.refl _ _) (Nat.le_refl _) (by simp) ?_; (case hd => rfl); (case hg => rfl); (case hr => first | (go_simp; done) | (go_simp; rfl)); (case hp => exact (Reps.one (show Kd.M Kd.string _ _ _ a0 [.string a0] from rfl) (Reps.none _ _))); intro v173 w7 ho8 hb hg_ hnew_; clear hg_ hnew_; (first | rw [← Ny172.out] at ho8 | (simp only [Int.reduceToNat] at ho8; rw [← Ny172.out] at ho8)); have HO174 := a_ (Kd.R_lower ho8 (below_size z31_)); replace HB := a_ (below_step z31_ hb); clear hb ho8))
    go_ret
    exact ⟨_, z32_, by (with_reducible repeat (first | apply Kd.R_alloc | apply Kd.R_drewN | apply Kd.R_drew)); exact HO174.out, z31_⟩
   ·replace c6 := Bool.eq_false_iff.mpr c6
    subst c6
    have H1 : ((some (([] : List ByteArray) : List ByteArray)).bind fun y175 => (if a2 > 0 then (if a0.size + 1 ≤ 9223372036854775807 then ((spec_l04Schemes.f kj3 (a0 ++ (⟨#[66]⟩ : ByteArray)) a1 (wrap64 (a2 - 1))).bind fun t178 => (if y175.length + t178.length < 8796093022208 then (spec_l04Schemes.j1 kj3 a0 a1 a2 (y175 ++ t178)) else (none))) else (none)) else (spec_l04Schemes.j1 kj3 a0 a1 a2 y175))) = some r := by rw [if_neg (show ¬ (false = true) by decide)] at H; exact H
    clear H
    have H := H1
    clear H1
    obtain ⟨y175, hy175⟩ : ∃ y_ : List ByteArray, y_ = (([] : List ByteArray)) := ⟨_, rfl⟩
    replace H : (if a2 > 0 then (if a0.size + 1 ≤ 9223372036854775807 then ((spec_l04Schemes.f kj3 (a0 ++ (⟨#[66]⟩ : ByteArray)) a1 (wrap64 (a2 - 1))).bind fun t178 => (if y175.length + t178.length < 8796093022208 then (spec_l04Schemes.j1 kj3 a0 a1 a2 (y175 ++ t178)) else (none))) else (none)) else (spec_l04Schemes.j1 kj3 a0 a1 a2 y175)) = some r := rh_ hy175 H
    have Ny175 := Aside0.mk hy175
    clear hy175
    have HC9 := Aside0.mk H
    clear H
    go_upto_if 18 with (first | ((with_reducible refine gate_dst (N := 16) rfl ?_); refine Kd.R_lit Kd.string _ 9 ?hg (N := 16) ?hd (xs := ([] : List ByteArray)) (inner := []) (ok := fun _ => True) (okp := fun _ => True) ?hr ?hp (fun _ hk => hk) trivial (Below.refl _ _) (Nat.le_refl _) (by simp) ?_; (case hd => rfl); (case hg => rfl); (case hr => first | (go_simp; done) | (go_simp; rfl)); (case hp => exact (Reps.none _ _)); intro v176 w10 ho11 hb hg_ hnew_; clear hg_ hnew_; (first | rw [← Ny175.out] at ho11 | (simp only [Int.reduceToNat] at ho11; rw [← Ny175.out] at ho11)); have HO177 := a_ (Kd.R_lower ho11 (below_size z31_)); replace HB := a_ (below_step z31_ hb); clear hb ho11))
    (try simp only [Act.put, List.setIfInBounds_toArray, List.set_cons_zero, List.set_cons_succ])
    go_cut [7] (fun v7 wc => ∃ (kq : Nat) (x7_8 : List ByteArray), Aside0 (spec_l04Schemes.j1 kq a0 a1 a2 x7_8 = some r) ∧ Aside0 (kq ≤ kj3) ∧ Aside0 (Kd.R Kd.string 9 wc w.heap.size (fun _ => True) v7 x7_8) ∧ Aside0 (Below w.heap.size w wc))
    case first =>
     have H := HC9.out
     clear HC9
     by_cases c12 : a2 > 0
     ·rw [if_pos c12] at H
      have c12b0 : decide (0 < a2) = true := decide_eq_true c12
      clear c12
      (first | rw [c12b0] | (simp only [i64_w, i32_w]; rw [c12b0]) | skip)
      by_cases c13 : a0.size + 1 ≤ 9223372036854775807
      ·rw [if_pos c13] at H
       have c13b0 := eq_true c13
       have c13b1 : decide (a0.size + 1 ≤ 9223372036854775807) = true := decide_eq_true c13
       try have c13b2 : (9223372036854775807 < a0.size + 1) = False := eq_false (Nat.not_lt.2 c13)
       (try (have c13s := c13; simp only [ByteArray.size_append, ByteArray.size_extract] at c13s; have c13s0 := eq_true c13s; have c13s1 := decide_eq_true c13s; have c13s2 := eq_false (Nat.not_lt.2 c13s)))
       replace H := Option.bind_eq_some_iff.mp H
       obtain ⟨t178, A140, H⟩ := H
       replace H : (if y175.length + t178.length < 8796093022208 then (spec_l04Schemes.j1 kj3 a0 a1 a2 (y175 ++ t178)) else (none)) = some r := H
       have A14 := Aside0.mk A140
       clear A140
       by_cases c15 : y175.length + t178.length < 8796093022208
       ·rw [if_pos c15] at H
        have LMc15 := Aside0.mk c15
        clear c15
        obtain ⟨y181, hy181⟩ : ∃ y_ : List ByteArray, y_ = (y175 ++ t178) := ⟨_, rfl⟩
        replace H : (spec_l04Schemes.j1 kj3 a0 a1 a2 y181) = some r := rh_ hy181 H
        have Ny181 := Aside0.mk hy181
        clear hy181
        have H' := Aside0.mk H
        clear H
        go_wp2_with (first | ((with_reducible refine gate_callee (f := 77) rfl ?_); refine goesL_ (some 25) rfl rfl Try.func77 (by kernel_rfl) rfl #[.string (a0 ++ (⟨#[66]⟩ : ByteArray)), .int .i64 a1, .int .i64 (wrap64 (a2 - 1))] rfl z34_ ?_; (with_reducible refine (ih kj3 (by have := HJ3.out; omega) (a0 ++ (⟨#[66]⟩ : ByteArray)) a1 (wrap64 (a2 - 1)) t178 _ A14.out).mono ?_); rintro e w16 ⟨v179, rfl, ho0, hb⟩; refine ⟨_, rfl, ?_⟩; have HO180 := a_ (Kd.R_lower (Kd.R_new' ho0 (Kd.R_lt (ra_ HO177.out))) (below_size z31_)); replace HO177 := a_ (Kd.R_elder' (ra_ HO177.out) (Kd.R_base ho0) hb); replace HB := a_ (below_step z31_ hb); (try clear hb); (try clear hb2); (try clear hk); (try clear hi); (try clear ho0); obtain ⟨Ao18, co18, eo18⟩ := Kd.R_slice HO180.out; subst eo18) | ((with_reducible refine gate_builtin (b := .append) (xs := #[.tmp 19, .tmp 25]) rfl ?_); at_builtin; refine Kd.R_append_rows Kd.string (w0 := w) w.heap.size rfl (.tmp 19) (.tmp 25) 42 9 (.string ⟨#[]⟩) 16 rfl Try.underlying42 info9 rfl (by decide) (by omega) v176 y175 t178 _ _ _ (fun k_ => nb_ k_ Ao18 t178.length co18) (fun _ => False) rfl rfl ?aO ?aR (fun _ _ h => h) (fun _ h => h.elim) ?aF ?aB ?aS ?aL ?_; (case aR => repeat (first | exact (Kd.R_reads' HO180.out).2.2 | (with_reducible refine Kd.C_alloc ?_ _) | (with_reducible refine Kd.C_drewN ?_ _) | (with_reducible refine Kd.C_drew ?_))); (case aB => exact z31_); (case aF => exact (fun k_ hk => Kd.fresh' (Kd.R_lt (ra_ HO180.out)) k_ hk)); (case aO => exact (rc_ (h := by exact Kd.R_mono HO177.out (fun _ hk => hk.2)))); (case aS => exact (below_size z31_)); (case aL => have := LMc15.out; omega); intro v182 w17 ho hb hg hat; rw [← Ny181.out] at ho; replace HO180 := a_ (Kd.R_after (ok := (fun _ => True)) (ra_ HO180.out) hg hat); replace HB := a_ (hb); have HO183 := a_ (ho); clear HO177; clear ho hb hg hat))
        go_meet
        case rel => exact ⟨_, (y181), H', ⟨by have := HJ3.out; first | omega | exact Nat.le_refl _⟩, ⟨by (with_reducible repeat (first | apply Kd.R_alloc | apply Kd.R_drewN | apply Kd.R_drew)); exact Kd.R_mono HO183.out (fun _ hk => trivial)⟩, ⟨z31_⟩⟩
       ·rw [if_neg c15] at H
        exact absurd H (by simp)
      ·rw [if_neg c13] at H
       exact absurd H (by simp)
     ·rw [if_neg c12] at H
      have c12b0 : decide (0 < a2) = false := decide_eq_false c12
      clear c12
      (first | rw [c12b0] | (simp only [i64_w, i32_w]; rw [c12b0]) | skip)
      have H' := Aside0.mk H
      clear H
      go_wp2
      go_meet
      case rel => exact ⟨_, (y175), H', ⟨by have := HJ3.out; first | omega | exact Nat.le_refl _⟩, ⟨by (with_reducible repeat (first | apply Kd.R_alloc | apply Kd.R_drewN | apply Kd.R_drew)); exact HO177.out⟩, ⟨z31_⟩⟩
    case rest =>
     clear HC9; try clear c6
     obtain ⟨kq, x7_8, HA, HJ8, HO_7, HB⟩ := hcut
     cases kq with
     | zero => exact absurd HA.out (by simp [spec_l04Schemes.j1])
     | succ kj8 =>
      have H := HA.out
      clear HA
      simp only [spec_l04Schemes.j1] at H
      by_cases c19 : a1 > 0
      ·rw [if_pos c19] at H
       have c19b0 : decide (0 < a1) = true := decide_eq_true c19
       clear c19
       by_cases c20 : a0.size + 1 ≤ 9223372036854775807
       ·rw [if_pos c20] at H
        have c20b0 := eq_true c20
        have c20b1 : decide (a0.size + 1 ≤ 9223372036854775807) = true := decide_eq_true c20
        try have c20b2 : (9223372036854775807 < a0.size + 1) = False := eq_false (Nat.not_lt.2 c20)
        (try (have c20s := c20; simp only [ByteArray.size_append, ByteArray.size_extract] at c20s; have c20s0 := eq_true c20s; have c20s1 := decide_eq_true c20s; have c20s2 := eq_false (Nat.not_lt.2 c20s)))
        replace H := Option.bind_eq_some_iff.mp H
        obtain ⟨t184, A210, H⟩ := H
        replace H : (if x7_8.length + t184.length < 8796093022208 then ((some (x7_8 ++ t184 : List ByteArray)).bind fun y187 => ((spec_l04Schemes.f kj8 (a0 ++ (⟨#[82]⟩ : ByteArray)) (wrap64 (a1 - 1)) a2).bind fun t190 => (if y187.length + t190.length < 8796093022208 then ((some (y187 ++ t190 : List ByteArray)).bind fun y193 => (if a2 > 0 then ((spec_l04Schemes.f kj8 (a0 ++ (⟨#[84]⟩ : ByteArray)) a1 (wrap64 (a2 - 1))).bind fun t196 => (if y193.length + t196.length < 8796093022208 then (some (y193 ++ t196)) else (none))) else (some y193))) else (none)))) else (none)) = some r := H
        have A21 := Aside0.mk A210
        clear A210
        by_cases c22 : x7_8.length + t184.length < 8796093022208
        ·rw [if_pos c22] at H
         have LMc22 := Aside0.mk c22
         clear c22
         obtain ⟨y187, hy187⟩ : ∃ y_ : List ByteArray, y_ = (x7_8 ++ t184) := ⟨_, rfl⟩
         replace H : ((spec_l04Schemes.f kj8 (a0 ++ (⟨#[82]⟩ : ByteArray)) (wrap64 (a1 - 1)) a2).bind fun t190 => (if y187.length + t190.length < 8796093022208 then ((some (y187 ++ t190 : List ByteArray)).bind fun y193 => (if a2 > 0 then ((spec_l04Schemes.f kj8 (a0 ++ (⟨#[84]⟩ : ByteArray)) a1 (wrap64 (a2 - 1))).bind fun t196 => (if y193.length + t196.length < 8796093022208 then (some (y193 ++ t196)) else (none))) else (some y193))) else (none))) = some r := rh_ hy187 H
         have Ny187 := Aside0.mk hy187
         clear hy187
         replace H := Option.bind_eq_some_iff.mp H
         obtain ⟨t190, A230, H⟩ := H
         replace H : (if y187.length + t190.length < 8796093022208 then ((some (y187 ++ t190 : List ByteArray)).bind fun y193 => (if a2 > 0 then ((spec_l04Schemes.f kj8 (a0 ++ (⟨#[84]⟩ : ByteArray)) a1 (wrap64 (a2 - 1))).bind fun t196 => (if y193.length + t196.length < 8796093022208 then (some (y193 ++ t196)) else (none))) else (some y193))) else (none)) = some r := H
         have A23 := Aside0.mk A230
         clear A230
         by_cases c24 : y187.length + t190.length < 8796093022208
         ·rw [if_pos c24] at H
          have LMc24 := Aside0.mk c24
          clear c24
          obtain ⟨y193, hy193⟩ : ∃ y_ : List ByteArray, y_ = (y187 ++ t190) := ⟨_, rfl⟩
          replace H : (if a2 > 0 then ((spec_l04Schemes.f kj8 (a0 ++ (⟨#[84]⟩ : ByteArray)) a1 (wrap64 (a2 - 1))).bind fun t196 => (if y193.length + t196.length < 8796093022208 then (some (y193 ++ t196)) else (none))) else (some y193)) = some r := rh_ hy193 H
          have Ny193 := Aside0.mk hy193
          clear hy193
          by_cases c25 : a2 > 0
          ·rw [if_pos c25] at H
           have c25b0 : decide (0 < a2) = true := decide_eq_true c25
           clear c25
           replace H := Option.bind_eq_some_iff.mp H
           obtain ⟨t196, A260, H⟩ := H
           replace H : (if y193.length + t196.length < 8796093022208 then (some (y193 ++ t196)) else (none)) = some r := H
           have A26 := Aside0.mk A260
           clear A260
           by_cases c27 : y193.length + t196.length < 8796093022208
           ·rw [if_pos c27] at H
            have LMc27 := Aside0.mk c27
            clear c27
            obtain ⟨y199, hy199⟩ : ∃ y_ : List ByteArray, y_ = (y193 ++ t196) := ⟨_, rfl⟩
            replace H : (some y199) = some r := rh_ hy199 H
            have Ny199 := Aside0.mk hy199
            clear hy199
            obtain rfl := Option.some.inj H
            go_wp2_with (first | ((with_reducible refine gate_callee (f := 77) rfl ?_); refine goesL_ (some 35) rfl rfl Try.func77 (by kernel_rfl) rfl #[.string (a0 ++ (⟨#[76]⟩ : ByteArray)), .int .i64 (wrap64 (a1 - 1)), .int .i64 a2] rfl z34_ ?_; (with_reducible refine (ih kj8 (by have := HJ3.out; have := HJ8.out; omega) (a0 ++ (⟨#[76]⟩ : ByteArray)) (wrap64 (a1 - 1)) a2 t184 _ A21.out).mono ?_); rintro e w28 ⟨v185, rfl, ho0, hb⟩; refine ⟨_, rfl, ?_⟩; have HO186 := a_ (Kd.R_lower (Kd.R_new' ho0 (Kd.R_lt (ra_ HO_7.out))) (below_size z31_)); replace HO_7 := a_ (Kd.R_elder' (ra_ HO_7.out) (Kd.R_base ho0) hb); replace HB := a_ (below_step z31_ hb); (try clear hb); (try clear hb2); (try clear hk); (try clear hi); (try clear ho0); obtain ⟨Ao30, co30, eo30⟩ := Kd.R_slice HO186.out; subst eo30) | ((with_reducible refine gate_builtin (b := .append) (xs := #[.tmp 29, .tmp 35]) rfl ?_); at_builtin; refine Kd.R_append_rows Kd.string (w0 := w) w.heap.size rfl (.tmp 29) (.tmp 35) 42 9 (.string ⟨#[]⟩) 16 rfl Try.underlying42 info9 rfl (by decide) (by omega) u7 x7_8 t184 _ _ _ (fun k_ => nb_ k_ Ao30 t184.length co30) (fun _ => False) rfl rfl ?aO ?aR (fun _ _ h => h) (fun _ h => h.elim) ?aF ?aB ?aS ?aL ?_; (case aR => repeat (first | exact (Kd.R_reads' HO186.out).2.2 | (with_reducible refine Kd.C_alloc ?_ _) | (with_reducible refine Kd.C_drewN ?_ _) | (with_reducible refine Kd.C_drew ?_))); (case aB => exact z31_); (case aF => exact (fun k_ hk => Kd.fresh' (Kd.R_lt (ra_ HO186.out)) k_ hk)); (case aO => exact (rc_ (h := by exact Kd.R_mono HO_7.out (fun _ hk => hk.2)))); (case aS => exact (below_size z31_)); (case aL => have := LMc22.out; omega); intro v188 w29 ho hb hg hat; rw [← Ny187.out] at ho; replace HO186 := a_ (Kd.R_after (ok := (fun _ => True)) (ra_ HO186.out) hg hat); replace HB := a_ (hb); have HO189 := a_ (ho); clear HO_7; clear ho hb hg hat) | ((with_reducible refine gate_callee (f := 77) rfl ?_); refine goesL_ (some 43) rfl rfl Try.func77 (by kernel_rfl) rfl #[.string (a0 ++ (⟨#[82]⟩ : ByteArray)), .int .i64 (wrap64 (a1 - 1)), .int .i64 a2] rfl z34_ ?_; (with_reducible refine (ih kj8 (by have := HJ3.out; have := HJ8.out; omega) (a0 ++ (⟨#[82]⟩ : ByteArray)) (wrap64 (a1 - 1)) a2 t190 _ A23.out).mono ?_); rintro e w31 ⟨v191, rfl, ho0, hb⟩; refine ⟨_, rfl, ?_⟩; have HO192 := a_ (Kd.R_lower (Kd.R_new' (Kd.R_new' ho0 (Kd.R_lt (ra_ HO186.out))) (Kd.R_lt (ra_ HO189.out))) (below_size z31_)); replace HO186 := a_ (Kd.R_elder' (ra_ HO186.out) (Kd.R_base ho0) hb); replace HO189 := a_ (Kd.R_elder' (ra_ HO189.out) (Kd.R_base ho0) hb); replace HB := a_ (below_step z31_ hb); (try clear hb); (try clear hb2); (try clear hk); (try clear hi); (try clear ho0); obtain ⟨Ao33, co33, eo33⟩ := Kd.R_slice HO192.out; subst eo33) | ((with_reducible refine gate_builtin (b := .append) (xs := #[.tmp 37, .tmp 43]) rfl ?_); at_builtin; refine Kd.R_append_rows Kd.string (w0 := w) w.heap.size rfl (.tmp 37) (.tmp 43) 42 9 (.string ⟨#[]⟩) 16 rfl Try.underlying42 info9 rfl (by decide) (by omega) v188 y187 t190 _ _ _ (fun k_ => nb_ k_ Ao30 t184.length co30 ∧ nb_ k_ Ao33 t190.length co33) (fun _ => False) rfl rfl ?aO ?aR (fun _ _ h => h) (fun _ h => h.elim) ?aF ?aB ?aS ?aL ?_; (case aR => repeat (first | exact (Kd.R_reads' HO192.out).2.2 | (with_reducible refine Kd.C_alloc ?_ _) | (with_reducible refine Kd.C_drewN ?_ _) | (with_reducible refine Kd.C_drew ?_))); (case aB => exact z31_); (case aF => exact (fun k_ hk => ⟨Kd.fresh' (Kd.R_lt (ra_ HO186.out)) k_ hk, Kd.fresh' (Kd.R_lt (ra_ HO192.out)) k_ hk⟩)); (case aO => exact (ra_ HO189.out)); (case aS => exact (below_size z31_)); (case aL => have := LMc24.out; omega); intro v194 w32 ho hb hg hat; rw [← Ny193.out] at ho; replace HO186 := a_ (Kd.R_after (ok := (fun k_ => nb_ k_ Ao33 t190.length co33)) (rc_ (h := by exact Kd.R_mono HO186.out (fun _ hk => ⟨hk.2, hk.1.2⟩))) hg hat); replace HO192 := a_ (Kd.R_after (ok := (fun k_ => nb_ k_ Ao30 t184.length co30)) (rc_ (h := by exact Kd.R_mono HO192.out (fun _ hk => ⟨hk.1.2, hk.2⟩))) hg hat); replace HB := a_ (hb); have HO195 := a_ (ho); clear HO189; clear ho hb hg hat) | ((with_reducible refine gate_callee (f := 77) rfl ?_); refine goesL_ (some 53) rfl rfl Try.func77 (by kernel_rfl) rfl #[.string (a0 ++ (⟨#[84]⟩ : ByteArray)), .int .i64 a1, .int .i64 (wrap64 (a2 - 1))] rfl z34_ ?_; (with_reducible refine (ih kj8 (by have := HJ3.out; have := HJ8.out; omega) (a0 ++ (⟨#[84]⟩ : ByteArray)) a1 (wrap64 (a2 - 1)) t196 _ A26.out).mono ?_); rintro e w34 ⟨v197, rfl, ho0, hb⟩; refine ⟨_, rfl, ?_⟩; have HO198 := a_ (Kd.R_lower (Kd.R_new' (Kd.R_new' (Kd.R_new' ho0 (Kd.R_lt (ra_ HO186.out))) (Kd.R_lt (ra_ HO192.out))) (Kd.R_lt (ra_ HO195.out))) (below_size z31_)); replace HO186 := a_ (Kd.R_elder' (ra_ HO186.out) (Kd.R_base ho0) hb); replace HO192 := a_ (Kd.R_elder' (ra_ HO192.out) (Kd.R_base ho0) hb); replace HO195 := a_ (Kd.R_elder' (ra_ HO195.out) (Kd.R_base ho0) hb); replace HB := a_ (below_step z31_ hb); (try clear hb); (try clear hb2); (try clear hk); (try clear hi); (try clear ho0); obtain ⟨Ao36, co36, eo36⟩ := Kd.R_slice HO198.out; subst eo36) | ((with_reducible refine gate_builtin (b := .append) (xs := #[.tmp 47, .tmp 53]) rfl ?_); at_builtin; refine Kd.R_append_rows Kd.string (w0 := w) w.heap.size rfl (.tmp 47) (.tmp 53) 42 9 (.string ⟨#[]⟩) 16 rfl Try.underlying42 info9 rfl (by decide) (by omega) v194 y193 t196 _ _ _ (fun k_ => nb_ k_ Ao30 t184.length co30 ∧ nb_ k_ Ao33 t190.length co33 ∧ nb_ k_ Ao36 t196.length co36) (fun _ => False) rfl rfl ?aO ?aR (fun _ _ h => h) (fun _ h => h.elim) ?aF ?aB ?aS ?aL ?_; (case aR => repeat (first | exact (Kd.R_reads' HO198.out).2.2 | (with_reducible refine Kd.C_alloc ?_ _) | (with_reducible refine Kd.C_drewN ?_ _) | (with_reducible refine Kd.C_drew ?_))); (case aB => exact z31_); (case aF => exact (fun k_ hk => ⟨Kd.fresh' (Kd.R_lt (ra_ HO186.out)) k_ hk, Kd.fresh' (Kd.R_lt (ra_ HO192.out)) k_ hk, Kd.fresh' (Kd.R_lt (ra_ HO198.out)) k_ hk⟩)); (case aO => exact (rc_ (h := by exact Kd.R_mono HO195.out (fun _ hk => ⟨hk.1.1, ⟨hk.1.2, hk.2⟩⟩)))); (case aS => exact (below_size z31_)); (case aL => have := LMc27.out; omega); intro v200 w35 ho hb hg hat; rw [← Ny199.out] at ho; replace HO186 := a_ (Kd.R_after (ok := (fun k_ => nb_ k_ Ao33 t190.length co33 ∧ nb_ k_ Ao36 t196.length co36)) (rc_ (h := by exact Kd.R_mono HO186.out (fun _ hk => ⟨⟨hk.1.1, hk.2⟩, hk.1.2⟩))) hg hat); replace HO192 := a_ (Kd.R_after (ok := (fun k_ => nb_ k_ Ao30 t184.length co30 ∧ nb_ k_ Ao36 t196.length co36)) (rc_ (h := by exact Kd.R_mono HO192.out (fun _ hk => ⟨⟨hk.1.1, hk.2⟩, hk.1.2⟩))) hg hat); replace HO198 := a_ (Kd.R_after (ok := (fun k_ => nb_ k_ Ao30 t184.length co30 ∧ nb_ k_ Ao33 t190.length co33)) (rc_ (h := by exact Kd.R_mono HO198.out (fun _ hk => ⟨⟨hk.1.1.2, hk.1.2⟩, hk.2⟩))) hg hat); replace HB := a_ (hb); have HO201 := a_ (ho); clear HO195; clear ho hb hg hat))
            go_ret
            exact ⟨_, z32_, by (with_reducible repeat (first | apply Kd.R_alloc | apply Kd.R_drewN | apply Kd.R_drew)); exact Kd.R_mono HO201.out (fun _ hk => trivial), z31_⟩
           ·rw [if_neg c27] at H
            exact absurd H (by simp)
          ·rw [if_neg c25] at H
           have c25b0 : decide (0 < a2) = false := decide_eq_false c25
           clear c25
           obtain rfl := Option.some.inj H
           go_wp2_with (first | ((with_reducible refine gate_callee (f := 77) rfl ?_); refine goesL_ (some 35) rfl rfl Try.func77 (by kernel_rfl) rfl #[.string (a0 ++ (⟨#[76]⟩ : ByteArray)), .int .i64 (wrap64 (a1 - 1)), .int .i64 a2] rfl z34_ ?_; (with_reducible refine (ih kj8 (by have := HJ3.out; have := HJ8.out; omega) (a0 ++ (⟨#[76]⟩ : ByteArray)) (wrap64 (a1 - 1)) a2 t184 _ A21.out).mono ?_); rintro e w37 ⟨v185, rfl, ho0, hb⟩; refine ⟨_, rfl, ?_⟩; have HO186 := a_ (Kd.R_lower (Kd.R_new' ho0 (Kd.R_lt (ra_ HO_7.out))) (below_size z31_)); replace HO_7 := a_ (Kd.R_elder' (ra_ HO_7.out) (Kd.R_base ho0) hb); replace HB := a_ (below_step z31_ hb); (try clear hb); (try clear hb2); (try clear hk); (try clear hi); (try clear ho0); obtain ⟨Ao39, co39, eo39⟩ := Kd.R_slice HO186.out; subst eo39) | ((with_reducible refine gate_builtin (b := .append) (xs := #[.tmp 29, .tmp 35]) rfl ?_); at_builtin; refine Kd.R_append_rows Kd.string (w0 := w) w.heap.size rfl (.tmp 29) (.tmp 35) 42 9 (.string ⟨#[]⟩) 16 rfl Try.underlying42 info9 rfl (by decide) (by omega) u7 x7_8 t184 _ _ _ (fun k_ => nb_ k_ Ao39 t184.length co39) (fun _ => False) rfl rfl ?aO ?aR (fun _ _ h => h) (fun _ h => h.elim) ?aF ?aB ?aS ?aL ?_; (case aR => repeat (first | exact (Kd.R_reads' HO186.out).2.2 | (with_reducible refine Kd.C_alloc ?_ _) | (with_reducible refine Kd.C_drewN ?_ _) | (with_reducible refine Kd.C_drew ?_))); (case aB => exact z31_); (case aF => exact (fun k_ hk => Kd.fresh' (Kd.R_lt (ra_ HO186.out)) k_ hk)); (case aO => exact (rc_ (h := by exact Kd.R_mono HO_7.out (fun _ hk => hk.2)))); (case aS => exact (below_size z31_)); (case aL => have := LMc22.out; omega); intro v188 w38 ho hb hg hat; rw [← Ny187.out] at ho; replace HO186 := a_ (Kd.R_after (ok := (fun _ => True)) (ra_ HO186.out) hg hat); replace HB := a_ (hb); have HO189 := a_ (ho); clear HO_7; clear ho hb hg hat) | ((with_reducible refine gate_callee (f := 77) rfl ?_); refine goesL_ (some 43) rfl rfl Try.func77 (by kernel_rfl) rfl #[.string (a0 ++ (⟨#[82]⟩ : ByteArray)), .int .i64 (wrap64 (a1 - 1)), .int .i64 a2] rfl z34_ ?_; (with_reducible refine (ih kj8 (by have := HJ3.out; have := HJ8.out; omega) (a0 ++ (⟨#[82]⟩ : ByteArray)) (wrap64 (a1 - 1)) a2 t190 _ A23.out).mono ?_); rintro e w40 ⟨v191, rfl, ho0, hb⟩; refine ⟨_, rfl, ?_⟩; have HO192 := a_ (Kd.R_lower (Kd.R_new' (Kd.R_new' ho0 (Kd.R_lt (ra_ HO186.out))) (Kd.R_lt (ra_ HO189.out))) (below_size z31_)); replace HO186 := a_ (Kd.R_elder' (ra_ HO186.out) (Kd.R_base ho0) hb); replace HO189 := a_ (Kd.R_elder' (ra_ HO189.out) (Kd.R_base ho0) hb); replace HB := a_ (below_step z31_ hb); (try clear hb); (try clear hb2); (try clear hk); (try clear hi); (try clear ho0); obtain ⟨Ao42, co42, eo42⟩ := Kd.R_slice HO192.out; subst eo42) | ((with_reducible refine gate_builtin (b := .append) (xs := #[.tmp 37, .tmp 43]) rfl ?_); at_builtin; refine Kd.R_append_rows Kd.string (w0 := w) w.heap.size rfl (.tmp 37) (.tmp 43) 42 9 (.string ⟨#[]⟩) 16 rfl Try.underlying42 info9 rfl (by decide) (by omega) v188 y187 t190 _ _ _ (fun k_ => nb_ k_ Ao39 t184.length co39 ∧ nb_ k_ Ao42 t190.length co42) (fun _ => False) rfl rfl ?aO ?aR (fun _ _ h => h) (fun _ h => h.elim) ?aF ?aB ?aS ?aL ?_; (case aR => repeat (first | exact (Kd.R_reads' HO192.out).2.2 | (with_reducible refine Kd.C_alloc ?_ _) | (with_reducible refine Kd.C_drewN ?_ _) | (with_reducible refine Kd.C_drew ?_))); (case aB => exact z31_); (case aF => exact (fun k_ hk => ⟨Kd.fresh' (Kd.R_lt (ra_ HO186.out)) k_ hk, Kd.fresh' (Kd.R_lt (ra_ HO192.out)) k_ hk⟩)); (case aO => exact (ra_ HO189.out)); (case aS => exact (below_size z31_)); (case aL => have := LMc24.out; omega); intro v194 w41 ho hb hg hat; rw [← Ny193.out] at ho; replace HO186 := a_ (Kd.R_after (ok := (fun k_ => nb_ k_ Ao42 t190.length co42)) (rc_ (h := by exact Kd.R_mono HO186.out (fun _ hk => ⟨hk.2, hk.1.2⟩))) hg hat); replace HO192 := a_ (Kd.R_after (ok := (fun k_ => nb_ k_ Ao39 t184.length co39)) (rc_ (h := by exact Kd.R_mono HO192.out (fun _ hk => ⟨hk.1.2, hk.2⟩))) hg hat); replace HB := a_ (hb); have HO195 := a_ (ho); clear HO189; clear ho hb hg hat))
           go_ret
           exact ⟨_, z32_, by (with_reducible repeat (first | apply Kd.R_alloc | apply Kd.R_drewN | apply Kd.R_drew)); exact Kd.R_mono HO195.out (fun _ hk => trivial), z31_⟩
         ·rw [if_neg c24] at H
          exact absurd H (by simp)
        ·rw [if_neg c22] at H
         exact absurd H (by simp)
       ·rw [if_neg c20] at H
        exact absurd H (by simp)
      ·rw [if_neg c19] at H
       have c19b0 : decide (0 < a1) = false := decide_eq_false c19
       clear c19
       by_cases c43 : a2 > 0
       ·rw [if_pos c43] at H
        have c43b0 : decide (0 < a2) = true := decide_eq_true c43
        clear c43
        by_cases c44 : a0.size + 1 ≤ 9223372036854775807
        ·rw [if_pos c44] at H
         have c44b0 := eq_true c44
         have c44b1 : decide (a0.size + 1 ≤ 9223372036854775807) = true := decide_eq_true c44
         try have c44b2 : (9223372036854775807 < a0.size + 1) = False := eq_false (Nat.not_lt.2 c44)
         (try (have c44s := c44; simp only [ByteArray.size_append, ByteArray.size_extract] at c44s; have c44s0 := eq_true c44s; have c44s1 := decide_eq_true c44s; have c44s2 := eq_false (Nat.not_lt.2 c44s)))
         replace H := Option.bind_eq_some_iff.mp H
         obtain ⟨t202, A450, H⟩ := H
         replace H : (if x7_8.length + t202.length < 8796093022208 then (some (x7_8 ++ t202)) else (none)) = some r := H
         have A45 := Aside0.mk A450
         clear A450
         by_cases c46 : x7_8.length + t202.length < 8796093022208
         ·rw [if_pos c46] at H
          have LMc46 := Aside0.mk c46
          clear c46
          obtain ⟨y205, hy205⟩ : ∃ y_ : List ByteArray, y_ = (x7_8 ++ t202) := ⟨_, rfl⟩
          replace H : (some y205) = some r := rh_ hy205 H
          have Ny205 := Aside0.mk hy205
          clear hy205
          obtain rfl := Option.some.inj H
          go_wp2_with (first | ((with_reducible refine gate_callee (f := 77) rfl ?_); refine goesL_ (some 53) rfl rfl Try.func77 (by kernel_rfl) rfl #[.string (a0 ++ (⟨#[84]⟩ : ByteArray)), .int .i64 a1, .int .i64 (wrap64 (a2 - 1))] rfl z34_ ?_; (with_reducible refine (ih kj8 (by have := HJ3.out; have := HJ8.out; omega) (a0 ++ (⟨#[84]⟩ : ByteArray)) a1 (wrap64 (a2 - 1)) t202 _ A45.out).mono ?_); rintro e w47 ⟨v203, rfl, ho0, hb⟩; refine ⟨_, rfl, ?_⟩; have HO204 := a_ (Kd.R_lower (Kd.R_new' ho0 (Kd.R_lt (ra_ HO_7.out))) (below_size z31_)); replace HO_7 := a_ (Kd.R_elder' (ra_ HO_7.out) (Kd.R_base ho0) hb); replace HB := a_ (below_step z31_ hb); (try clear hb); (try clear hb2); (try clear hk); (try clear hi); (try clear ho0); obtain ⟨Ao49, co49, eo49⟩ := Kd.R_slice HO204.out; subst eo49) | ((with_reducible refine gate_builtin (b := .append) (xs := #[.tmp 47, .tmp 53]) rfl ?_); at_builtin; refine Kd.R_append_rows Kd.string (w0 := w) w.heap.size rfl (.tmp 47) (.tmp 53) 42 9 (.string ⟨#[]⟩) 16 rfl Try.underlying42 info9 rfl (by decide) (by omega) u7 x7_8 t202 _ _ _ (fun k_ => nb_ k_ Ao49 t202.length co49) (fun _ => False) rfl rfl ?aO ?aR (fun _ _ h => h) (fun _ h => h.elim) ?aF ?aB ?aS ?aL ?_; (case aR => repeat (first | exact (Kd.R_reads' HO204.out).2.2 | (with_reducible refine Kd.C_alloc ?_ _) | (with_reducible refine Kd.C_drewN ?_ _) | (with_reducible refine Kd.C_drew ?_))); (case aB => exact z31_); (case aF => exact (fun k_ hk => Kd.fresh' (Kd.R_lt (ra_ HO204.out)) k_ hk)); (case aO => exact (rc_ (h := by exact Kd.R_mono HO_7.out (fun _ hk => hk.2)))); (case aS => exact (below_size z31_)); (case aL => have := LMc46.out; omega); intro v206 w48 ho hb hg hat; rw [← Ny205.out] at ho; replace HO204 := a_ (Kd.R_after (ok := (fun _ => True)) (ra_ HO204.out) hg hat); replace HB := a_ (hb); have HO207 := a_ (ho); clear HO_7; clear ho hb hg hat))
          go_ret
          exact ⟨_, z32_, by (with_reducible repeat (first | apply Kd.R_alloc | apply Kd.R_drewN | apply Kd.R_drew)); exact Kd.R_mono HO207.out (fun _ hk => trivial), z31_⟩
         ·rw [if_neg c46] at H
          exact absurd H (by simp)
        ·rw [if_neg c44] at H
         exact absurd H (by simp)
       ·rw [if_neg c43] at H
        have c43b0 : decide (0 < a2) = false := decide_eq_false c43
        clear c43
        obtain rfl := Option.some.inj H
        go_wp2
        go_ret
        exact ⟨_, z32_, z66_, z31_⟩

/-! ### spec_l04All: function 59 -/
def spec_l04All.f (k : Nat) (a0 : Int) (a1 : Int) : Option (List ByteArray) := (spec_l04Power.f a0).bind fun bt208 => ((spec_l04Power.f a1).bind fun bt210 => ((spec_l04Schemes.f k (⟨#[]⟩ : ByteArray) bt208.1 bt210.1).bind fun t212 => (some t212)))
theorem spec_l04All.mono : ∀ a0 a1 k, LeO (spec_l04All.f k a0 a1) (spec_l04All.f (k + 1) a0 a1) := by
 intro a0 a1 k
 unfold spec_l04All.f
 repeat' first
   | (with_reducible exact spec_l04Schemes.mono _ _ _ _)
   | (with_reducible exact LeO.refl _)
   | (with_reducible exact LeO.none _)
   | (with_reducible refine LeO.ite ?_ ?_)
   | (with_reducible refine LeO.bind ?_ (fun _ => ?_))
   | exact spec_l04Schemes.mono _ _ _ _
   | exact LeO.none _
   | refine LeO.ite ?_ ?_
   | refine LeO.bind ?_ (fun _ => ?_)
set_option maxHeartbeats 8000000 in
set_option maxRecDepth 100000 in
theorem spec_l04All.calls (k : Nat) (a0 : Int) (a1 : Int) (r : List ByteArray) (w : World) (h : spec_l04All.f k a0 a1 = some r) :
  Calls Try.prog 59 #[.int .i64 a0, .int .i64 a1] w fun e w' => ∃ v0_ : Value, e = .returned (v0_) ∧ Kd.R Kd.string 9 w' w.heap.size (fun _ => True) v0_ r ∧ Below w.heap.size w w' := by
 have HB := a_ (Below.refl w.heap.size w)
 have H : ((spec_l04Power.f a0).bind fun bt208 => ((spec_l04Power.f a1).bind fun bt210 => ((spec_l04Schemes.f k (⟨#[]⟩ : ByteArray) bt208.1 bt210.1).bind fun t212 => (some t212)))) = some r := h
 clear h
 replace H := Option.bind_eq_some_iff.mp H
 obtain ⟨⟨t208, t209⟩, A30, H⟩ := H
 replace H : ((spec_l04Power.f a1).bind fun bt210 => ((spec_l04Schemes.f k (⟨#[]⟩ : ByteArray) t208 bt210.1).bind fun t212 => (some t212))) = some r := H
 have A3 := Aside0.mk A30
 clear A30
 replace H := Option.bind_eq_some_iff.mp H
 obtain ⟨⟨t210, t211⟩, A40, H⟩ := H
 replace H : ((spec_l04Schemes.f k (⟨#[]⟩ : ByteArray) t208 t210).bind fun t212 => (some t212)) = some r := H
 have A4 := Aside0.mk A40
 clear A40
 replace H := Option.bind_eq_some_iff.mp H
 obtain ⟨t212, A50, H⟩ := H
 replace H : (some t212) = some r := H
 have A5 := Aside0.mk A50
 clear A50
 obtain rfl := Option.some.inj H
 go_enter Try.func59, Try.ntmps59
 go_wp2_with (first | ((with_reducible refine gate_callee (f := 66) rfl ?_); refine goesL_ (some 11) rfl rfl Try.func66 (by kernel_rfl) rfl #[.int .i64 a0] rfl z34_ ?_; (with_reducible refine (spec_l04Power.calls a0 t208 t209 _ A3.out).mono ?_); rintro e w' ⟨rfl, ⟨nd, rfl⟩⟩; refine ⟨_, rfl, ?_⟩) | ((with_reducible refine gate_callee (f := 66) rfl ?_); refine goesL_ (some 16) rfl rfl Try.func66 (by kernel_rfl) rfl #[.int .i64 a1] rfl z34_ ?_; (with_reducible refine (spec_l04Power.calls a1 t210 t211 _ A4.out).mono ?_); rintro e w' ⟨rfl, ⟨nd, rfl⟩⟩; refine ⟨_, rfl, ?_⟩) | ((with_reducible refine gate_callee (f := 77) rfl ?_); refine goesL_ (some 21) rfl rfl Try.func77 (by kernel_rfl) rfl #[.string (⟨#[]⟩ : ByteArray), .int .i64 t208, .int .i64 t210] rfl z34_ ?_; (with_reducible refine (spec_l04Schemes.calls k (⟨#[]⟩ : ByteArray) t208 t210 t212 _ A5.out).mono ?_); rintro e w6 ⟨v213, rfl, ho0, hb⟩; refine ⟨_, rfl, ?_⟩; have HO214 := a_ (Kd.R_lower ho0 (below_size z31_)); replace HB := a_ (below_step z31_ hb); (try clear hb); (try clear hb2); (try clear hk); (try clear hi); (try clear ho0)))
 go_ret
 exact ⟨_, z32_, by (with_reducible repeat (first | apply Kd.R_alloc | apply Kd.R_drewN | apply Kd.R_drew)); exact HO214.out, z31_⟩

/-! ### spec_l04Start: function 106 -/
mutual
def spec_l04Start.l0 : Nat → Int → Int → List (List (List (S102))) → Int → Option ((List (List (List (S102)))))
 | 0, _, _, _, _ => none
 | k + 1, x0, x1, x5, x6 => if x6 < x1 then (spec_l04Start.l1 k x0 x1 x5 x6 (([] : List (List (S102)))) 0) else (some x5)
def spec_l04Start.l1 : Nat → Int → Int → List (List (List (S102))) → Int → List (List (S102)) → Int → Option ((List (List (List (S102)))))
 | 0, _, _, _, _, _, _ => none
 | k + 1, x0, x1, x5, x6, x7, x8 => if x8 < x0 then (if x7.length < 5864062014805 then (spec_l04Start.l1 k x0 x1 x5 x6 (x7 ++ [(([(⟨x8, x6, false, false⟩ : S102)] : List (S102)))]) (wrap64 (x8 + 1))) else (none)) else (if x5.length < 5864062014805 then (spec_l04Start.l0 k x0 x1 (x5 ++ [x7]) (wrap64 (x6 + 1))) else (none))
end
def spec_l04Start.f (k : Nat) (a0 : Int) (a1 : Int) : Option ((List (List (List (S102))))) := spec_l04Start.l0 k a0 a1 (([] : List (List (List (S102))))) 0
theorem spec_l04Start.mono_l : ∀ k, (∀ y0 y1 y2 y3, LeO (spec_l04Start.l0 k y0 y1 y2 y3) (spec_l04Start.l0 (k + 1) y0 y1 y2 y3)) ∧ (∀ y0 y1 y2 y3 y4 y5, LeO (spec_l04Start.l1 k y0 y1 y2 y3 y4 y5) (spec_l04Start.l1 (k + 1) y0 y1 y2 y3 y4 y5))
 | 0 => ⟨fun _ _ _ _ r h => by simp [spec_l04Start.l0] at h, fun _ _ _ _ _ _ r h => by simp [spec_l04Start.l1] at h⟩
 | k + 1 => by
  obtain ⟨ih0, ih1⟩ := spec_l04Start.mono_l k
  refine ⟨?_, ?_⟩
  ·intro y0 y1 y2 y3
   unfold spec_l04Start.l0
   repeat' first
   | (with_reducible exact ih0 _ _ _ _)
   | (with_reducible exact ih1 _ _ _ _ _ _)
   | (with_reducible exact LeO.refl _)
   | (with_reducible exact LeO.none _)
   | (with_reducible refine LeO.ite ?_ ?_)
   | (with_reducible refine LeO.bind ?_ (fun _ => ?_))
   | exact ih0 _ _ _ _
   | exact ih1 _ _ _ _ _ _
   | exact LeO.none _
   | refine LeO.ite ?_ ?_
   | refine LeO.bind ?_ (fun _ => ?_)
  ·intro y0 y1 y2 y3 y4 y5
   unfold spec_l04Start.l1
   repeat' first
   | (with_reducible exact ih0 _ _ _ _)
   | (with_reducible exact ih1 _ _ _ _ _ _)
   | (with_reducible exact LeO.refl _)
   | (with_reducible exact LeO.none _)
   | (with_reducible refine LeO.ite ?_ ?_)
   | (with_reducible refine LeO.bind ?_ (fun _ => ?_))
   | exact ih0 _ _ _ _
   | exact ih1 _ _ _ _ _ _
   | exact LeO.none _
   | refine LeO.ite ?_ ?_
   | refine LeO.bind ?_ (fun _ => ?_)
theorem spec_l04Start.mono : ∀ a0 a1 k, LeO (spec_l04Start.f k a0 a1) (spec_l04Start.f (k + 1) a0 a1) := by
 intro a0 a1 k
 obtain ⟨ih0, ih1⟩ := spec_l04Start.mono_l k
 unfold spec_l04Start.f
 repeat' first
   | (with_reducible exact ih0 _ _ _ _)
   | (with_reducible exact ih1 _ _ _ _ _ _)
   | (with_reducible exact LeO.refl _)
   | (with_reducible exact LeO.none _)
   | (with_reducible refine LeO.ite ?_ ?_)
   | (with_reducible refine LeO.bind ?_ (fun _ => ?_))
   | exact ih0 _ _ _ _
   | exact ih1 _ _ _ _ _ _
   | exact LeO.none _
   | refine LeO.ite ?_ ?_
   | refine LeO.bind ?_ (fun _ => ?_)
set_option maxHeartbeats 8000000 in
set_option maxRecDepth 100000 in
theorem spec_l04Start.calls (k : Nat) (a0 : Int) (a1 : Int) (r : List (List (List (S102)))) (w : World) (h : spec_l04Start.f k a0 a1 = some r) :
  Calls Try.prog 106 #[.int .i64 a0, .int .i64 a1] w fun e w' => ∃ v0_ : Value, e = .returned (v0_) ∧ Kd.R (Kd.slice 99 (Kd.slice 102 k102)) 121 w' w.heap.size (fun _ => True) v0_ r ∧ Below w.heap.size w w' := by
 have hu102 := Try.underlying102
 have HB := a_ (Below.refl w.heap.size w)
 have H : (spec_l04Start.l0 k a0 a1 (([] : List (List (List (S102))))) 0) = some r := h
 clear h
 obtain ⟨y215, hy215⟩ : ∃ y_ : List (List (List (S102))), y_ = (([] : List (List (List (S102))))) := ⟨_, rfl⟩
 replace H : (spec_l04Start.l0 k a0 a1 y215 0) = some r := rh_ hy215 H
 have Ny215 := Aside0.mk hy215
 clear hy215
 have H' := Aside0.mk H
 clear H
 go_enter Try.func106, Try.ntmps106
 go_wp2_with (first | ((with_reducible refine gate_dst (N := 9) rfl ?_); refine Kd.R_lit (Kd.slice 99 (Kd.slice 102 k102)) _ 121 ?hg (N := 9) ?hd (xs := ([] : List (List (List (S102))))) (inner := []) (ok := fun _ => True) (okp := fun _ => True) ?hr ?hp (fun _ hk => hk) trivial (Below.refl _ _) (Nat.le_refl _) (by simp) ?_; (case hd => rfl); (case hg => rfl); (case hr => first | (go_simp; done) | (go_simp; rfl)); (case hp => exact (Reps.none _ _)); intro v216 w3 ho4 hb hg_ hnew_; clear hg_ hnew_; (first | rw [← Ny215.out] at ho4 | (simp only [Int.reduceToNat] at ho4; rw [← Ny215.out] at ho4)); have HO217 := a_ (Kd.R_lower ho4 (below_size z31_)); replace HB := a_ (below_step z31_ hb); clear hb ho4))
 go_loopg [5, 6] k (fun kq v5 v6 w' => ∃ (x5_1 : List (List (List (S102)))) (x6_1 : Int), v6 = .int .i64 x6_1 ∧ Aside0 (spec_l04Start.l0 kq a0 a1 x5_1 x6_1 = some r) ∧ Aside0 (kq ≤ k) ∧ Aside0 (Kd.R (Kd.slice 99 (Kd.slice 102 k102)) 121 w' w.heap.size (fun _ => True) v5 x5_1) ∧ Aside0 (Below w.heap.size w w'))
 case atStart => exact ⟨(y215), (0), z81_, H', ⟨Nat.le_refl _⟩, ⟨by (with_reducible repeat (first | apply Kd.R_alloc | apply Kd.R_drewN | apply Kd.R_drew)); exact HO217.out⟩, ⟨z31_⟩⟩
 case round =>
  clear H'
  obtain ⟨x5_1, x6_1, rfl, HA, HK1, HO_5, HB⟩ := hrel
  cases gk with
  | zero => exact absurd HA.out (by simp [spec_l04Start.l0])
  | succ k1 =>
   have H := HA.out
   clear HA
   simp only [spec_l04Start.l0] at H
   by_cases c5 : x6_1 < a1
   ·rw [if_pos c5] at H
    have c5b0 : decide (x6_1 < a1) = true := decide_eq_true c5
    clear c5
    obtain ⟨y218, hy218⟩ : ∃ y_ : List (List (S102)), y_ = (([] : List (List (S102)))) := ⟨_, rfl⟩
    replace H : (spec_l04Start.l1 k1 a0 a1 x5_1 x6_1 y218 0) = some r := rh_ hy218 H
    have Ny218 := Aside0.mk hy218
    clear hy218
    have H' := Aside0.mk H
    clear H
    go_wp2_with (first | ((with_reducible refine gate_dst (N := 15) rfl ?_); refine Kd.S_lit (Kd.slice 102 k102) _ 99 ?hg (N := 15) ?hd (xs := ([] : List (List (S102)))) (inner := []) (ok := fun _ => True) (okp := fun _ => True) ?hr ?hp (fun _ hk => hk) trivial (Below.refl _ _) (Nat.le_refl _) (by simp) ?_; (case hd => rfl); (case hg => rfl); (case hr => first | (go_simp; done) | (go_simp; rfl)); (case hp => exact (Reps.none _ _)); intro v219 w6 ho7 hb hg_ hnew_; clear hg_ hnew_; (first | rw [← Ny218.out] at ho7 | (simp only [Int.reduceToNat] at ho7; rw [← Ny218.out] at ho7)); replace HO_5 := a_ (Kd.R_elder' (ra_ HO_5.out) (Kd.S_base ho7) hb); have HO220 := a_ (Kd.S_lower ho7 (below_size z31_)); replace HB := a_ (below_step z31_ hb); clear hb ho7))
    go_loopg [7, 8] k1 (fun kq v7 v8 w' => ∃ (x7_2 : List (List (S102))) (x8_2 : Int), v8 = .int .i64 x8_2 ∧ Aside0 (spec_l04Start.l1 kq a0 a1 x5_1 x6_1 x7_2 x8_2 = some r) ∧ Aside0 (kq ≤ k1) ∧ Aside0 (Kd.R (Kd.slice 99 (Kd.slice 102 k102)) 121 w' w.heap.size (fun k_ => some k_ ≠ (v7 : Value).ownBlock) u5 x5_1) ∧ Aside0 (Kd.S (Kd.slice 102 k102) 99 w' w.heap.size (fun _ => True) v7 x7_2) ∧ Aside0 (Below w.heap.size w w'))
    case atStart => exact ⟨(y218), (0), z81_, H', ⟨Nat.le_refl _⟩, ⟨z36_⟩, ⟨by (with_reducible repeat (first | apply Kd.S_alloc | apply Kd.S_drewN | apply Kd.S_drew)); exact HO220.out⟩, ⟨z31_⟩⟩
    case round =>
     clear H'
     try clear c5b0
     obtain ⟨x7_2, x8_2, rfl, HA, HK2, HO_5, HO_7, HB⟩ := hrel
     cases gk with
     | zero => exact absurd HA.out (by simp [spec_l04Start.l1])
     | succ k2 =>
      have H := HA.out
      clear HA
      simp only [spec_l04Start.l1] at H
      by_cases c8 : x8_2 < a0
      ·rw [if_pos c8] at H
       have c8b0 : decide (x8_2 < a0) = true := decide_eq_true c8
       clear c8
       obtain ⟨y221, hy221⟩ : ∃ y_ : List (S102), y_ = (([(⟨x8_2, x6_1, false, false⟩ : S102)] : List (S102))) := ⟨_, rfl⟩
       replace H : (if x7_2.length < 5864062014805 then (spec_l04Start.l1 k2 a0 a1 x5_1 x6_1 (x7_2 ++ [y221]) (wrap64 (x8_2 + 1))) else (none)) = some r := rh_ hy221 H
       have Ny221 := Aside0.mk hy221
       clear hy221
       by_cases c9 : x7_2.length < 5864062014805
       ·rw [if_pos c9] at H
        have LMc9 := Aside0.mk c9
        clear c9
        obtain ⟨y224, hy224⟩ : ∃ y_ : List (List (S102)), y_ = (x7_2 ++ [y221]) := ⟨_, rfl⟩
        replace H : (spec_l04Start.l1 k2 a0 a1 x5_1 x6_1 y224 (wrap64 (x8_2 + 1))) = some r := rh_ hy224 H
        have Ny224 := Aside0.mk hy224
        clear hy224
        have H' := Aside0.mk H
        clear H
        go_wp2_with (first | ((with_reducible refine gate_dst (N := 25) rfl ?_); refine Kd.R_lit k102 _ 102 ?hg (N := 25) ?hd (xs := ([(⟨x8_2, x6_1, false, false⟩ : S102)] : List (S102))) (inner := [.int .i64 x8_2, .int .i64 x6_1, .bool false, .bool false]) (ok := fun _ => True) (okp := fun _ => True) ?hr ?hp (fun _ hk => hk) trivial (Below.refl _ _) (Nat.le_refl _) (by simp) ?_; (case hd => rfl); (case hg => rfl); (case hr => first | (go_simp; done) | (go_simp; rfl)); (case hp => exact (Reps.c4 (show Kd.M k102 _ _ _ (⟨x8_2, x6_1, false, false⟩ : S102) [.int .i64 x8_2, .int .i64 x6_1, .bool false, .bool false] from (k102_mkM _ _ _ (⟨x8_2, x6_1, false, false⟩ : S102) )) (Reps.none _ _))); intro v222 w10 ho11 hb hg_ hnew_; clear hg_ hnew_; (first | rw [← Ny221.out] at ho11 | (simp only [Int.reduceToNat] at ho11; rw [← Ny221.out] at ho11)); replace HO_5 := a_ (Kd.R_elder' (ra_ HO_5.out) (Kd.R_base ho11) hb); replace HO_7 := a_ (Kd.S_elder' (by (with_reducible repeat (first | apply Kd.S_alloc | apply Kd.S_drewN | apply Kd.S_drew)); exact HO_7.out) (Kd.R_base ho11) hb); have HO223 := a_ (Kd.R_lower ho11 (below_size z31_)); replace HB := a_ (below_step z31_ hb); clear hb ho11; obtain ⟨Ao13, co13, eo13⟩ := Kd.R_slice HO223.out; subst eo13) | ((with_reducible refine gate_builtin (b := .append) (xs := #[.tmp 21, .tmp 26]) rfl ?_); at_builtin; refine Kd.S_append (Kd.slice 102 k102) (w0 := w) w.heap.size rfl (.tmp 21) (.tmp 26) 121 99 (.slice none 0 0) 24 rfl Try.underlying121 info99 rfl (by decide) (by omega) u7 x7_2 y221 [.slice Ao13 y221.length co13] (fun _ => True) (fun k_ => some k_ = (.slice Ao13 y221.length co13 : Value).ownBlock) rfl rfl ?aP (fun k_ hk_ => ((Kd.R_mono (ok' := fun k_ => ((fun _ => True)) k_ ∧ some k_ ≠ (u7 : Value).ownBlock) (Kd.R_apart' (HO223.out) (Kd.S_typed HO_7.out) (by decide)) (fun k_ hk => ⟨trivial, hk.2⟩))).1 k_ hk_.symm) ?aF ?aO ?aB ?aS ?aL ?_; (case aP => exact Kd.M_row (Kd.R_mono (Kd.R_tight rfl (Kd.R_mono (ok' := fun k_ => ((fun _ => True)) k_ ∧ some k_ ≠ (u7 : Value).ownBlock) (Kd.R_apart' (HO223.out) (Kd.S_typed HO_7.out) (by decide)) (fun k_ hk => ⟨trivial, hk.2⟩))) (fun _ h_ => h_))); (case aB => exact z31_); (case aF => exact (fun _ _ => trivial)); (case aO => exact (by (with_reducible repeat (first | apply Kd.S_alloc | apply Kd.S_drewN | apply Kd.S_drew)); exact Kd.S_mono HO_7.out (fun k_ hk => ⟨trivial, fun e_ => hk.2 e_⟩))); (case aS => exact (below_size z31_)); (case aL => have := LMc9.out; omega); intro v225 w12 ho hb hg hat; rw [← Ny224.out] at ho; replace HO_5 := a_ (Kd.R_after (ok := (fun k_ => nb_ k_ Ao13 y221.length co13)) (rc_ (h := by exact Kd.R_mono HO_5.out (fun _ hk => ⟨hk.2, hk.1⟩))) hg hat); replace HB := a_ (hb); have HO226 := a_ (ho); clear HO223; clear HO_7; clear ho hb hg hat))
        go_roundg k2
        case measure => have := HK1.out; have := HK2.out; omega
        case rel => exact ⟨(y224), (wrap64 (x8_2 + 1)), z81_, H', ⟨z83_⟩, ⟨z36_⟩, ⟨by (with_reducible repeat (first | apply Kd.S_alloc | apply Kd.S_drewN | apply Kd.S_drew)); exact HO226.out⟩, ⟨z31_⟩⟩
       ·rw [if_neg c9] at H
        exact absurd H (by simp)
      ·rw [if_neg c8] at H
       have c8b0 : decide (x8_2 < a0) = false := decide_eq_false c8
       clear c8
       by_cases c14 : x5_1.length < 5864062014805
       ·rw [if_pos c14] at H
        have LMc14 := Aside0.mk c14
        clear c14
        obtain ⟨y227, hy227⟩ : ∃ y_ : List (List (List (S102))), y_ = (x5_1 ++ [x7_2]) := ⟨_, rfl⟩
        replace H : (spec_l04Start.l0 k2 a0 a1 y227 (wrap64 (x6_1 + 1))) = some r := rh_ hy227 H
        have Ny227 := Aside0.mk hy227
        clear hy227
        have H' := Aside0.mk H
        clear H
        obtain ⟨Ao16, co16, eo16⟩ := Kd.S_slice HO_7.out
        subst eo16
        go_wp2_with (first | ((with_reducible refine gate_builtin (b := .append) (xs := #[.tmp 28, .tmp 30]) rfl ?_); at_builtin; refine Kd.R_append (Kd.slice 99 (Kd.slice 102 k102)) (w0 := w) w.heap.size rfl (.tmp 28) (.tmp 30) 118 121 (.slice none 0 0) 24 rfl Try.underlying118 info121 rfl (by decide) (by omega) u5 x5_1 x7_2 [.slice Ao16 x7_2.length co16] (fun _ => True) (fun k_ => ((fun _ => True)) k_ ∧ some k_ ≠ (u5 : Value).ownBlock) rfl rfl ?aP (fun _ hk => hk) ?aF ?aO ?aB ?aS ?aL ?_; (case aP => exact Kd.M_row (Kd.R_mono (Kd.R_apart' ((Kd.S_R HO_7.out)) (Kd.R_typed HO_5.out) (by decide)) (fun k_ hk => ⟨trivial, hk.2⟩))); (case aB => exact z31_); (case aF => exact (fun _ _ => trivial)); (case aO => exact (rc_ (h := by exact Kd.R_mono HO_5.out (fun _ hk => trivial)))); (case aS => exact (below_size z31_)); (case aL => have := LMc14.out; omega); intro v228 w15 ho hb hg hat; rw [← Ny227.out] at ho; replace HB := a_ (hb); have HO229 := a_ (ho); clear HO_5; clear HO_7; clear ho hb hg hat))
        go_roundg k2
        case measure => have := HK1.out; have := HK2.out; omega
        case rel => exact ⟨(y227), (wrap64 (x6_1 + 1)), z81_, H', ⟨z83_⟩, ⟨by (with_reducible repeat (first | apply Kd.R_alloc | apply Kd.R_drewN | apply Kd.R_drew)); exact HO229.out⟩, ⟨z31_⟩⟩
       ·rw [if_neg c14] at H
        exact absurd H (by simp)
   ·rw [if_neg c5] at H
    have c5b0 : decide (x6_1 < a1) = false := decide_eq_false c5
    clear c5
    obtain rfl := Option.some.inj H
    go_wp2
    go_ret
    exact ⟨_, z32_, z67_, z31_⟩

/-! ### spec_l04Turn -/
def spec_l04Turn.togg (a : Bool) (x : S102) : S102 := if a = true then ⟨x.f0, x.f1, !x.f2, x.f3⟩ else ⟨x.f0, x.f1, x.f2, !x.f3⟩
def spec_l04Turn.f (l0 : List S102) (a1 : Bool) : Option (List S102) := if l0.length ≤ 1000000 then some (l0.reverse.map (spec_l04Turn.togg a1)) else none
theorem spec_l04Turn.togg_snoc (l : List S102) (a : Bool) (j m : Nat) (h : m + 1 + j = l.length) : (l.reverse.take (j + 1)).map (spec_l04Turn.togg a) = (l.reverse.take j).map (spec_l04Turn.togg a) ++ [spec_l04Turn.togg a (l.getD m z102)] := by
 have hj : j < l.reverse.length := by rw [List.length_reverse]; omega
 rw [List.take_succ_eq_append_getElem hj, List.map_append, List.map_cons, List.map_nil, List.getElem_reverse]
 congr 2
 rw [List.getD_eq_getElem?_getD, List.getElem?_eq_getElem (by omega), Option.getD_some]
 congr 2
 omega
theorem spec_l04Turn.togg_cells (a : Bool) (w : World) (base : Nat) (ok : Nat → Prop) (x : S102) : k102.M w base ok (spec_l04Turn.togg a x) [.int .i64 x.f0, .int .i64 x.f1, .bool (if a = true then !x.f2 else x.f2), .bool (if a = true then x.f3 else !x.f3)] := by
 cases a
 ·exact k102_mkM w base ok ⟨x.f0, x.f1, x.f2, !x.f3⟩
 ·exact k102_mkM w base ok ⟨x.f0, x.f1, !x.f2, x.f3⟩
set_option maxHeartbeats 800000 in
set_option maxRecDepth 100000 in
theorem spec_l04Turn.calls (A0 : Option Addr) (c0 : Nat) (l0 : List (S102)) (a1 : Bool) (r : List (S102)) (w : World) (hr0 : Kd.C k102 w A0 l0.length l0) (hc0 : l0.length ≤ c0) (h : spec_l04Turn.f l0 a1 = some r) :
  Calls Try.prog 116 #[.slice A0 l0.length c0, .bool a1] w fun e w' => ∃ v0_ : Value, e = .returned (v0_) ∧ Kd.R k102 102 w' w.heap.size (fun _ => True) v0_ r ∧ Below w.heap.size w w' := by
 unfold spec_l04Turn.f at h
 by_cases hl : l0.length ≤ 1000000
 ·rw [if_pos hl] at h
  injection h with h
  obtain ⟨n, hn⟩ : ∃ n : Nat, l0.length = n := ⟨_, rfl⟩
  rw [hn] at hl
  have HR := Aside0.mk hr0
  have HE := Aside0.mk h
  have HN := Aside0.mk hn
  have HL := Aside0.mk hl
  have e1 : wrap64 ((n : Int) - 1) = (n : Int) - 1 := by unfold wrap64; omega
  have f1 : IntKind.i64.wrap ((n : Int) - 1) = (n : Int) - 1 := (i64_w _).trans e1
  obtain ⟨i0, hi0⟩ : ∃ i0 : Int, (n : Int) - 1 = i0 := ⟨_, rfl⟩
  have HI0 := Aside0.mk hi0
  rw [hn]
  have HE1 := a_ (e1.trans hi0)
  clear e1 f1
  clear hr0 h hn hl hc0 hi0
  have HB := a_ (Below.refl w.heap.size w)
  go_enter Try.func116, Try.ntmps116
  go_wp2_with (first | ((with_reducible refine gate_dst (N := 8) rfl ?_); refine Kd.R_lit k102 _ 102 ?hg (N := 8) ?hd (xs := ([] : List (S102))) (inner := []) (ok := fun _ => True) (okp := fun _ => True) ?hr ?hp (fun _ hk => hk) trivial (Below.refl _ _) (Nat.le_refl _) (by simp) ?_; (case hd => rfl); (case hg => rfl); (case hr => first | (go_simp; done) | (go_simp; rfl)); (case hp => exact (Reps.none _ _)); intro v218 w3 ho4 hb hg_ hnew_; clear hg_ hnew_; have HO := Aside0.mk ho4; have HB1 := Aside0.mk hb; clear ho4 hb))
  go_loopg [5, 6] (n + 1) (fun kq v5 v6 w' => ∃ (i : Int) (j : Nat), v6 = .int .i64 i ∧ Aside0 (i = (n : Int) - 1 - (j : Int) ∧ j ≤ n ∧ j + kq = n + 1) ∧ Aside0 (Kd.R k102 102 w' w.heap.size (fun _ => True) v5 ((l0.reverse.take j).map (spec_l04Turn.togg a1))) ∧ Aside0 (Below w.heap.size w w'))
  case atStart => exact ⟨wrap64 ((n : Int) - 1), 0, rfl, ⟨by have := HE1.out; have := HI0.out; omega, by omega, by omega⟩, ⟨by simpa using HO.out⟩, HB1⟩
  case round =>
   clear HO HB1 HI0 HE1
   obtain ⟨i, j, rfl, HJ, HO, HB⟩ := hrel
   cases gk with
   | zero => exact absurd HJ.out (fun h => by omega)
   | succ k1 =>
    by_cases hj : j = n
    ·have hi : i < 0 := by have := HJ.out; omega
     have d1 : decide (i ≥ 0) = false := decide_eq_false (by omega)
     have d2 : decide (0 ≤ i) = false := decide_eq_false (by omega)
     clear hi
     have HJN := Aside0.mk hj
     clear hj
     go_wp2
     go_ret
     refine ⟨_, rfl, ?_, HB.out⟩
     have h := HO.out
     rw [← HE.out]
     have e : l0.reverse.take j = l0.reverse := List.take_of_length_le (by rw [List.length_reverse, HN.out, HJN.out]; exact Nat.le_refl _)
     rw [e] at h
     exact h
    ·obtain ⟨m, rfl⟩ : ∃ m : Nat, i = (m : Int) := ⟨i.toNat, by have := HJ.out; omega⟩
     have HM := a_ (show m + 1 + j = n by have := HJ.out; omega)
     have hml : m < l0.length := by have := HM.out; have := HN.out; omega
     obtain ⟨ad, eA, hx0, hx1, hx2, hx3⟩ := at_T102 HR.out (m : Int) (by omega) (by omega)
     cases eA
     have hx : rd_T102 l0 (m : Int) = l0.getD m z102 := rfl
     rw [hx] at hx0 hx1 hx2 hx3
     clear hx
     have HT := a_ (spec_l04Turn.togg_snoc l0 a1 j m (by have := HM.out; have := HN.out; omega))
     have HC := a_ (spec_l04Turn.togg_cells a1)
     generalize l0.getD m z102 = x at hx0 hx1 hx2 hx3 HT
     replace hx0 := (HB.out.cell (World.block_lt_of_cell? _ _ hx0)).trans hx0
     replace hx1 := (HB.out.cell (World.block_lt_of_cell? _ _ hx1)).trans hx1
     replace hx2 := (HB.out.cell (World.block_lt_of_cell? _ _ hx2)).trans hx2
     replace hx3 := (HB.out.cell (World.block_lt_of_cell? _ _ hx3)).trans hx3
     rw [show ((m : Int)).toNat = m from Int.toNat_natCast m] at hx0 hx1 hx2 hx3
     have hmn : m < n := by have := HM.out; omega
     have d1 : decide ((m : Int) ≥ 0) = true := decide_eq_true (by omega)
     have d2 : decide (0 ≤ (m : Int)) = true := decide_eq_true (by omega)
     have g1 := eq_true hmn
     have g2 := eq_true (show (m : Int) < (n : Int) by omega)
     have e1 : wrap64 ((m : Int) - 1) = (m : Int) - 1 := by have := HL.out; unfold wrap64; omega
     obtain ⟨i1, hi1⟩ : ∃ i1 : Int, (m : Int) - 1 = i1 := ⟨_, rfl⟩
     have HI1 := Aside0.mk hi1
     have HL2 := a_ (show ((l0.reverse.take j).map (spec_l04Turn.togg a1)).length = j by rw [List.length_map, List.length_take, List.length_reverse]; have := HM.out; have := HN.out; omega)
     replace e1 := e1.trans hi1
     have f1 : IntKind.i64.wrap ((m : Int) - 1) = i1 := (i64_w _).trans e1
     have HJ2 := a_ (show j + (k1 + 1) = n + 1 from HJ.out.2.2)
     clear hi1 hmn hj hml HJ
     obtain ⟨gb, hgb⟩ : ∃ gb : Nat, wr.heap.size = gb := ⟨_, rfl⟩
     cases a1
     all_goals
      go_upto_if 20 with ((with_reducible refine gate_dst (N := 7) rfl ?_); refine box_event ?hg (N := 7) ?hd (cs := #[.int .i64 0, .int .i64 0, .bool false, .bool false]) (t := 102) ?hr ?_; (case hd => rfl); (case hg => rfl); (case hr => first | (go_simp; done) | (go_simp; rfl)); intro gb130 hg w10 hbox hb; have BK := Aside0.mk hbox; have HBX := Aside0.mk hb; have HG := Aside0.mk hg; have hcz0 : w10.cell? ⟨gb130, 0, none⟩ = some (.int .i64 0) := (blk_cell hbox 0).trans rfl; have hcz1 : w10.cell? ⟨gb130, 1, none⟩ = some (.int .i64 0) := (blk_cell hbox 1).trans rfl; have hcz2 : w10.cell? ⟨gb130, 2, none⟩ = some (.bool false) := (blk_cell hbox 2).trans rfl; have hcz3 : w10.cell? ⟨gb130, 3, none⟩ = some (.bool false) := (blk_cell hbox 3).trans rfl; have hfz0 := blk_frozen hbox 0; have hfz1 := blk_frozen hbox 1; have hfz2 := blk_frozen hbox 2; have hfz3 := blk_frozen hbox 3; clear hb hbox hg)
     all_goals
      have hw0 := below_size HB.out
      have hgE := HG.out
      have HGE := a_ (show w.heap.size ≤ gb130 by omega)
      clear hw0 hgE
      have hB1 := a_ (below_set (j := 3) (v := .bool x.f3) (below_set (j := 2) (v := .bool x.f2) (below_set (j := 1) (v := .int .i64 x.f1) (below_set (j := 0) (v := .int .i64 x.f0) (below_step HB.out HBX.out) HGE.out) HGE.out) HGE.out) HGE.out)
      have hO1 := a_ (Kd.R_far (p := ⟨gb130, 3, none⟩) (Kd.R_far (p := ⟨gb130, 2, none⟩) (Kd.R_far (p := ⟨gb130, 1, none⟩) (Kd.R_far (p := ⟨gb130, 0, none⟩) (Kd.R_below (Kd.R_elderB HO.out gb130 (Nat.le_of_eq HG.out.symm)) HBX.out) (fun _ hk => hk.2) (.int .i64 x.f0)) (fun _ hk => hk.2) (.int .i64 x.f1)) (fun _ hk => hk.2) (.bool x.f2)) (fun _ hk => hk.2) (.bool x.f3))
      have hK1 := a_ (blk_put (blk_put (blk_put (blk_put BK.out 0 (.int .i64 x.f0) rfl) 1 (.int .i64 x.f1) rfl) 2 (.bool x.f2) rfl) 3 (.bool x.f3) rfl)
      clear HO HB HBX HG BK hcz0 hcz1 hcz2 hcz3 hfz0 hfz1 hfz2 hfz3 hx0 hx1 hx2 hx3
      generalize (((w10.setCell ⟨gb130, 0, none⟩ (.int .i64 x.f0)).setCell ⟨gb130, 1, none⟩ (.int .i64 x.f1)).setCell ⟨gb130, 2, none⟩ (.bool x.f2)).setCell ⟨gb130, 3, none⟩ (.bool x.f3) = w11 at hB1 hO1 hK1 ⊢
      have hcz0 : w11.cell? ⟨gb130, 0, none⟩ = some (.int .i64 x.f0) := (blk_cell hK1.out 0).trans rfl
      have hcz1 : w11.cell? ⟨gb130, 1, none⟩ = some (.int .i64 x.f1) := (blk_cell hK1.out 1).trans rfl
      have hcz2 : w11.cell? ⟨gb130, 2, none⟩ = some (.bool x.f2) := (blk_cell hK1.out 2).trans rfl
      have hcz3 : w11.cell? ⟨gb130, 3, none⟩ = some (.bool x.f3) := (blk_cell hK1.out 3).trans rfl
      have hfz0 := blk_frozen hK1.out 0
      have hfz1 := blk_frozen hK1.out 1
      have hfz2 := blk_frozen hK1.out 2
      have hfz3 := blk_frozen hK1.out 3
     ·go_upto_region 9 with (fail)
      have hB2 := a_ (below_set (j := 3) (v := .bool !x.f3) hB1.out HGE.out)
      have hO2 := a_ (Kd.R_far (p := ⟨gb130, 3, none⟩) (Kd.R_mono (ok' := fun k_ => k_ ≠ gb130) hO1.out (fun _ hk => hk.2)) (fun _ hk => hk) (.bool !x.f3))
      have hK2 := a_ (blk_put hK1.out 3 (.bool !x.f3) rfl)
      clear hB1 hO1 hK1 hcz0 hcz1 hcz2 hcz3 hfz0 hfz1 hfz2 hfz3
      generalize w11.setCell ⟨gb130, 3, none⟩ (.bool !x.f3) = w12 at hB2 hO2 hK2 ⊢
      have hM := a_ (fun w base ok => HC.out w base ok x)
      clear HC
      simp only [if_true, if_false, Bool.false_eq_true] at hM
      obtain ⟨y, hy⟩ : ∃ y : S102, spec_l04Turn.togg false x = y := ⟨_, rfl⟩
      obtain ⟨b, hb⟩ : ∃ b : Bool, (!x.f3) = b := ⟨_, rfl⟩
      rw [hy] at hM HT
      rw [hb] at hM hK2
      clear hy hb
      have hcz0 : w12.cell? ⟨gb130, 0, none⟩ = some (.int .i64 x.f0) := (blk_cell hK2.out 0).trans rfl
      have hcz1 : w12.cell? ⟨gb130, 1, none⟩ = some (.int .i64 x.f1) := (blk_cell hK2.out 1).trans rfl
      have hcz2 : w12.cell? ⟨gb130, 2, none⟩ = some (.bool x.f2) := (blk_cell hK2.out 2).trans rfl
      have hcz3 : w12.cell? ⟨gb130, 3, none⟩ = some (.bool b) := (blk_cell hK2.out 3).trans rfl
      go_wp2_with ((with_reducible refine gate_builtin (b := .append) (xs := #[.tmp 29, .tmp 31]) rfl ?_); at_builtin; refine Kd.R_append k102 (w0 := w) w.heap.size rfl (.tmp 29) (.tmp 31) 99 102 (.agg #[(.int .i64 0), (.int .i64 0), (.bool false), (.bool false)]) 24 rfl Try.underlying99 info102 rfl (by decide) (by omega) u5 ((l0.reverse.take j).map (spec_l04Turn.togg false)) y [.int .i64 x.f0, .int .i64 x.f1, .bool x.f2, .bool b] (fun k_ => k_ ≠ gb130) (fun _ => False) rfl (by first | (go_simp; done) | (go_simp; rfl)) ?aP (fun _ hk => hk.elim) ?aF ?aO ?aB ?aS ?aL ?_; (case aP => exact hM.out _ _ _); (case aB => first | exact hB2.out | exact below_alloc hB2.out _); (case aF => first | exact (fun k_ hk => Kd.freshB hK2.out k_ hk) | exact (fun k_ hk => Kd.freshB hK2.out k_ (Nat.le_trans (by simp) hk))); (case aO => first | exact hO2.out | exact Kd.R_alloc hO2.out _); (case aS => first | exact below_size hB2.out | exact below_size (below_alloc hB2.out _)); (case aL => have := HL2.out; have := HL.out; have := HM.out; omega); intro v13 w13 ho hb hg hat; have HO3 := Aside0.mk ho; have HB3 := Aside0.mk hb; clear ho hb hg hat)
      go_roundg k1
      case measure => omega
      case rel => exact ⟨_, j + 1, rfl, ⟨by have := HI1.out; have := HM.out; have := HJ2.out; omega, by have := HM.out; omega, by have := HJ2.out; omega⟩, ⟨by rw [HT.out]; exact Kd.R_mono HO3.out (fun _ _ => trivial)⟩, HB3⟩

     ·go_upto_region 9 with (fail)
      have hB2 := a_ (below_set (j := 2) (v := .bool !x.f2) hB1.out HGE.out)
      have hO2 := a_ (Kd.R_far (p := ⟨gb130, 2, none⟩) (Kd.R_mono (ok' := fun k_ => k_ ≠ gb130) hO1.out (fun _ hk => hk.2)) (fun _ hk => hk) (.bool !x.f2))
      have hK2 := a_ (blk_put hK1.out 2 (.bool !x.f2) rfl)
      clear hB1 hO1 hK1 hcz0 hcz1 hcz2 hcz3 hfz0 hfz1 hfz2 hfz3
      generalize w11.setCell ⟨gb130, 2, none⟩ (.bool !x.f2) = w12 at hB2 hO2 hK2 ⊢
      have hM := a_ (fun w base ok => HC.out w base ok x)
      clear HC
      simp only [if_true, if_false, Bool.false_eq_true] at hM
      obtain ⟨y, hy⟩ : ∃ y : S102, spec_l04Turn.togg true x = y := ⟨_, rfl⟩
      obtain ⟨b, hb⟩ : ∃ b : Bool, (!x.f2) = b := ⟨_, rfl⟩
      rw [hy] at hM HT
      rw [hb] at hM hK2
      clear hy hb
      have hcz0 : w12.cell? ⟨gb130, 0, none⟩ = some (.int .i64 x.f0) := (blk_cell hK2.out 0).trans rfl
      have hcz1 : w12.cell? ⟨gb130, 1, none⟩ = some (.int .i64 x.f1) := (blk_cell hK2.out 1).trans rfl
      have hcz2 : w12.cell? ⟨gb130, 2, none⟩ = some (.bool b) := (blk_cell hK2.out 2).trans rfl
      have hcz3 : w12.cell? ⟨gb130, 3, none⟩ = some (.bool x.f3) := (blk_cell hK2.out 3).trans rfl
      go_wp2_with ((with_reducible refine gate_builtin (b := .append) (xs := #[.tmp 29, .tmp 31]) rfl ?_); at_builtin; refine Kd.R_append k102 (w0 := w) w.heap.size rfl (.tmp 29) (.tmp 31) 99 102 (.agg #[(.int .i64 0), (.int .i64 0), (.bool false), (.bool false)]) 24 rfl Try.underlying99 info102 rfl (by decide) (by omega) u5 ((l0.reverse.take j).map (spec_l04Turn.togg true)) y [.int .i64 x.f0, .int .i64 x.f1, .bool b, .bool x.f3] (fun k_ => k_ ≠ gb130) (fun _ => False) rfl (by first | (go_simp; done) | (go_simp; rfl)) ?aP (fun _ hk => hk.elim) ?aF ?aO ?aB ?aS ?aL ?_; (case aP => exact hM.out _ _ _); (case aB => first | exact hB2.out | exact below_alloc hB2.out _); (case aF => first | exact (fun k_ hk => Kd.freshB hK2.out k_ hk) | exact (fun k_ hk => Kd.freshB hK2.out k_ (Nat.le_trans (by simp) hk))); (case aO => first | exact hO2.out | exact Kd.R_alloc hO2.out _); (case aS => first | exact below_size hB2.out | exact below_size (below_alloc hB2.out _)); (case aL => have := HL2.out; have := HL.out; have := HM.out; omega); intro v13 w13 ho hb hg hat; have HO3 := Aside0.mk ho; have HB3 := Aside0.mk hb; clear ho hb hg hat)
      go_roundg k1
      case measure => omega
      case rel => exact ⟨_, j + 1, rfl, ⟨by have := HI1.out; have := HM.out; have := HJ2.out; omega, by have := HM.out; omega, by have := HJ2.out; omega⟩, ⟨by rw [HT.out]; exact Kd.R_mono HO3.out (fun _ _ => trivial)⟩, HB3⟩

 ·rw [if_neg hl] at h; cases h

end Go.Proofs.Ytkpidjmhdagkfaa.QFnExactSchemesFor
-- halved
