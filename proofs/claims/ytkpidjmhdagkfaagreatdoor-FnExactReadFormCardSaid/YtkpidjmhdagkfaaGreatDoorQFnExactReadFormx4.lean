-- Written by own_print.py of this session's repo over the kit's print (its output, turned at some places).
import Derived.Test.YtkpidjmhdagkfaaGreatDoorQFnExactReadFormx0
import Derived.Test.YtkpidjmhdagkfaaGreatDoorQFnExactReadFormx3
namespace Go.Proofs.YtkpidjmhdagkfaaGreatDoor.QFnExactReadForm
open Go.RowKit Go.Proofs.YtkpidjmhdagkfaaGreatDoorW.PrintWords Go.Proofs.YtkpidjmhdagkfaaGreatDoorW.PrintLast Go.Proofs.YtkpidjmhdagkfaaGreatDoorW.PrintMore
attribute [local go_sem] max2_int min2_int max_two min_two max_three min_three max_four min_four   -- for this text's walks alone
set_option linter.unusedVariables false
set_option linter.unusedSimpArgs false

/-! ### impl_checkForm: function 39 -/
def impl_checkForm.f (k : Nat) (a0_0 : Int) (a0_1 : Int) (l0_2 : List Int) (l0_3 : List Int) (l0_4 : List Int) (a1 : ByteArray) : Option (Int) := (impl_IsForm.f k a0_0 a0_1 l0_2 l0_3 l0_4).bind fun t159 => (if t159 = true then ((impl_IsScheme.f k a0_0 a0_1 a1).bind fun t160 => (if t160 = true then (some 0) else (some 2))) else (some 1))
theorem impl_checkForm.mono : ∀ a0 a1 a2 a3 a4 a5 k, LeO (impl_checkForm.f k a0 a1 a2 a3 a4 a5) (impl_checkForm.f (k + 1) a0 a1 a2 a3 a4 a5) := by
 intro a0 a1 a2 a3 a4 a5 k
 unfold impl_checkForm.f
 repeat' first
   | (with_reducible exact impl_IsForm.mono _ _ _ _ _ _)
   | (with_reducible exact impl_IsScheme.mono _ _ _ _)
   | (with_reducible exact LeO.refl _)
   | (with_reducible exact LeO.none _)
   | (with_reducible refine LeO.ite ?_ ?_)
   | (with_reducible refine LeO.bind ?_ (fun _ => ?_))
   | exact impl_IsForm.mono _ _ _ _ _ _
   | exact impl_IsScheme.mono _ _ _ _
   | exact LeO.none _
   | refine LeO.ite ?_ ?_
   | refine LeO.bind ?_ (fun _ => ?_)
set_option maxHeartbeats 8000000 in
set_option maxRecDepth 100000 in
theorem impl_checkForm.calls (k : Nat) (a0_0 : Int) (a0_1 : Int) (A0_2 : Option Addr) (c0_2 : Nat) (l0_2 : List Int) (A0_3 : Option Addr) (c0_3 : Nat) (l0_3 : List Int) (A0_4 : Option Addr) (c0_4 : Nat) (l0_4 : List Int) (a1 : ByteArray) (r : Int) (w : World) (hr0_2 : Kd.C (Kd.int .i64) w A0_2 l0_2.length l0_2) (hc0_2 : l0_2.length ≤ c0_2) (hr0_3 : Kd.C (Kd.int .i64) w A0_3 l0_3.length l0_3) (hc0_3 : l0_3.length ≤ c0_3) (hr0_4 : Kd.C (Kd.int .i64) w A0_4 l0_4.length l0_4) (hc0_4 : l0_4.length ≤ c0_4) (h : impl_checkForm.f k a0_0 a0_1 l0_2 l0_3 l0_4 a1 = some r) :
  Calls Tryz.prog 39 #[.agg #[.int .i64 a0_0, .int .i64 a0_1, .slice A0_2 l0_2.length c0_2, .slice A0_3 l0_3.length c0_3, .slice A0_4 l0_4.length c0_4], .string a1] w fun e w' => e = .returned (.int .i64 r) ∧ Below w.heap.size w w' := by
 have hu28 := Tryz.underlying28
 have HR0_2 := Aside0.mk hr0_2
 have HC0_2 := Aside0.mk hc0_2
 clear hr0_2 hc0_2
 have HR0_3 := Aside0.mk hr0_3
 have HC0_3 := Aside0.mk hc0_3
 clear hr0_3 hc0_3
 have HR0_4 := Aside0.mk hr0_4
 have HC0_4 := Aside0.mk hc0_4
 clear hr0_4 hc0_4
 have HB := a_ (Below.refl w.heap.size w)
 have H : ((impl_IsForm.f k a0_0 a0_1 l0_2 l0_3 l0_4).bind fun t159 => (if t159 = true then ((impl_IsScheme.f k a0_0 a0_1 a1).bind fun t160 => (if t160 = true then (some 0) else (some 2))) else (some 1))) = some r := h
 clear h
 replace H := Option.bind_eq_some_iff.mp H
 obtain ⟨t159, A30, H⟩ := H
 replace H : (if t159 = true then ((impl_IsScheme.f k a0_0 a0_1 a1).bind fun t160 => (if t160 = true then (some 0) else (some 2))) else (some 1)) = some r := H
 have A3 := Aside0.mk A30
 clear A30
 by_cases c4 : t159 = true
 ·subst c4
  have H1 : ((impl_IsScheme.f k a0_0 a0_1 a1).bind fun t160 => (if t160 = true then (some 0) else (some 2))) = some r := by rw [if_pos rfl] at H; exact H
  clear H
  have H := H1
  clear H1
  replace H := Option.bind_eq_some_iff.mp H
  obtain ⟨t160, A50, H⟩ := H
  replace H : (if t160 = true then (some 0) else (some 2)) = some r := H
  have A5 := Aside0.mk A50
  clear A50
  by_cases c6 : t160 = true
  ·subst c6
   have H1 : (some 0) = some r := by rw [if_pos rfl] at H; exact H
   clear H
   have H := H1
   clear H1
   obtain rfl := Option.some.inj H
   go_enter Tryz.func39, Tryz.ntmps39
   go_wp2_with (first | ((with_reducible refine gate_dst (N := 2) rfl ?_); refine box_event ?hg (N := 2) ?hd (cs := #[.int .i64 a0_0, .int .i64 a0_1, .slice A0_2 l0_2.length c0_2, .slice A0_3 l0_3.length c0_3, .slice A0_4 l0_4.length c0_4]) (t := 28) ?hr ?_; (case hd => rfl); (case hg => rfl); (case hr => first | (go_simp; done) | (go_simp; rfl)); intro gb158 hg w7 hbox hb; have BK158 := a_ (hbox); have GW158 := a_ ((z32_ : w.heap.size ≤ gb158)); have GE158 := a_ ((z32_ : w.heap.size ≤ gb158)); replace HB := a_ (below_step z33_ hb); clear hb hbox hg; obtain ⟨hcz8_0, hcz8_1, hcz8_2, hcz8_3, hcz8_4, hfz8_0, hfz8_1, hfz8_2, hfz8_3, hfz8_4⟩ := cz5_ (w := w7) BK158.out) | ((with_reducible refine gate_callee (f := 20) rfl ?_); refine goesL_ (some 7) rfl rfl Tryz.func20 (by kernel_rfl) rfl #[.agg #[.int .i64 a0_0, .int .i64 a0_1, .slice A0_2 l0_2.length c0_2, .slice A0_3 l0_3.length c0_3, .slice A0_4 l0_4.length c0_4]] rfl z36_ ?_; (with_reducible refine (impl_IsForm.calls k a0_0 a0_1 (fun k_ => k_ < w.heap.size) _ _ l0_2 (fun k_ => k_ < w.heap.size) _ _ l0_3 _ _ l0_4 true _ ?side1 ?side2 ?side3 ?side4 A3.out).mono ?_); (case side1 => exact Kd.V_mk HC0_2.out (Kd.F_below (Kd.C_F (Kd.heap_int .i64) HR0_2.out) z22_)); (case side2 => exact Kd.V_mk HC0_3.out (Kd.F_below (Kd.C_F (Kd.heap_int .i64) HR0_3.out) z22_)); (case side3 => exact kc_ (Kd.C_below HR0_4.out HB.out)); (case side4 => exact HC0_4.out); rintro e w9 ⟨rfl, hb⟩; refine ⟨_, rfl, ?_⟩; replace BK158 := a_ (blk_below (g := gb158) (rb_ BK158.out) hb); replace HB := a_ (below_step z22_ hb); (try clear hb); (try clear hb2); (try clear hk); (try clear hi); obtain ⟨hcz10_0, hcz10_1, hcz10_2, hcz10_3, hcz10_4, hfz10_0, hfz10_1, hfz10_2, hfz10_3, hfz10_4⟩ := cz5_ (w := w9) BK158.out) | ((with_reducible refine gate_callee (f := 77) rfl ?_); refine goesL_ (some 15) rfl rfl Tryz.func77 (by kernel_rfl) rfl #[.int .i64 a0_0, .int .i64 a0_1, .string a1] rfl z36_ ?_; (with_reducible refine (impl_IsScheme.calls k a0_0 a0_1 a1 true _ A5.out).mono ?_); rintro e w11 ⟨rfl, hb⟩; refine ⟨_, rfl, ?_⟩; replace BK158 := a_ (blk_below (g := gb158) (rb_ BK158.out) hb); replace HB := a_ (below_step z22_ hb); (try clear hb); (try clear hb2); (try clear hk); (try clear hi)))
   go_ret
   exact ⟨z34_, z22_⟩
  ·replace c6 := Bool.eq_false_iff.mpr c6
   subst c6
   have H1 : (some 2) = some r := by rw [if_neg (show ¬ (false = true) by decide)] at H; exact H
   clear H
   have H := H1
   clear H1
   obtain rfl := Option.some.inj H
   go_enter Tryz.func39, Tryz.ntmps39
   go_wp2_with (first | ((with_reducible refine gate_dst (N := 2) rfl ?_); refine box_event ?hg (N := 2) ?hd (cs := #[.int .i64 a0_0, .int .i64 a0_1, .slice A0_2 l0_2.length c0_2, .slice A0_3 l0_3.length c0_3, .slice A0_4 l0_4.length c0_4]) (t := 28) ?hr ?_; (case hd => rfl); (case hg => rfl); (case hr => first | (go_simp; done) | (go_simp; rfl)); intro gb158 hg w12 hbox hb; have BK158 := a_ (hbox); have GW158 := a_ ((z32_ : w.heap.size ≤ gb158)); have GE158 := a_ ((z32_ : w.heap.size ≤ gb158)); replace HB := a_ (below_step z33_ hb); clear hb hbox hg; obtain ⟨hcz13_0, hcz13_1, hcz13_2, hcz13_3, hcz13_4, hfz13_0, hfz13_1, hfz13_2, hfz13_3, hfz13_4⟩ := cz5_ (w := w12) BK158.out) | ((with_reducible refine gate_callee (f := 20) rfl ?_); refine goesL_ (some 7) rfl rfl Tryz.func20 (by kernel_rfl) rfl #[.agg #[.int .i64 a0_0, .int .i64 a0_1, .slice A0_2 l0_2.length c0_2, .slice A0_3 l0_3.length c0_3, .slice A0_4 l0_4.length c0_4]] rfl z36_ ?_; (with_reducible refine (impl_IsForm.calls k a0_0 a0_1 (fun k_ => k_ < w.heap.size) _ _ l0_2 (fun k_ => k_ < w.heap.size) _ _ l0_3 _ _ l0_4 true _ ?side1 ?side2 ?side3 ?side4 A3.out).mono ?_); (case side1 => exact Kd.V_mk HC0_2.out (Kd.F_below (Kd.C_F (Kd.heap_int .i64) HR0_2.out) z22_)); (case side2 => exact Kd.V_mk HC0_3.out (Kd.F_below (Kd.C_F (Kd.heap_int .i64) HR0_3.out) z22_)); (case side3 => exact kc_ (Kd.C_below HR0_4.out HB.out)); (case side4 => exact HC0_4.out); rintro e w14 ⟨rfl, hb⟩; refine ⟨_, rfl, ?_⟩; replace BK158 := a_ (blk_below (g := gb158) (rb_ BK158.out) hb); replace HB := a_ (below_step z22_ hb); (try clear hb); (try clear hb2); (try clear hk); (try clear hi); obtain ⟨hcz15_0, hcz15_1, hcz15_2, hcz15_3, hcz15_4, hfz15_0, hfz15_1, hfz15_2, hfz15_3, hfz15_4⟩ := cz5_ (w := w14) BK158.out) | ((with_reducible refine gate_callee (f := 77) rfl ?_); refine goesL_ (some 15) rfl rfl Tryz.func77 (by kernel_rfl) rfl #[.int .i64 a0_0, .int .i64 a0_1, .string a1] rfl z36_ ?_; (with_reducible refine (impl_IsScheme.calls k a0_0 a0_1 a1 false _ A5.out).mono ?_); rintro e w16 ⟨rfl, hb⟩; refine ⟨_, rfl, ?_⟩; replace BK158 := a_ (blk_below (g := gb158) (rb_ BK158.out) hb); replace HB := a_ (below_step z22_ hb); (try clear hb); (try clear hb2); (try clear hk); (try clear hi)))
   go_ret
   exact ⟨z34_, z22_⟩
 ·replace c4 := Bool.eq_false_iff.mpr c4
  subst c4
  have H1 : (some 1) = some r := by rw [if_neg (show ¬ (false = true) by decide)] at H; exact H
  clear H
  have H := H1
  clear H1
  obtain rfl := Option.some.inj H
  go_enter Tryz.func39, Tryz.ntmps39
  go_wp2_with (first | ((with_reducible refine gate_dst (N := 2) rfl ?_); refine box_event ?hg (N := 2) ?hd (cs := #[.int .i64 a0_0, .int .i64 a0_1, .slice A0_2 l0_2.length c0_2, .slice A0_3 l0_3.length c0_3, .slice A0_4 l0_4.length c0_4]) (t := 28) ?hr ?_; (case hd => rfl); (case hg => rfl); (case hr => first | (go_simp; done) | (go_simp; rfl)); intro gb158 hg w17 hbox hb; have BK158 := a_ (hbox); have GW158 := a_ ((z32_ : w.heap.size ≤ gb158)); have GE158 := a_ ((z32_ : w.heap.size ≤ gb158)); replace HB := a_ (below_step z33_ hb); clear hb hbox hg; obtain ⟨hcz18_0, hcz18_1, hcz18_2, hcz18_3, hcz18_4, hfz18_0, hfz18_1, hfz18_2, hfz18_3, hfz18_4⟩ := cz5_ (w := w17) BK158.out) | ((with_reducible refine gate_callee (f := 20) rfl ?_); refine goesL_ (some 7) rfl rfl Tryz.func20 (by kernel_rfl) rfl #[.agg #[.int .i64 a0_0, .int .i64 a0_1, .slice A0_2 l0_2.length c0_2, .slice A0_3 l0_3.length c0_3, .slice A0_4 l0_4.length c0_4]] rfl z36_ ?_; (with_reducible refine (impl_IsForm.calls k a0_0 a0_1 (fun k_ => k_ < w.heap.size) _ _ l0_2 (fun k_ => k_ < w.heap.size) _ _ l0_3 _ _ l0_4 false _ ?side1 ?side2 ?side3 ?side4 A3.out).mono ?_); (case side1 => exact Kd.V_mk HC0_2.out (Kd.F_below (Kd.C_F (Kd.heap_int .i64) HR0_2.out) z22_)); (case side2 => exact Kd.V_mk HC0_3.out (Kd.F_below (Kd.C_F (Kd.heap_int .i64) HR0_3.out) z22_)); (case side3 => exact kc_ (Kd.C_below HR0_4.out HB.out)); (case side4 => exact HC0_4.out); rintro e w19 ⟨rfl, hb⟩; refine ⟨_, rfl, ?_⟩; replace BK158 := a_ (blk_below (g := gb158) (rb_ BK158.out) hb); replace HB := a_ (below_step z22_ hb); (try clear hb); (try clear hb2); (try clear hk); (try clear hi)))
  go_ret
  exact ⟨z34_, z22_⟩

-- NOT PRINTED: function 94 (impl_halved_1)

/-! ### impl_Leaf_114 -/
def growleaf_lays_ren : Go.Shelf.Ren := ⟨fun | 4 => 114 | n => n, fun | 22 => 61 | 25 => 64 | 3 => 3 | 4 => 4 | 9 => 9 | 20 => 20 | 0 => 0 | n => n, fun | n => n⟩
theorem growleaf_lays : Go.Proofs.Lays8.n4 Tryz.prog growleaf_lays_ren := {
 mixed := by kernel_rfl
 f4 := ⟨Tryz.f114.name, by decide, Tryz.func114.trans (congrArg some (by kernel_rfl))⟩
 t0 := Tryz.underlying0
 a0 := Tryz.isAgg0
 z0 := Tryz.sizeOf0
 v0 := Tryz.zeroValue0
 t3 := Tryz.underlying3
 a3 := Tryz.isAgg3
 z3 := Tryz.sizeOf3
 v3 := Tryz.zeroValue3
 t4 := Tryz.underlying4
 a4 := Tryz.isAgg4
 z4 := Tryz.sizeOf4
 v4 := Tryz.zeroValue4
 t9 := Tryz.underlying9
 a9 := Tryz.isAgg9
 z9 := Tryz.sizeOf9
 v9 := Tryz.zeroValue9
 t20 := Tryz.underlying20
 a20 := Tryz.isAgg20
 z20 := Tryz.sizeOf20
 v20 := Tryz.zeroValue20
 t22 := Tryz.underlying61
 a22 := Tryz.isAgg61
 z22 := Tryz.sizeOf61
 v22 := Tryz.zeroValue61 }
def impl_Leaf_114.f (l0 : List S64) (a1 : Int) : Option (List S64) := if l0 = [] then (if 0 ≤ a1 then (if a1 ≤ 1000000 then some [] else none) else none) else none
set_option maxHeartbeats 4000000 in
set_option maxRecDepth 100000 in
theorem impl_Leaf_114.calls (P0_ : Nat → Prop) (u_ : Value) (l0 : List S64) (a1 : Int) (r : List S64) (w0 w : World) (hB : Below w0.heap.size w0 w) (ho0 : Kd.R k64 64 w w0.heap.size P0_ u_ l0) (h : impl_Leaf_114.f l0 a1 = some r) :
  Calls Tryz.prog 114 #[u_, .int .i64 a1] w fun e w' => ∃ v0_ : Value, e = .returned (v0_) ∧ Kd.R k64 64 w' w0.heap.size (fun k_ => (P0_ k_ ∨ w.heap.size ≤ k_)) v0_ r ∧ Below w0.heap.size w0 w' ∧ Kept w w' (fun k_ => P0_ k_) := by
 unfold impl_Leaf_114.f at h
 by_cases c1 : l0 = []
 ·rw [if_pos c1] at h
  by_cases c2 : 0 ≤ a1
  ·rw [if_pos c2] at h
   by_cases c3 : a1 ≤ 1000000
   ·rw [if_pos c3] at h
    subst c1
    obtain rfl := Option.some.inj h
    clear h
    obtain ⟨n, rfl⟩ := Int.eq_ofNat_of_zero_le c2
    have hw := hB.size
    obtain ⟨i0, hi0, hz0, hz1, hz2⟩ := info_parts (show (Tryz.prog.info? 64).map (fun i => (i.zero, i.size, i.bytes)) = some (some (.agg #[.int .i64 0, .int .i64 0, .bool false, .bool false]), 4, 24) by kernel_rfl)
    have key : ∀ (base : Option Addr) (c : Nat) (cs : List Value), u_ = .slice base 0 c → c ≤ maxLen → cs.length = c * 4 → (base = none → c = 0) → (∀ a, base = some a → ∀ j v, cs[j]? = some v → w.cell? (a.add j) = some v) → Calls Tryz.prog 114 #[u_, .int .i64 (n : Int)] w fun e w' => ∃ v0_ : Value, e = .returned (v0_) ∧ Kd.R k64 64 w' w0.heap.size (fun k_ => (P0_ k_ ∨ w.heap.size ≤ k_)) v0_ [] ∧ Below w0.heap.size w0 w' ∧ Kept w w' (fun k_ => P0_ k_) := by
     intro base c cs hu hmx hcl hnil hcs
     subst hu
     by_cases hr : 0 + n ≤ c
     ·have hcon := Go.Proofs.Any8.slices_Grow_room growleaf_lays base 0 c n w (Nat.zero_le _) (by simpa [maxLen] using hmx) (by omega) hr
      change Calls Tryz.prog 114 _ _ _ at hcon
      refine hcon.mono ?_
      rintro e w' ⟨rfl, rfl⟩
      exact ⟨_, rfl, Kd.R_mono ho0 (fun _ hk => .inl hk), hB, Kept.refl _ _⟩
     ·have hcon := Go.Proofs.Any8.slices_Grow_grow growleaf_lays i0 (.agg #[.int .i64 0, .int .i64 0, .bool false, .bool false]) hi0 hz0 (by omega) base 0 c n cs w (Nat.zero_le _) (by omega) (by rw [hz2]; omega) (by omega) (by rw [hz1, hcl]) hnil hcs
      change Calls Tryz.prog 114 _ _ _ at hcon
      refine hcon.mono ?_
      rintro e w' ⟨rfl, rfl⟩
      have hge := grownCap_ge w (0 + n) c 64
      have hle := grownCap_le_maxLen w (0 + n) c 64 (by unfold maxLen; omega)
      refine ⟨_, rfl, ⟨fun k hk => .inr ?_, [], ⟨by rfl, .inr ⟨w.heap.size, _, _, rfl, hw, heap_alloc_new _ _, Nat.zero_le _, hle, ?_, by rfl⟩⟩, Reps.none _ _⟩, (hB.drew).alloc hw _, (Kept.refl w _).below (((Below.refl _ _).drew).alloc (Nat.le_refl _) _)⟩
      ·simp [Value.ownBlock] at hk
       omega
      ·rw [Array.size_append, Array.size_append, size_zeroCells, size_zeroCells, List.size_toArray, hcl]
       show c * 4 + (0 + n - c) * 4 + (grownCap w (0 + n) c 64 - (0 + n)) * 4 = grownCap w (0 + n) c 64 * 4
       omega
    obtain ⟨inner_, ho_⟩ := Kd.R_own ho0
    obtain ⟨_, ho⟩ := ho_
    rcases ho with ⟨hv, _⟩ | ⟨g, cap, cur, hv, hg, hh, hn, hm, hsz, _⟩
    ·exact key none 0 [] hv (Nat.zero_le _) rfl (fun _ => rfl) (fun a ha => by cases ha)
    ·refine key (some ⟨g, 0, none⟩) cap cur.toList hv hm (by rw [Array.length_toList, hsz]; rfl) (fun ha => by cases ha) ?_
     intro a ha j v hj
     injection ha with ha
     subst ha
     have e : (⟨g, 0, none⟩ : Addr).add j = ⟨g, j, none⟩ := by
      unfold Addr.add
      split
      ·rename_i h0
       rw [h0]
      ·simp
     rw [e]
     simp only [World.cell?, hh]
     simpa using hj
   ·rw [if_neg c3] at h
    exact absurd h (by simp)
  ·rw [if_neg c2] at h
   exact absurd h (by simp)
 ·rw [if_neg c1] at h
  exact absurd h (by simp)

/-! ### impl_Leaf_95: function 95 -/
mutual
def impl_Leaf_95.l0 : Nat → List (List (S64)) → Int → List (List (S64)) → Int → Int → Option ((List (S64)))
 | 0, _, _, _, _, _ => none
 | k + 1, x0, x3, x9, x10, x11 => if x11 < x10 then (if 0 ≤ x11 then (if x11 < (x9.length : Int) then (if (wrap64 (x3 + ((rd_L4 x9 x11).length : Int))) < 0 then (none) else (impl_Leaf_95.l0 k x0 (wrap64 (x3 + ((rd_L4 x9 x11).length : Int))) x9 x10 (wrap64 (x11 + 1)))) else (none)) else (none)) else ((impl_Leaf_114.f ([] : List (S64)) x3).bind fun t162 => (impl_Leaf_95.l1 k t162 x0 (x0.length : Int) 0))
def impl_Leaf_95.l1 : Nat → List (S64) → List (List (S64)) → Int → Int → Option ((List (S64)))
 | 0, _, _, _, _ => none
 | k + 1, x6, x25, x26, x27 => if x27 < x26 then (if 0 ≤ x27 then (if x27 < (x25.length : Int) then (if x6.length + (rd_L4 x25 x27).length < 5864062014805 then (impl_Leaf_95.l1 k (x6 ++ (rd_L4 x25 x27)) x25 x26 (wrap64 (x27 + 1))) else (none)) else (none)) else (none)) else (some x6)
end
def impl_Leaf_95.f (k : Nat) (l0 : List (List (S64))) : Option ((List (S64))) := impl_Leaf_95.l0 k l0 0 l0 (l0.length : Int) 0
theorem impl_Leaf_95.mono_l : ∀ k, (∀ y0 y1 y2 y3 y4, LeO (impl_Leaf_95.l0 k y0 y1 y2 y3 y4) (impl_Leaf_95.l0 (k + 1) y0 y1 y2 y3 y4)) ∧ (∀ y0 y1 y2 y3, LeO (impl_Leaf_95.l1 k y0 y1 y2 y3) (impl_Leaf_95.l1 (k + 1) y0 y1 y2 y3))
 | 0 => ⟨fun _ _ _ _ _ r h => by simp [impl_Leaf_95.l0] at h, fun _ _ _ _ r h => by simp [impl_Leaf_95.l1] at h⟩
 | k + 1 => by
  obtain ⟨ih0, ih1⟩ := impl_Leaf_95.mono_l k
  refine ⟨?_, ?_⟩
  ·intro y0 y1 y2 y3 y4
   unfold impl_Leaf_95.l0
   repeat' first
   | (with_reducible exact ih0 _ _ _ _ _)
   | (with_reducible exact ih1 _ _ _ _)
   | (with_reducible exact LeO.refl _)
   | (with_reducible exact LeO.none _)
   | (with_reducible refine LeO.ite ?_ ?_)
   | (with_reducible refine LeO.bind ?_ (fun _ => ?_))
   | exact ih0 _ _ _ _ _
   | exact ih1 _ _ _ _
   | exact LeO.none _
   | refine LeO.ite ?_ ?_
   | refine LeO.bind ?_ (fun _ => ?_)
  ·intro y0 y1 y2 y3
   unfold impl_Leaf_95.l1
   repeat' first
   | (with_reducible exact ih0 _ _ _ _ _)
   | (with_reducible exact ih1 _ _ _ _)
   | (with_reducible exact LeO.refl _)
   | (with_reducible exact LeO.none _)
   | (with_reducible refine LeO.ite ?_ ?_)
   | (with_reducible refine LeO.bind ?_ (fun _ => ?_))
   | exact ih0 _ _ _ _ _
   | exact ih1 _ _ _ _
   | exact LeO.none _
   | refine LeO.ite ?_ ?_
   | refine LeO.bind ?_ (fun _ => ?_)
theorem impl_Leaf_95.mono : ∀ a0 k, LeO (impl_Leaf_95.f k a0) (impl_Leaf_95.f (k + 1) a0) := by
 intro a0 k
 obtain ⟨ih0, ih1⟩ := impl_Leaf_95.mono_l k
 unfold impl_Leaf_95.f
 repeat' first
   | (with_reducible exact ih0 _ _ _ _ _)
   | (with_reducible exact ih1 _ _ _ _)
   | (with_reducible exact LeO.refl _)
   | (with_reducible exact LeO.none _)
   | (with_reducible refine LeO.ite ?_ ?_)
   | (with_reducible refine LeO.bind ?_ (fun _ => ?_))
   | exact ih0 _ _ _ _ _
   | exact ih1 _ _ _ _
   | exact LeO.none _
   | refine LeO.ite ?_ ?_
   | refine LeO.bind ?_ (fun _ => ?_)
set_option maxHeartbeats 8000000 in
set_option maxRecDepth 100000 in
theorem impl_Leaf_95.calls (k : Nat) (A0 : Option Addr) (c0 : Nat) (l0 : List (List (S64))) (r : List (S64)) (w : World) (hr0 : Kd.C (Kd.slice 64 k64) w A0 l0.length l0) (hc0 : l0.length ≤ c0) (h : impl_Leaf_95.f k l0 = some r) :
  Calls Tryz.prog 95 #[.slice A0 l0.length c0] w fun e w' => ∃ v0_ : Value, e = .returned (v0_) ∧ Kd.R k64 64 w' w.heap.size (fun _ => True) v0_ r ∧ Below w.heap.size w w' := by
 have HR0 := Aside0.mk hr0
 have HC0 := Aside0.mk hc0
 clear hr0 hc0
 have HB := a_ (Below.refl w.heap.size w)
 have H : (impl_Leaf_95.l0 k l0 0 l0 (l0.length : Int) 0) = some r := h
 clear h
 have H' := Aside0.mk H
 clear H
 go_enter Tryz.func95, Tryz.ntmps95
 go_wp2
 go_loopg [3, 11] k (fun kq v3 v11 w' => ∃ (x3_1 : Int) (x11_1 : Int), v3 = .int .i64 x3_1 ∧ v11 = .int .i64 x11_1 ∧ Aside0 (impl_Leaf_95.l0 kq l0 x3_1 l0 (l0.length : Int) x11_1 = some r) ∧ Aside0 (kq ≤ k) ∧ Aside0 (Below w.heap.size w w'))
 case atStart => exact ⟨(0), (0), z78_, z78_, H', ⟨Nat.le_refl _⟩, ⟨z33_⟩⟩
 case round =>
  clear H'
  obtain ⟨x3_1, x11_1, rfl, rfl, HA, HK1, HB⟩ := hrel
  cases gk with
  | zero => exact absurd HA.out (by simp [impl_Leaf_95.l0])
  | succ k1 =>
   have H := HA.out
   clear HA
   simp only [impl_Leaf_95.l0] at H
   by_cases c2 : x11_1 < (l0.length : Int)
   ·rw [if_pos c2] at H
    have c2b0 : decide (x11_1 < (l0.length : Int)) = true := decide_eq_true c2
    clear c2
    by_cases c3 : 0 ≤ x11_1
    ·rw [if_pos c3] at H
     have c3b0 : decide (0 ≤ x11_1) = true := decide_eq_true c3
     clear c3
     by_cases c4 : x11_1 < (l0.length : Int)
     ·rw [if_pos c4] at H
      have c4b0 : decide (x11_1 < (l0.length : Int)) = true := decide_eq_true c4
      clear c4
      by_cases c5 : (wrap64 (x3_1 + ((rd_L4 l0 x11_1).length : Int))) < 0
      ·rw [if_pos c5] at H
       exact absurd H (by simp)
      ·rw [if_neg c5] at H
       have c5b0 : decide ((wrap64 (x3_1 + ((rd_L4 l0 x11_1).length : Int))) < 0) = false := decide_eq_false c5
       clear c5
       have H' := Aside0.mk H
       clear H
       have p161 : 0 ≤ (x11_1 : Int) := of_decide_eq_true z77_
       have q161 : x11_1 < (l0.length : Int) := of_decide_eq_true z77_
       obtain ⟨ad161, A161_0, c161_0, e161, hx161_0, hl161_0, hi161_0⟩ := at_L4 HR0.out x11_1 p161 q161
       cases e161
       replace hx161_0 := (HB.out.cell (World.block_lt_of_cell? _ _ hx161_0)).trans hx161_0
       have HR161_0 := Aside0.mk hi161_0
       have HC161_0 := Aside0.mk hl161_0
       clear hi161_0 hl161_0
       replace p161 := eq_true p161
       replace q161 := eq_true q161
       go_wp2
       go_roundg k1
       case measure => have := HK1.out; omega
       case rel => exact ⟨(wrap64 (x3_1 + ((rd_L4 l0 x11_1).length : Int))), (wrap64 (x11_1 + 1)), z78_, z78_, H', ⟨by have := HK1.out; omega⟩, ⟨z33_⟩⟩
     ·rw [if_neg c4] at H
      exact absurd H (by simp)
    ·rw [if_neg c3] at H
     exact absurd H (by simp)
   ·rw [if_neg c2] at H
    have c2b0 : decide (x11_1 < (l0.length : Int)) = false := decide_eq_false c2
    clear c2
    replace H := Option.bind_eq_some_iff.mp H
    obtain ⟨t162, A60, H⟩ := H
    replace H : (impl_Leaf_95.l1 k1 t162 l0 (l0.length : Int) 0) = some r := H
    have A6 := Aside0.mk A60
    clear A60
    have H' := Aside0.mk H
    clear H
    go_wp2_with (first | ((with_reducible refine gate_callee (f := 114) rfl ?_); refine goesL_ (some 24) rfl rfl Tryz.func114 (by kernel_rfl) rfl #[.slice none 0 0, .int .i64 x3_1] rfl z36_ ?_; (refine (impl_Leaf_114.calls (fun k_ => some k_ = (.slice none 0 0 : Value).ownBlock) (.slice none 0 0) ([] : List (S64)) x3_1 t162 w _ ?side1 ?side2 A6.out).mono ?_); (case side1 => exact z33_); (case side2 => exact Kd.R_nil _ _ _ _ _); rintro e w7 ⟨v163, rfl, ho0, hb, hkp⟩; refine ⟨_, rfl, ?_⟩; have HO164 := a_ (Kd.R_mono (ok' := fun k_ => True) ho0 (fun k_ hk_ => trivial)); replace HB := a_ (hb); (try clear hb); (try clear hkp); (try clear ho0)))
    go_loopg [6, 27] k1 (fun kq v6 v27 w' => ∃ (x6_2 : List (S64)) (x27_2 : Int), v27 = .int .i64 x27_2 ∧ Aside0 (impl_Leaf_95.l1 kq x6_2 l0 (l0.length : Int) x27_2 = some r) ∧ Aside0 (kq ≤ k1) ∧ Aside0 (Kd.R k64 64 w' w.heap.size (fun _ => True) v6 x6_2) ∧ Aside0 (Below w.heap.size w w'))
    case atStart => exact ⟨(t162), (0), z78_, H', ⟨Nat.le_refl _⟩, ⟨by (with_reducible repeat (first | apply Kd.R_alloc | apply Kd.R_drewN | apply Kd.R_drew)); exact HO164.out⟩, ⟨z33_⟩⟩
    case round =>
     clear H'
     try clear c2b0
     obtain ⟨x6_2, x27_2, rfl, HA, HK2, HO_6, HB⟩ := hrel
     cases gk with
     | zero => exact absurd HA.out (by simp [impl_Leaf_95.l1])
     | succ k2 =>
      have H := HA.out
      clear HA
      simp only [impl_Leaf_95.l1] at H
      by_cases c8 : x27_2 < (l0.length : Int)
      ·rw [if_pos c8] at H
       have c8b0 : decide (x27_2 < (l0.length : Int)) = true := decide_eq_true c8
       clear c8
       by_cases c9 : 0 ≤ x27_2
       ·rw [if_pos c9] at H
        have c9b0 : decide (0 ≤ x27_2) = true := decide_eq_true c9
        clear c9
        by_cases c10 : x27_2 < (l0.length : Int)
        ·rw [if_pos c10] at H
         have c10b0 : decide (x27_2 < (l0.length : Int)) = true := decide_eq_true c10
         clear c10
         by_cases c11 : x6_2.length + (rd_L4 l0 x27_2).length < 5864062014805
         ·rw [if_pos c11] at H
          have LMc11 := Aside0.mk c11
          clear c11
          obtain ⟨y166, hy166⟩ : ∃ y_ : List (S64), y_ = (x6_2 ++ (rd_L4 l0 x27_2)) := ⟨_, rfl⟩
          replace H : (impl_Leaf_95.l1 k2 y166 l0 (l0.length : Int) (wrap64 (x27_2 + 1))) = some r := rh_ hy166 H
          have Ny166 := Aside0.mk hy166
          clear hy166
          have H' := Aside0.mk H
          clear H
          have p165 : 0 ≤ (x27_2 : Int) := of_decide_eq_true z77_
          have q165 : x27_2 < (l0.length : Int) := of_decide_eq_true z77_
          obtain ⟨ad165, A165_0, c165_0, e165, hx165_0, hl165_0, hi165_0⟩ := at_L4 HR0.out x27_2 p165 q165
          cases e165
          replace hx165_0 := (HB.out.cell (World.block_lt_of_cell? _ _ hx165_0)).trans hx165_0
          have HR165_0 := Aside0.mk hi165_0
          have HC165_0 := Aside0.mk hl165_0
          clear hi165_0 hl165_0
          replace p165 := eq_true p165
          replace q165 := eq_true q165
          go_wp2_with (first | ((with_reducible refine gate_builtin (b := .append) (xs := #[.tmp 31, .tmp 32]) rfl ?_); at_builtin; refine Kd.R_append_rows k64 (w0 := w) w.heap.size rfl (.tmp 31) (.tmp 32) 61 64 (.agg #[(.int .i64 0), (.int .i64 0), (.bool false), (.bool false)]) 24 rfl Tryz.underlying61 info64 rfl (by decide) (by omega) u6 x6_2 (rd_L4 l0 x27_2) _ _ _ (fun _ => True) (fun _ => False) rfl rfl ?aO ?aR (fun _ _ h => h) (fun _ h => h.elim) ?aF ?aB ?aS ?aL ?_; (case aR => exact kc_ (Kd.C_below HR165_0.out HB.out)); (case aB => exact z33_); (case aF => exact (fun _ _ => trivial)); (case aO => exact (ra_ HO_6.out)); (case aS => exact (below_size z33_)); (case aL => have := LMc11.out; omega); intro v167 w12 ho hb hg hat; rw [← Ny166.out] at ho; replace HB := a_ (hb); have HO168 := a_ (ho); clear HO_6; clear ho hb hg hat))
          go_roundg k2
          case measure => have := HK1.out; have := HK2.out; omega
          case rel => exact ⟨(y166), (wrap64 (x27_2 + 1)), z78_, H', ⟨z79_⟩, ⟨by (with_reducible repeat (first | apply Kd.R_alloc | apply Kd.R_drewN | apply Kd.R_drew)); exact HO168.out⟩, ⟨z33_⟩⟩
         ·rw [if_neg c11] at H
          exact absurd H (by simp)
        ·rw [if_neg c10] at H
         exact absurd H (by simp)
       ·rw [if_neg c9] at H
        exact absurd H (by simp)
      ·rw [if_neg c8] at H
       have c8b0 : decide (x27_2 < (l0.length : Int)) = false := decide_eq_false c8
       clear c8
       obtain rfl := Option.some.inj H
       go_wp2
       go_ret
       exact ⟨_, z34_, z64_, z33_⟩

/-! ### impl_flipped -/
def impl_flipped.togg (a : Bool) (x : S64) : S64 := if a = true then ⟨x.f0, x.f1, x.f2, !x.f3⟩ else ⟨x.f0, x.f1, !x.f2, x.f3⟩
def impl_flipped.f (l0 : List S64) (a1 : Bool) : Option (List S64) := if l0.length ≤ 1000000 then some (l0.reverse.map (impl_flipped.togg a1)) else none
theorem impl_flipped.togg_snoc (l : List S64) (a : Bool) (j m : Nat) (h : m + 1 + j = l.length) : (l.reverse.take (j + 1)).map (impl_flipped.togg a) = (l.reverse.take j).map (impl_flipped.togg a) ++ [impl_flipped.togg a (l.getD m z64)] := by
 have hj : j < l.reverse.length := by rw [List.length_reverse]; omega
 rw [List.take_succ_eq_append_getElem hj, List.map_append, List.map_cons, List.map_nil, List.getElem_reverse]
 congr 2
 rw [List.getD_eq_getElem?_getD, List.getElem?_eq_getElem (by omega), Option.getD_some]
 congr 2
 omega
theorem impl_flipped.togg_cells (a : Bool) (w : World) (base : Nat) (ok : Nat → Prop) (x : S64) : k64.M w base ok (impl_flipped.togg a x) [.int .i64 x.f0, .int .i64 x.f1, .bool (if a = true then x.f2 else !x.f2), .bool (if a = true then !x.f3 else x.f3)] := by
 cases a
 ·exact k64_mkM w base ok ⟨x.f0, x.f1, !x.f2, x.f3⟩
 ·exact k64_mkM w base ok ⟨x.f0, x.f1, x.f2, !x.f3⟩
set_option maxHeartbeats 800000 in
set_option maxRecDepth 100000 in
theorem impl_flipped.calls (A0 : Option Addr) (c0 : Nat) (l0 : List (S64)) (a1 : Bool) (r : List (S64)) (w : World) (hr0 : Kd.C k64 w A0 l0.length l0) (hc0 : l0.length ≤ c0) (h : impl_flipped.f l0 a1 = some r) :
  Calls Tryz.prog 96 #[.slice A0 l0.length c0, .bool a1] w fun e w' => ∃ v0_ : Value, e = .returned (v0_) ∧ Kd.R k64 64 w' w.heap.size (fun _ => True) v0_ r ∧ Below w.heap.size w w' := by
 unfold impl_flipped.f at h
 by_cases hl : l0.length ≤ 1000000
 ·rw [if_pos hl] at h
  injection h with h
  obtain ⟨n, hn⟩ : ∃ n : Nat, l0.length = n := ⟨_, rfl⟩
  rw [hn] at hl
  have HR := Aside0.mk hr0
  have HE := Aside0.mk h
  have HN := Aside0.mk hn
  have HL := Aside0.mk hl
  have e1 : wrap64 ((n : Int) - 1) = (n : Int) - 1 := by unfold wrap64; omega
  have f1 : IntKind.i64.wrap ((n : Int) - 1) = (n : Int) - 1 := (i64_w _).trans e1
  obtain ⟨i0, hi0⟩ : ∃ i0 : Int, (n : Int) - 1 = i0 := ⟨_, rfl⟩
  have HI0 := Aside0.mk hi0
  rw [hn]
  have HE1 := a_ (e1.trans hi0)
  clear e1 f1
  clear hr0 h hn hl hc0 hi0
  have HB := a_ (Below.refl w.heap.size w)
  go_enter Tryz.func96, Tryz.ntmps96
  go_wp2_with (first | ((with_reducible refine gate_dst (N := 8) rfl ?_); refine Kd.R_lit k64 _ 64 ?hg (N := 8) ?hd (xs := ([] : List (S64))) (inner := []) (ok := fun _ => True) (okp := fun _ => True) ?hr ?hp (fun _ hk => hk) trivial (Below.refl _ _) (Nat.le_refl _) (by simp) ?_; (case hd => rfl); (case hg => rfl); (case hr => first | (go_simp; done) | (go_simp; rfl)); (case hp => exact (Reps.none _ _)); intro v218 w3 ho4 hb hg_ hnew_; clear hg_ hnew_; have HO := Aside0.mk ho4; have HB1 := Aside0.mk hb; clear ho4 hb))
  go_loopg [5, 6] (n + 1) (fun kq v5 v6 w' => ∃ (i : Int) (j : Nat), v6 = .int .i64 i ∧ Aside0 (i = (n : Int) - 1 - (j : Int) ∧ j ≤ n ∧ j + kq = n + 1) ∧ Aside0 (Kd.R k64 64 w' w.heap.size (fun _ => True) v5 ((l0.reverse.take j).map (impl_flipped.togg a1))) ∧ Aside0 (Below w.heap.size w w'))
  case atStart => exact ⟨wrap64 ((n : Int) - 1), 0, rfl, ⟨by have := HE1.out; have := HI0.out; omega, by omega, by omega⟩, ⟨by simpa using HO.out⟩, HB1⟩
  case round =>
   clear HO HB1 HI0 HE1
   obtain ⟨i, j, rfl, HJ, HO, HB⟩ := hrel
   cases gk with
   | zero => exact absurd HJ.out (fun h => by omega)
   | succ k1 =>
    by_cases hj : j = n
    ·have hi : i < 0 := by have := HJ.out; omega
     have d1 : decide (i ≥ 0) = false := decide_eq_false (by omega)
     have d2 : decide (0 ≤ i) = false := decide_eq_false (by omega)
     clear hi
     have HJN := Aside0.mk hj
     clear hj
     go_wp2
     go_ret
     refine ⟨_, rfl, ?_, HB.out⟩
     have h := HO.out
     rw [← HE.out]
     have e : l0.reverse.take j = l0.reverse := List.take_of_length_le (by rw [List.length_reverse, HN.out, HJN.out]; exact Nat.le_refl _)
     rw [e] at h
     exact h
    ·obtain ⟨m, rfl⟩ : ∃ m : Nat, i = (m : Int) := ⟨i.toNat, by have := HJ.out; omega⟩
     have HM := a_ (show m + 1 + j = n by have := HJ.out; omega)
     have hml : m < l0.length := by have := HM.out; have := HN.out; omega
     obtain ⟨ad, eA, hx0, hx1, hx2, hx3⟩ := at_T64 HR.out (m : Int) (by omega) (by omega)
     cases eA
     have hx : rd_T64 l0 (m : Int) = l0.getD m z64 := rfl
     rw [hx] at hx0 hx1 hx2 hx3
     clear hx
     have HT := a_ (impl_flipped.togg_snoc l0 a1 j m (by have := HM.out; have := HN.out; omega))
     have HC := a_ (impl_flipped.togg_cells a1)
     generalize l0.getD m z64 = x at hx0 hx1 hx2 hx3 HT
     replace hx0 := (HB.out.cell (World.block_lt_of_cell? _ _ hx0)).trans hx0
     replace hx1 := (HB.out.cell (World.block_lt_of_cell? _ _ hx1)).trans hx1
     replace hx2 := (HB.out.cell (World.block_lt_of_cell? _ _ hx2)).trans hx2
     replace hx3 := (HB.out.cell (World.block_lt_of_cell? _ _ hx3)).trans hx3
     rw [show ((m : Int)).toNat = m from Int.toNat_natCast m] at hx0 hx1 hx2 hx3
     have hmn : m < n := by have := HM.out; omega
     have d1 : decide ((m : Int) ≥ 0) = true := decide_eq_true (by omega)
     have d2 : decide (0 ≤ (m : Int)) = true := decide_eq_true (by omega)
     have g1 := eq_true hmn
     have g2 := eq_true (show (m : Int) < (n : Int) by omega)
     have e1 : wrap64 ((m : Int) - 1) = (m : Int) - 1 := by have := HL.out; unfold wrap64; omega
     obtain ⟨i1, hi1⟩ : ∃ i1 : Int, (m : Int) - 1 = i1 := ⟨_, rfl⟩
     have HI1 := Aside0.mk hi1
     have HL2 := a_ (show ((l0.reverse.take j).map (impl_flipped.togg a1)).length = j by rw [List.length_map, List.length_take, List.length_reverse]; have := HM.out; have := HN.out; omega)
     replace e1 := e1.trans hi1
     have f1 : IntKind.i64.wrap ((m : Int) - 1) = i1 := (i64_w _).trans e1
     have HJ2 := a_ (show j + (k1 + 1) = n + 1 from HJ.out.2.2)
     clear hi1 hmn hj hml HJ
     obtain ⟨gb, hgb⟩ : ∃ gb : Nat, wr.heap.size = gb := ⟨_, rfl⟩
     cases a1
     all_goals
      go_upto_if 20 with ((with_reducible refine gate_dst (N := 7) rfl ?_); refine box_event ?hg (N := 7) ?hd (cs := #[.int .i64 0, .int .i64 0, .bool false, .bool false]) (t := 64) ?hr ?_; (case hd => rfl); (case hg => rfl); (case hr => first | (go_simp; done) | (go_simp; rfl)); intro gb130 hg w10 hbox hb; have BK := Aside0.mk hbox; have HBX := Aside0.mk hb; have HG := Aside0.mk hg; have hcz0 : w10.cell? ⟨gb130, 0, none⟩ = some (.int .i64 0) := (blk_cell hbox 0).trans rfl; have hcz1 : w10.cell? ⟨gb130, 1, none⟩ = some (.int .i64 0) := (blk_cell hbox 1).trans rfl; have hcz2 : w10.cell? ⟨gb130, 2, none⟩ = some (.bool false) := (blk_cell hbox 2).trans rfl; have hcz3 : w10.cell? ⟨gb130, 3, none⟩ = some (.bool false) := (blk_cell hbox 3).trans rfl; have hfz0 := blk_frozen hbox 0; have hfz1 := blk_frozen hbox 1; have hfz2 := blk_frozen hbox 2; have hfz3 := blk_frozen hbox 3; clear hb hbox hg)
     all_goals
      have hw0 := below_size HB.out
      have hgE := HG.out
      have HGE := a_ (show w.heap.size ≤ gb130 by omega)
      clear hw0 hgE
      have hB1 := a_ (below_set (j := 3) (v := .bool x.f3) (below_set (j := 2) (v := .bool x.f2) (below_set (j := 1) (v := .int .i64 x.f1) (below_set (j := 0) (v := .int .i64 x.f0) (below_step HB.out HBX.out) HGE.out) HGE.out) HGE.out) HGE.out)
      have hO1 := a_ (Kd.R_far (p := ⟨gb130, 3, none⟩) (Kd.R_far (p := ⟨gb130, 2, none⟩) (Kd.R_far (p := ⟨gb130, 1, none⟩) (Kd.R_far (p := ⟨gb130, 0, none⟩) (Kd.R_below (Kd.R_elderB HO.out gb130 (Nat.le_of_eq HG.out.symm)) HBX.out) (fun _ hk => hk.2) (.int .i64 x.f0)) (fun _ hk => hk.2) (.int .i64 x.f1)) (fun _ hk => hk.2) (.bool x.f2)) (fun _ hk => hk.2) (.bool x.f3))
      have hK1 := a_ (blk_put (blk_put (blk_put (blk_put BK.out 0 (.int .i64 x.f0) rfl) 1 (.int .i64 x.f1) rfl) 2 (.bool x.f2) rfl) 3 (.bool x.f3) rfl)
      clear HO HB HBX HG BK hcz0 hcz1 hcz2 hcz3 hfz0 hfz1 hfz2 hfz3 hx0 hx1 hx2 hx3
      generalize (((w10.setCell ⟨gb130, 0, none⟩ (.int .i64 x.f0)).setCell ⟨gb130, 1, none⟩ (.int .i64 x.f1)).setCell ⟨gb130, 2, none⟩ (.bool x.f2)).setCell ⟨gb130, 3, none⟩ (.bool x.f3) = w11 at hB1 hO1 hK1 ⊢
      have hcz0 : w11.cell? ⟨gb130, 0, none⟩ = some (.int .i64 x.f0) := (blk_cell hK1.out 0).trans rfl
      have hcz1 : w11.cell? ⟨gb130, 1, none⟩ = some (.int .i64 x.f1) := (blk_cell hK1.out 1).trans rfl
      have hcz2 : w11.cell? ⟨gb130, 2, none⟩ = some (.bool x.f2) := (blk_cell hK1.out 2).trans rfl
      have hcz3 : w11.cell? ⟨gb130, 3, none⟩ = some (.bool x.f3) := (blk_cell hK1.out 3).trans rfl
      have hfz0 := blk_frozen hK1.out 0
      have hfz1 := blk_frozen hK1.out 1
      have hfz2 := blk_frozen hK1.out 2
      have hfz3 := blk_frozen hK1.out 3
     ·go_upto_region 9 with (fail)
      have hB2 := a_ (below_set (j := 2) (v := .bool !x.f2) hB1.out HGE.out)
      have hO2 := a_ (Kd.R_far (p := ⟨gb130, 2, none⟩) (Kd.R_mono (ok' := fun k_ => k_ ≠ gb130) hO1.out (fun _ hk => hk.2)) (fun _ hk => hk) (.bool !x.f2))
      have hK2 := a_ (blk_put hK1.out 2 (.bool !x.f2) rfl)
      clear hB1 hO1 hK1 hcz0 hcz1 hcz2 hcz3 hfz0 hfz1 hfz2 hfz3
      generalize w11.setCell ⟨gb130, 2, none⟩ (.bool !x.f2) = w12 at hB2 hO2 hK2 ⊢
      have hM := a_ (fun w base ok => HC.out w base ok x)
      clear HC
      simp only [if_true, if_false, Bool.false_eq_true] at hM
      obtain ⟨y, hy⟩ : ∃ y : S64, impl_flipped.togg false x = y := ⟨_, rfl⟩
      obtain ⟨b, hb⟩ : ∃ b : Bool, (!x.f2) = b := ⟨_, rfl⟩
      rw [hy] at hM HT
      rw [hb] at hM hK2
      clear hy hb
      have hcz0 : w12.cell? ⟨gb130, 0, none⟩ = some (.int .i64 x.f0) := (blk_cell hK2.out 0).trans rfl
      have hcz1 : w12.cell? ⟨gb130, 1, none⟩ = some (.int .i64 x.f1) := (blk_cell hK2.out 1).trans rfl
      have hcz2 : w12.cell? ⟨gb130, 2, none⟩ = some (.bool b) := (blk_cell hK2.out 2).trans rfl
      have hcz3 : w12.cell? ⟨gb130, 3, none⟩ = some (.bool x.f3) := (blk_cell hK2.out 3).trans rfl
      go_wp2_with ((with_reducible refine gate_builtin (b := .append) (xs := #[.tmp 29, .tmp 31]) rfl ?_); at_builtin; refine Kd.R_append k64 (w0 := w) w.heap.size rfl (.tmp 29) (.tmp 31) 61 64 (.agg #[(.int .i64 0), (.int .i64 0), (.bool false), (.bool false)]) 24 rfl Tryz.underlying61 info64 rfl (by decide) (by omega) u5 ((l0.reverse.take j).map (impl_flipped.togg false)) y [.int .i64 x.f0, .int .i64 x.f1, .bool b, .bool x.f3] (fun k_ => k_ ≠ gb130) (fun _ => False) rfl (by first | (go_simp; done) | (go_simp; rfl)) ?aP (fun _ hk => hk.elim) ?aF ?aO ?aB ?aS ?aL ?_; (case aP => exact hM.out _ _ _); (case aB => first | exact hB2.out | exact below_alloc hB2.out _); (case aF => first | exact (fun k_ hk => Kd.freshB hK2.out k_ hk) | exact (fun k_ hk => Kd.freshB hK2.out k_ (Nat.le_trans (by simp) hk))); (case aO => first | exact hO2.out | exact Kd.R_alloc hO2.out _); (case aS => first | exact below_size hB2.out | exact below_size (below_alloc hB2.out _)); (case aL => have := HL2.out; have := HL.out; have := HM.out; omega); intro v13 w13 ho hb hg hat; have HO3 := Aside0.mk ho; have HB3 := Aside0.mk hb; clear ho hb hg hat)
      go_roundg k1
      case measure => omega
      case rel => exact ⟨_, j + 1, rfl, ⟨by have := HI1.out; have := HM.out; have := HJ2.out; omega, by have := HM.out; omega, by have := HJ2.out; omega⟩, ⟨by rw [HT.out]; exact Kd.R_mono HO3.out (fun _ _ => trivial)⟩, HB3⟩

     ·go_upto_region 9 with (fail)
      have hB2 := a_ (below_set (j := 3) (v := .bool !x.f3) hB1.out HGE.out)
      have hO2 := a_ (Kd.R_far (p := ⟨gb130, 3, none⟩) (Kd.R_mono (ok' := fun k_ => k_ ≠ gb130) hO1.out (fun _ hk => hk.2)) (fun _ hk => hk) (.bool !x.f3))
      have hK2 := a_ (blk_put hK1.out 3 (.bool !x.f3) rfl)
      clear hB1 hO1 hK1 hcz0 hcz1 hcz2 hcz3 hfz0 hfz1 hfz2 hfz3
      generalize w11.setCell ⟨gb130, 3, none⟩ (.bool !x.f3) = w12 at hB2 hO2 hK2 ⊢
      have hM := a_ (fun w base ok => HC.out w base ok x)
      clear HC
      simp only [if_true, if_false, Bool.false_eq_true] at hM
      obtain ⟨y, hy⟩ : ∃ y : S64, impl_flipped.togg true x = y := ⟨_, rfl⟩
      obtain ⟨b, hb⟩ : ∃ b : Bool, (!x.f3) = b := ⟨_, rfl⟩
      rw [hy] at hM HT
      rw [hb] at hM hK2
      clear hy hb
      have hcz0 : w12.cell? ⟨gb130, 0, none⟩ = some (.int .i64 x.f0) := (blk_cell hK2.out 0).trans rfl
      have hcz1 : w12.cell? ⟨gb130, 1, none⟩ = some (.int .i64 x.f1) := (blk_cell hK2.out 1).trans rfl
      have hcz2 : w12.cell? ⟨gb130, 2, none⟩ = some (.bool x.f2) := (blk_cell hK2.out 2).trans rfl
      have hcz3 : w12.cell? ⟨gb130, 3, none⟩ = some (.bool b) := (blk_cell hK2.out 3).trans rfl
      go_wp2_with ((with_reducible refine gate_builtin (b := .append) (xs := #[.tmp 29, .tmp 31]) rfl ?_); at_builtin; refine Kd.R_append k64 (w0 := w) w.heap.size rfl (.tmp 29) (.tmp 31) 61 64 (.agg #[(.int .i64 0), (.int .i64 0), (.bool false), (.bool false)]) 24 rfl Tryz.underlying61 info64 rfl (by decide) (by omega) u5 ((l0.reverse.take j).map (impl_flipped.togg true)) y [.int .i64 x.f0, .int .i64 x.f1, .bool x.f2, .bool b] (fun k_ => k_ ≠ gb130) (fun _ => False) rfl (by first | (go_simp; done) | (go_simp; rfl)) ?aP (fun _ hk => hk.elim) ?aF ?aO ?aB ?aS ?aL ?_; (case aP => exact hM.out _ _ _); (case aB => first | exact hB2.out | exact below_alloc hB2.out _); (case aF => first | exact (fun k_ hk => Kd.freshB hK2.out k_ hk) | exact (fun k_ hk => Kd.freshB hK2.out k_ (Nat.le_trans (by simp) hk))); (case aO => first | exact hO2.out | exact Kd.R_alloc hO2.out _); (case aS => first | exact below_size hB2.out | exact below_size (below_alloc hB2.out _)); (case aL => have := HL2.out; have := HL.out; have := HM.out; omega); intro v13 w13 ho hb hg hat; have HO3 := Aside0.mk ho; have HB3 := Aside0.mk hb; clear ho hb hg hat)
      go_roundg k1
      case measure => omega
      case rel => exact ⟨_, j + 1, rfl, ⟨by have := HI1.out; have := HM.out; have := HJ2.out; omega, by have := HM.out; omega, by have := HJ2.out; omega⟩, ⟨by rw [HT.out]; exact Kd.R_mono HO3.out (fun _ _ => trivial)⟩, HB3⟩

 ·rw [if_neg hl] at h; cases h

end Go.Proofs.YtkpidjmhdagkfaaGreatDoor.QFnExactReadForm
-- halved
