-- Written by own_print.py of this session's repo over the kit's print (its output, turned at some places).
import Derived.Test.YtijbccmcfagnfaaDoorQFnSchemesx0
import Derived.Test.YtijbccmcfagnfaaDoorQFnSchemesx1
import Derived.Test.YtijbccmcfagnfaaDoorQFnSchemesx2
import Derived.Test.YtijbccmcfagnfaaDoorQFnSchemesx4
import Derived.Test.YtijbccmcfagnfaaDoorQFnSchemesx6
import Derived.Test.YtijbccmcfagnfaaDoorQFnSchemesx7
import Derived.Test.YtijbccmcfagnfaaDoorQFnSchemesx11
namespace Go.Proofs.YtijbccmcfagnfaaDoor.QFnSchemes
open Go.RowKit Go.Proofs.YtijbccmcfagnfaaDoorW.PrintWords Go.Proofs.YtijbccmcfagnfaaDoorW.PrintLast Go.Proofs.YtijbccmcfagnfaaDoorW.PrintMore
attribute [local go_sem] max2_int min2_int max_two min_two max_three min_three max_four min_four   -- for this text's walks alone
set_option linter.unusedVariables false
set_option linter.unusedSimpArgs false

attribute [local go_sem high] eqA39
/-! ### impl_Leaf_67: function 67 -/
def impl_Leaf_67.l0 : Nat → List (S39) → List (S39) → Int → Int → Option (Bool)
  | 0, _, _, _, _ => none
  | k + 1, x0, x1, x12, x13 => if x13 < x12 then (if 0 ≤ x13 then (if x13 < (x0.length : Int) then (if x13 < (x1.length : Int) then (if (!(((rd_T39 x0 x13).f0) == ((rd_T39 x1 x13).f0)) || (!(((rd_T39 x0 x13).f1) == ((rd_T39 x1 x13).f1)) || (!(((rd_T39 x0 x13).f2) == ((rd_T39 x1 x13).f2)) || (!(((rd_T39 x0 x13).f3) == ((rd_T39 x1 x13).f3)))))) = true then (some false) else (impl_Leaf_67.l0 k x0 x1 x12 (wrap64 (x13 + 1)))) else (none)) else (none)) else (none)) else (some true)
def impl_Leaf_67.f (k : Nat) (l0 : List (S39)) (l1 : List (S39)) : Option (Bool) := if (l0.length : Int) = (l1.length : Int) then (impl_Leaf_67.l0 k l0 l1 (l0.length : Int) 0) else (some false)
theorem impl_Leaf_67.mono_l : ∀ k, (∀ y0 y1 y2 y3, LeO (impl_Leaf_67.l0 k y0 y1 y2 y3) (impl_Leaf_67.l0 (k + 1) y0 y1 y2 y3))
  | 0 => fun _ _ _ _ r h => by simp [impl_Leaf_67.l0] at h
  | k + 1 => by
    have ih0 := impl_Leaf_67.mono_l k
    · intro y0 y1 y2 y3
      unfold impl_Leaf_67.l0
      repeat' first
      | (with_reducible exact ih0 _ _ _ _)
      | (with_reducible exact LeO.refl _)
      | (with_reducible exact LeO.none _)
      | (with_reducible refine LeO.ite ?_ ?_)
      | (with_reducible refine LeO.bind ?_ (fun _ => ?_))
      | exact ih0 _ _ _ _
      | exact LeO.none _
      | refine LeO.ite ?_ ?_
      | refine LeO.bind ?_ (fun _ => ?_)
theorem impl_Leaf_67.mono : ∀ a0 a1 k, LeO (impl_Leaf_67.f k a0 a1) (impl_Leaf_67.f (k + 1) a0 a1) := by
  intro a0 a1 k
  have ih0 := impl_Leaf_67.mono_l k
  unfold impl_Leaf_67.f
  repeat' first
      | (with_reducible exact ih0 _ _ _ _)
      | (with_reducible exact LeO.refl _)
      | (with_reducible exact LeO.none _)
      | (with_reducible refine LeO.ite ?_ ?_)
      | (with_reducible refine LeO.bind ?_ (fun _ => ?_))
      | exact ih0 _ _ _ _
      | exact LeO.none _
      | refine LeO.ite ?_ ?_
      | refine LeO.bind ?_ (fun _ => ?_)
set_option maxHeartbeats 8000000 in
set_option maxRecDepth 100000 in
theorem impl_Leaf_67.calls (k : Nat) (A0 : Option Addr) (c0 : Nat) (l0 : List (S39)) (A1 : Option Addr) (c1 : Nat) (l1 : List (S39)) (r : Bool) (w : World) (hr0 : Kd.C k39 w A0 l0.length l0) (hc0 : l0.length ≤ c0) (hr1 : Kd.C k39 w A1 l1.length l1) (hc1 : l1.length ≤ c1) (h : impl_Leaf_67.f k l0 l1 = some r) :
    Calls Tryd.prog 67 #[.slice A0 l0.length c0, .slice A1 l1.length c1] w fun e w' => e = .returned (.bool r) ∧ Drawn0 w w' := by
  have hu39 := Tryd.underlying39
  have HR0 := Aside0.mk hr0
  have HC0 := Aside0.mk hc0
  clear hr0 hc0
  have HR1 := Aside0.mk hr1
  have HC1 := Aside0.mk hc1
  clear hr1 hc1
  have H : (if (l0.length : Int) = (l1.length : Int) then (impl_Leaf_67.l0 k l0 l1 (l0.length : Int) 0) else (some false)) = some r := h
  clear h
  by_cases c3 : (l0.length : Int) = (l1.length : Int)
  · rw [if_pos c3] at H
    have c3b0 : ((l0.length : Int) == (l1.length : Int)) = true := beq_iff_eq.mpr c3
    have c3b1 : ((l0.length : Int) != (l1.length : Int)) = false := bne_eq_false_iff_eq.mpr c3
    have c3b2 : (l0.length == l1.length) = true := by first | simpa using c3 | (simp at c3 ⊢; omega)
    clear c3
    have H' := Aside0.mk H
    clear H
    go_enter Tryd.func67, Tryd.ntmps67
    go_wp2
    repeat (go_quiet (fail); try go_wp2)
    go_loopg [13] k (fun kq v13 w' => ∃ (x13_1 : Int), v13 = .int .i64 x13_1 ∧ Aside0 (impl_Leaf_67.l0 kq l0 l1 (l0.length : Int) x13_1 = some r) ∧ Aside0 (kq ≤ k) ∧ Drawn0 w w')
    case atStart => exact ⟨(0), (by first | rfl | (simp; done) | (simp [*]; done)), H', ⟨Nat.le_refl _⟩, by repeat (first | exact Drawn0.refl _ | apply Drawn0.step)⟩
    case round =>
      clear H'
      try clear c1
      try clear p2
      try clear c3
      try clear c3b0
      try clear c3b1
      try clear c3b2
      obtain ⟨x13_1, rfl, HA, HK1, ⟨m1, rfl⟩⟩ := hrel
      cases gk with
      | zero => exact absurd HA.out (by simp [impl_Leaf_67.l0])
      | succ k1 =>
        have H := HA.out
        clear HA
        simp only [impl_Leaf_67.l0] at H
        by_cases c4 : x13_1 < (l0.length : Int)
        · rw [if_pos c4] at H
          have c4b0 : decide (x13_1 < (l0.length : Int)) = true := decide_eq_true c4
          clear c4
          by_cases c5 : 0 ≤ x13_1
          · rw [if_pos c5] at H
            have c5b0 : decide (0 ≤ x13_1) = true := decide_eq_true c5
            clear c5
            by_cases c6 : x13_1 < (l0.length : Int)
            · rw [if_pos c6] at H
              have c6b0 : decide (x13_1 < (l0.length : Int)) = true := decide_eq_true c6
              clear c6
              by_cases c7 : x13_1 < (l1.length : Int)
              · rw [if_pos c7] at H
                have c7b0 : decide (x13_1 < (l1.length : Int)) = true := decide_eq_true c7
                clear c7
                by_cases c8 : (!(((rd_T39 l0 x13_1).f0) == ((rd_T39 l1 x13_1).f0)) || (!(((rd_T39 l0 x13_1).f1) == ((rd_T39 l1 x13_1).f1)) || (!(((rd_T39 l0 x13_1).f2) == ((rd_T39 l1 x13_1).f2)) || (!(((rd_T39 l0 x13_1).f3) == ((rd_T39 l1 x13_1).f3)))))) = true
                · rw [if_pos c8] at H
                  have c8b0 : (!(((rd_T39 l0 x13_1).f0) == ((rd_T39 l1 x13_1).f0)) || (!(((rd_T39 l0 x13_1).f1) == ((rd_T39 l1 x13_1).f1)) || (!(((rd_T39 l0 x13_1).f2) == ((rd_T39 l1 x13_1).f2)) || (!(((rd_T39 l0 x13_1).f3) == ((rd_T39 l1 x13_1).f3)))))) = true := c8
                  clear c8
                  obtain rfl := Option.some.inj H
                  have p416 : 0 ≤ (x13_1 : Int) := of_decide_eq_true (by first | (with_reducible assumption) | assumption)
                  have q416 : x13_1 < (l0.length : Int) := of_decide_eq_true (by first | (with_reducible assumption) | assumption)
                  obtain ⟨ad416, e416, hx416_0, hx416_1, hx416_2, hx416_3⟩ := at_T39 HR0.out x13_1 p416 q416
                  cases e416
                  replace p416 := eq_true p416
                  replace q416 := eq_true q416
                  have p417 : 0 ≤ (x13_1 : Int) := of_decide_eq_true (by first | (with_reducible assumption) | assumption)
                  have q417 : x13_1 < (l1.length : Int) := of_decide_eq_true (by first | (with_reducible assumption) | assumption)
                  obtain ⟨ad417, e417, hx417_0, hx417_1, hx417_2, hx417_3⟩ := at_T39 HR1.out x13_1 p417 q417
                  cases e417
                  replace p417 := eq_true p417
                  replace q417 := eq_true q417
                  go_wp2
                  repeat (go_quiet (fail); try go_wp2)
                  go_ret
                  exact ⟨by first | rfl | (simp only [Go.IntWalk.i64_left]; first | done | rfl) | (simp; done) | (simp [*]; done), by repeat (first | exact Drawn0.refl _ | apply Drawn0.step)⟩
                · rw [if_neg c8] at H
                  have c8b0 : (!(((rd_T39 l0 x13_1).f0) == ((rd_T39 l1 x13_1).f0)) || (!(((rd_T39 l0 x13_1).f1) == ((rd_T39 l1 x13_1).f1)) || (!(((rd_T39 l0 x13_1).f2) == ((rd_T39 l1 x13_1).f2)) || (!(((rd_T39 l0 x13_1).f3) == ((rd_T39 l1 x13_1).f3)))))) = false := by simpa using c8
                  clear c8
                  have H' := Aside0.mk H
                  clear H
                  have p416 : 0 ≤ (x13_1 : Int) := of_decide_eq_true (by first | (with_reducible assumption) | assumption)
                  have q416 : x13_1 < (l0.length : Int) := of_decide_eq_true (by first | (with_reducible assumption) | assumption)
                  obtain ⟨ad416, e416, hx416_0, hx416_1, hx416_2, hx416_3⟩ := at_T39 HR0.out x13_1 p416 q416
                  cases e416
                  replace p416 := eq_true p416
                  replace q416 := eq_true q416
                  have p417 : 0 ≤ (x13_1 : Int) := of_decide_eq_true (by first | (with_reducible assumption) | assumption)
                  have q417 : x13_1 < (l1.length : Int) := of_decide_eq_true (by first | (with_reducible assumption) | assumption)
                  obtain ⟨ad417, e417, hx417_0, hx417_1, hx417_2, hx417_3⟩ := at_T39 HR1.out x13_1 p417 q417
                  cases e417
                  replace p417 := eq_true p417
                  replace q417 := eq_true q417
                  go_wp2
                  repeat (go_quiet (fail); try go_wp2)
                  go_roundg k1
                  case measure => have := HK1.out; omega
                  case rel => exact ⟨(wrap64 (x13_1 + 1)), (by first | rfl | (simp; done) | (simp [*]; done)), H', ⟨by have := HK1.out; omega⟩, by repeat (first | exact Drawn0.refl _ | apply Drawn0.step)⟩
              · rw [if_neg c7] at H
                exact absurd H (by simp)
            · rw [if_neg c6] at H
              exact absurd H (by simp)
          · rw [if_neg c5] at H
            exact absurd H (by simp)
        · rw [if_neg c4] at H
          have c4b0 : decide (x13_1 < (l0.length : Int)) = false := decide_eq_false c4
          clear c4
          obtain rfl := Option.some.inj H
          go_wp2
          repeat (go_quiet (fail); try go_wp2)
          go_ret
          exact ⟨by first | rfl | (simp only [Go.IntWalk.i64_left]; first | done | rfl) | (simp; done) | (simp [*]; done), by repeat (first | exact Drawn0.refl _ | apply Drawn0.step)⟩
  · rw [if_neg c3] at H
    have c3b0 : ((l0.length : Int) == (l1.length : Int)) = false := beq_eq_false_iff_ne.mpr c3
    have c3b1 : ((l0.length : Int) != (l1.length : Int)) = true := bne_iff_ne.mpr c3
    have c3b2 : (l0.length == l1.length) = false := by first | simpa using c3 | (simp at c3 ⊢; omega)
    obtain rfl := Option.some.inj H
    go_enter Tryd.func67, Tryd.ntmps67
    go_wp2
    repeat (go_quiet (fail); try go_wp2)
    go_ret
    exact ⟨by first | rfl | (simp only [Go.IntWalk.i64_left]; first | done | rfl) | (simp; done) | (simp [*]; done), by repeat (first | exact Drawn0.refl _ | apply Drawn0.step)⟩

-- NOT PRINTED: function 66 (impl_FindScheme_1)


/-! ### impl_FindScheme -/
def fs_p (k : Nat) (a0 a1 : Int) (l : List S39) (s : ByteArray) (_ : ByteArray) : Option (Bool × ByteArray) := (impl_foldSheet.f k a0 a1 s).bind fun r => (impl_Leaf_67.f k r l).bind fun b => some (b, s)
def impl_FindScheme.f (k : Nat) (a0 a1 : Int) (l0 : List S39) : Option (ByteArray × Int) := (impl_isSheet.f a0 a1).bind fun b => if b = true then ((impl_halvings.f k a0).bind fun x => (impl_halvings.f k a1).bind fun y => if 0 ≤ x ∧ x ≤ 3 ∧ 0 ≤ y ∧ y ≤ 3 then ((runL (fs_p k a0 a1 l0) (schL (x.toNat + y.toNat) x.toNat y.toNat (⟨#[]⟩ : ByteArray)) (⟨#[]⟩ : ByteArray)).bind fun r => if r.1 = true then some (r.2, 0) else some ((⟨#[]⟩ : ByteArray), 4)) else none) else some ((⟨#[]⟩ : ByteArray), 1)
theorem fs_mono (k : Nat) (a0 a1 : Int) (l : List S39) (s t : ByteArray) : LeO (fs_p k a0 a1 l s t) (fs_p (k + 1) a0 a1 l s t) := LeO.bind (impl_foldSheet.mono _ _ _ _) (fun _ => LeO.bind (impl_Leaf_67.mono _ _ _) (fun _ => LeO.refl _))
theorem impl_FindScheme.mono : ∀ a0 a1 a2 k, LeO (impl_FindScheme.f k a0 a1 a2) (impl_FindScheme.f (k + 1) a0 a1 a2) := by
  intro a0 a1 a2 k
  unfold impl_FindScheme.f
  exact LeO.bind (LeO.refl _) (fun _ => LeO.ite (LeO.bind (impl_halvings.mono _ _) (fun _ => LeO.bind (impl_halvings.mono _ _) (fun _ => LeO.ite (LeO.bind (runL_mono (fun s t => fs_mono k a0 a1 a2 s t) _ _) (fun _ => LeO.refl _)) (LeO.refl _)))) (LeO.refl _))
def FSInv (w : World) (bf bw bh bl : Nat) (a0 a1 : Int) (v : Value) (F : Nat → Prop) (t : ByteArray) (W : World) : Prop := Below w.heap.size w W ∧ (∀ k, F k → k < W.heap.size ∧ k ≠ bf ∧ k ≠ bw ∧ k ≠ bh ∧ k ≠ bl) ∧ W.heap[bf]? = some (.cells #[.string t] 9 (0, 0)) ∧ W.heap[bw]? = some (.cells #[.int .i64 a0] 2 (0, 0)) ∧ W.heap[bh]? = some (.cells #[.int .i64 a1] 2 (0, 0)) ∧ W.heap[bl]? = some (.cells #[v] 27 (0, 0)) ∧ w.heap.size ≤ bf ∧ bw ≠ bf ∧ bh ≠ bf ∧ bl ≠ bf
theorem FSInv.below {w : World} {bf bw bh bl : Nat} {a0 a1 : Int} {v : Value} {F : Nat → Prop} {t : ByteArray} {W W' : World} (h : FSInv w bf bw bh bl a0 a1 v F t W) (hb : Below W.heap.size W W') : FSInv w bf bw bh bl a0 a1 v F t W' ∧ SKept F W W' := by
  obtain ⟨h1, h2, h3, h4, h5, h6, h7⟩ := h
  exact ⟨⟨h1.trans (hb.mono (below_size h1)), fun k hk => ⟨Nat.lt_of_lt_of_le (h2 k hk).1 (below_size hb), (h2 k hk).2⟩, (hb.block _ (sk_lt h3)).trans h3, (hb.block _ (sk_lt h4)).trans h4, (hb.block _ (sk_lt h5)).trans h5, (hb.block _ (sk_lt h6)).trans h6, h7⟩, below_size hb, fun k hk => hb.block k (h2 k hk).1⟩
theorem FSInv.put {w : World} {bf bw bh bl : Nat} {a0 a1 : Int} {v : Value} {F : Nat → Prop} {t : ByteArray} {W : World} (h : FSInv w bf bw bh bl a0 a1 v F t W) (s : ByteArray) : FSInv w bf bw bh bl a0 a1 v F s (W.setCell ⟨bf, 0, none⟩ (.string s)) ∧ SKept F W (W.setCell ⟨bf, 0, none⟩ (.string s)) := by
  obtain ⟨h1, h2, h3, h4, h5, h6, h7, n1, n2, n3⟩ := h
  exact ⟨⟨below_set h1 h7, fun k hk => ⟨by have := (h2 k hk).1; simpa using this, (h2 k hk).2⟩, blk_put h3 0 _ rfl, blk_far h4 n1 _, blk_far h5 n2 _, blk_far h6 n3 _, h7, n1, n2, n3⟩, by simp, fun k hk => Below.heap_setCell W ⟨bf, 0, none⟩ (.string s) k (h2 k hk).2.1⟩
theorem FSInv.iter {w : World} {bf bw bh bl : Nat} {a0 a1 : Int} {v : Value} {F : Nat → Prop} {t : ByteArray} {W : World} (s : ByteArray) (h : FSInv w bf bw bh bl a0 a1 v F t W) : FSInv w bf bw bh bl a0 a1 v (fun k => F k ∨ k = W.heap.size) t (W.alloc (.stringIter s 0)) := by
  obtain ⟨h1, h2, h3, h4, h5, h6, h7⟩ := h
  have l3 := sk_lt h3
  have l4 := sk_lt h4
  have l5 := sk_lt h5
  have l6 := sk_lt h6
  refine ⟨below_alloc h1 _, fun k hk => ?_, (Lib.alloc_old _ _ _ l3).trans h3, (Lib.alloc_old _ _ _ l4).trans h4, (Lib.alloc_old _ _ _ l5).trans h5, (Lib.alloc_old _ _ _ l6).trans h6, h7⟩
  rcases hk with hk | rfl
  · have := h2 k hk
    exact ⟨by simp; omega, this.2⟩
  · exact ⟨by simp, by omega, by omega, by omega, by omega⟩
theorem FSInv.step {w : World} {bf bw bh bl : Nat} {a0 a1 : Int} {v : Value} {F : Nat → Prop} {t : ByteArray} {W : World} {s : ByteArray} {q kI : Nat} (h : FSInv w bf bw bh bl a0 a1 v F t W) (hk : F kI) (hle : w.heap.size ≤ kI) : FSInv w bf bw bh bl a0 a1 v F t (W.iterAt kI s q) := by
  obtain ⟨h1, h2, h3, h4, h5, h6, h7⟩ := h
  obtain ⟨k1, k2, k3, k4, k5⟩ := h2 kI hk
  exact ⟨Lib.below_iterAt h1 hle _ _, fun k hk => by rw [Lib.iterAt_size]; exact h2 k hk, (Lib.iterAt_other _ _ _ _ _ (fun e => k2 e.symm)).trans h3, (Lib.iterAt_other _ _ _ _ _ (fun e => k3 e.symm)).trans h4, (Lib.iterAt_other _ _ _ _ _ (fun e => k4 e.symm)).trans h5, (Lib.iterAt_other _ _ _ _ _ (fun e => k5 e.symm)).trans h6, h7⟩

set_option maxHeartbeats 4000000 in
set_option maxRecDepth 100000 in
theorem fs_closure (k : Nat) (A : Option Addr) (c : Nat) (l0 : List S39) (a0 a1 : Int) (w : World) (hr : Kd.C k39 w A l0.length l0) (hc : l0.length ≤ c) (bf bw bh bl : Nat) (F : Nat → Prop) (t : ByteArray) (W : World) (s : ByteArray) (b : Bool) (y : ByteArray) (hI : FSInv w bf bw bh bl a0 a1 (.slice A l0.length c) F t W) (h : fs_p k a0 a1 l0 s t = some (b, y)) :
    Calls Tryd.prog 66 (#[.string s] ++ #[.pointer (some ⟨bf, 0, none⟩), .pointer (some ⟨bw, 0, none⟩), .pointer (some ⟨bh, 0, none⟩), .pointer (some ⟨bl, 0, none⟩)]) W fun e W' => e = .returned (.bool b) ∧ FSInv w bf bw bh bl a0 a1 (.slice A l0.length c) F y W' ∧ SKept F W W' := by
  show Calls Tryd.prog 66 #[.string s, .pointer (some ⟨bf, 0, none⟩), .pointer (some ⟨bw, 0, none⟩), .pointer (some ⟨bh, 0, none⟩), .pointer (some ⟨bl, 0, none⟩)] W _
  unfold fs_p at h
  obtain ⟨st, hs, h1⟩ := Option.bind_eq_some_iff.1 h
  obtain ⟨b', he, h2⟩ := Option.bind_eq_some_iff.1 h1
  injection h2 with h2
  injection h2 with h2 h3
  subst h2 h3
  have HS := Aside0.mk hs
  have HE := Aside0.mk he
  have HI := Aside0.mk hI
  have HQ := Aside0.mk hr
  have HQC := Aside0.mk hc
  have hf2 := Lib.frozen_of_heap hI.2.2.1 0
  have hc2 : W.cell? ⟨bf, 0, none⟩ = some (.string t) := (Lib.cell_of_heap hI.2.2.1 0).trans rfl
  clear h h1 hs he hI hr hc
  go_enter Tryd.func66, Tryd.ntmps66
  go_wp2_with fail
  have HI2 := Aside0.mk (FSInv.put HI.out s)
  clear hf2 hc2
  generalize W.setCell ⟨bf, 0, none⟩ (.string s) = w2 at HI2 ⊢
  refine start_ (n := 7) (S := fun w' => w'.cell? ⟨bw, 0, none⟩ = some (.int .i64 a0) ∧ w'.cell? ⟨bh, 0, none⟩ = some (.int .i64 a1) ∧ w'.cell? ⟨bl, 0, none⟩ = some (.slice A l0.length c)) (ds := []) #[false, false, false, false, false, false, false] (by kernel_rfl) rfl rfl ⟨(Lib.cell_of_heap HI2.out.1.2.2.2.1 0).trans rfl, (Lib.cell_of_heap HI2.out.1.2.2.2.2.1 0).trans rfl, (Lib.cell_of_heap HI2.out.1.2.2.2.2.2.1 0).trans rfl⟩ (fun hHeld => ?_)
  have HI3 := Aside0.mk (FSInv.below HI2.out.1 (below_drew1 (Below.refl _ _))).1
  have HT3 := Aside0.mk (HI2.out.2.trans (FSInv.below HI2.out.1 (below_drew1 (Below.refl _ _))).2)
  generalize w2.drew = w3 at HI3 HT3 hHeld ⊢
  refine pure_ (i := 2) (N := some 10) (v := ?_) (a' := ?_) #[false, false, true, false, false, false, false] rfl rfl (by kernel_rfl) (fun _ _ _ h => h) (Or.inl ⟨by rfl, ?_⟩) ?_ ?_
  rotate_left
  · intro w'
    go_simp
    with_reducible rfl
  rotate_left
  · simp only [Act.put, List.setIfInBounds_toArray, List.set_cons_zero, List.set_cons_succ, i64_w, i32_w]
    rfl
  refine take_ (i := 0) (N := some 8) (v := ?_) (a' := ?_) #[true, false, true, false, false, false, false] rfl rfl (by kernel_rfl) (fun _ _ _ h => h) (Or.inl ⟨by rfl, ?_⟩) hHeld ?_ ?_
  rotate_left
  · rintro w' ⟨s0, s1, s2⟩
    go_simp
    with_reducible rfl
  rotate_left
  · simp only [Act.put, List.setIfInBounds_toArray, List.set_cons_zero, List.set_cons_succ, i64_w, i32_w]
    rfl
  refine take_ (i := 1) (N := some 9) (v := ?_) (a' := ?_) #[true, true, true, false, false, false, false] rfl rfl (by kernel_rfl) (fun _ _ _ h => h) (Or.inl ⟨by rfl, ?_⟩) hHeld ?_ ?_
  rotate_left
  · rintro w' ⟨s0, s1, s2⟩
    go_simp
    with_reducible rfl
  rotate_left
  · simp only [Act.put, List.setIfInBounds_toArray, List.set_cons_zero, List.set_cons_succ, i64_w, i32_w]
    rfl
  refine take_ (i := 4) (N := some 12) (v := ?_) (a' := ?_) #[true, true, true, false, true, false, false] rfl rfl (by kernel_rfl) (fun _ _ _ h => h) (Or.inl ⟨by rfl, ?_⟩) hHeld ?_ ?_
  rotate_left
  · rintro w' ⟨s0, s1, s2⟩
    go_simp
    with_reducible rfl
  rotate_left
  · simp only [Act.put, List.setIfInBounds_toArray, List.set_cons_zero, List.set_cons_succ, i64_w, i32_w]
    rfl
  refine one_ (i := 3) (N := some 11) #[true, true, true, true, true, false, false] rfl rfl (by kernel_rfl) (by decide) (fun K hK => ?_)
  refine goes_ Tryd.func49 (by kernel_rfl) rfl #[.int .i64 a0, .int .i64 a1, .string s] (by rfl) rfl rfl (by (try simp only [List.map_toArray, List.map_cons, List.map_nil]); first | done | rfl) ?_
  with_reducible refine (impl_foldSheet.calls k a0 a1 s st _ HS.out).mono ?_
  rintro e w4 ⟨v11, rfl, ho0, hb⟩
  obtain ⟨A11, c11, rfl⟩ := Kd.R_slice ho0
  have HI4 := Aside0.mk (FSInv.below HI3.out hb)
  have HR4 := Aside0.mk (Kd.R_reads' ho0).2
  have HS0_ := (hb.cell (World.block_lt_of_cell? _ _ hHeld.1)).trans hHeld.1
  have HS1_ := (hb.cell (World.block_lt_of_cell? _ _ hHeld.2.1)).trans hHeld.2.1
  have HS2_ := (hb.cell (World.block_lt_of_cell? _ _ hHeld.2.2)).trans hHeld.2.2
  have HQ4 := Aside0.mk (Kd.C_below HQ.out HI4.out.1.1)
  clear hb ho0
  refine ⟨_, rfl, ?_⟩
  refine hK.out _ _ ⟨HS0_, HS1_, HS2_⟩ (fun hHeld => ?_)
  clear HS0_ HS1_ HS2_
  clear hK K
  refine norm_ (a' := ?_) ?_ ?_
  rotate_left
  · show Act.put _ (some 11) _ = _
    simp only [Act.put, List.setIfInBounds_toArray, List.set_cons_zero, List.set_cons_succ, i64_w, i32_w]
    rfl
  refine one_ (i := 5) (N := some 13) #[true, true, true, true, true, true, false] rfl rfl (by kernel_rfl) (by decide) (fun K hK => ?_)
  refine goes_ Tryd.func67 (by kernel_rfl) rfl #[.slice A11 st.length c11, .slice A l0.length c] (by rfl) rfl rfl (by (try simp only [List.map_toArray, List.map_cons, List.map_nil]); first | done | rfl) ?_
  with_reducible refine (impl_Leaf_67.calls k A11 c11 st A c l0 b' _ HR4.out.2 HR4.out.1 HQ4.out HQC.out HE.out).mono ?_
  rintro e w5 ⟨rfl, ⟨nd, rfl⟩⟩
  refine ⟨_, rfl, ?_⟩
  refine hK.out _ _ hHeld (fun hHeld => ?_)
  clear hK K
  refine norm_ (a' := ?_) ?_ ?_
  rotate_left
  · show Act.put _ (some 13) _ = _
    simp only [Act.put, List.setIfInBounds_toArray, List.set_cons_zero, List.set_cons_succ, i64_w, i32_w]
    rfl
  refine pure_ (i := 6) (N := some 6) (v := ?_) (a' := ?_) #[true, true, true, true, true, true, true] rfl rfl (by kernel_rfl) (fun _ _ _ h => h) (Or.inl ⟨by rfl, ?_⟩) ?_ ?_
  rotate_left
  · intro w'
    go_simp
    with_reducible rfl
  rotate_left
  · simp only [Act.put, List.setIfInBounds_toArray, List.set_cons_zero, List.set_cons_succ, i64_w, i32_w]
    rfl
  refine done_ (by kernel_rfl) ?_
  go_wp2
  go_ret
  have hd := FSInv.below HI4.out.1 (pw_below_drewN (Below.refl _ _) nd)
  exact ⟨rfl, hd.1, HT3.out.trans (HI4.out.2.trans hd.2)⟩
theorem fs_box {w : World} {a b c : Value} {t u : TypeId} : Below w.heap.size w (((w.alloc (.cells #[a] t)).alloc (.cells #[b] t)).alloc (.cells #[c] u)) ∧ (((w.alloc (.cells #[a] t)).alloc (.cells #[b] t)).alloc (.cells #[c] u)).heap[w.heap.size]? = some (.cells #[a] t (0, 0)) ∧ (((w.alloc (.cells #[a] t)).alloc (.cells #[b] t)).alloc (.cells #[c] u)).heap[w.heap.size + 1]? = some (.cells #[b] t (0, 0)) ∧ (((w.alloc (.cells #[a] t)).alloc (.cells #[b] t)).alloc (.cells #[c] u)).heap[w.heap.size + 1 + 1]? = some (.cells #[c] u (0, 0)) ∧ (((w.alloc (.cells #[a] t)).alloc (.cells #[b] t)).alloc (.cells #[c] u)).heap.size = w.heap.size + 3 := by
  have z1 : (w.alloc (.cells #[a] t)).heap.size = w.heap.size + 1 := by simp
  have z2 : ((w.alloc (.cells #[a] t)).alloc (.cells #[b] t)).heap.size = w.heap.size + 2 := by simp
  refine ⟨below_alloc (below_alloc (below_alloc (Below.refl _ _) _) _) _, ?_, ?_, ?_, by simp⟩
  · exact (Lib.alloc_old ((w.alloc (.cells #[a] t)).alloc (.cells #[b] t)) (.cells #[c] u) _ (by omega)).trans ((Lib.alloc_old (w.alloc (.cells #[a] t)) (.cells #[b] t) _ (by omega)).trans (heap_alloc_new _ _))
  · refine (Lib.alloc_old ((w.alloc (.cells #[a] t)).alloc (.cells #[b] t)) (.cells #[c] u) _ (by omega)).trans ?_
    have := heap_alloc_new (w.alloc (.cells #[a] t)) (.cells #[b] t)
    rw [z1] at this
    exact this
  · have := heap_alloc_new ((w.alloc (.cells #[a] t)).alloc (.cells #[b] t)) (.cells #[c] u)
    rw [z2] at this
    exact this
set_option maxHeartbeats 8000000 in
set_option maxRecDepth 100000 in
theorem impl_FindScheme.calls (k : Nat) (a0 a1 : Int) (A0 : Option Addr) (c0 : Nat) (l0 : List (S39)) (r1 : ByteArray) (r2 : Int) (w : World) (hr0 : Kd.C k39 w A0 l0.length l0) (hc0 : l0.length ≤ c0) (h : impl_FindScheme.f k a0 a1 l0 = some (r1, r2)) :
    Calls Tryd.prog 32 #[.int .i64 a0, .int .i64 a1, .slice A0 l0.length c0] w fun e w' => e = .returned (.tuple #[.string r1, .int .i64 r2]) ∧ Below w.heap.size w w' := by
  unfold impl_FindScheme.f at h
  obtain ⟨t, ht, h0⟩ := Option.bind_eq_some_iff.1 h
  clear h
  have h := h0
  clear h0
  have HT := Aside0.mk ht
  have HR := Aside0.mk hr0
  have HC := Aside0.mk hc0
  obtain ⟨b1, b2, b3, b4, b5⟩ := fs_box (w := w) (a := .int .i64 a0) (b := .int .i64 a1) (c := .slice A0 l0.length c0) (t := 2) (u := 27)
  have B1 := Aside0.mk b1
  have B2 := Aside0.mk b2
  have B3 := Aside0.mk b3
  have B4 := Aside0.mk b4
  have B5 := Aside0.mk b5
  clear ht hr0 hc0 b1 b2 b3 b4 b5
  obtain ⟨g, hg⟩ : ∃ g : Nat, w.heap.size = g := ⟨_, rfl⟩
  have HG := Aside0.mk hg
  rw [hg] at B2 B3 B4 B5
  have hmf : ∀ (fn : Fn) (first cap : Array Value) (w : World), (Instr.makeFunc fn first cap).run Tryd.prog w = .ok (.func fn first cap) w := fun _ _ _ _ => rfl
  cases t with
  | false =>
    rw [if_neg (by simp)] at h
    injection h with h
    injection h with e1 e2
    subst e1 e2
    go_enter Tryd.func32, Tryd.ntmps32
    go_upto_region 1 with (fail)
    clear hg
    generalize ((w.alloc (.cells #[.int .i64 a0] 2)).alloc (.cells #[.int .i64 a1] 2)).alloc (.cells #[.slice A0 l0.length c0] 27) = w0 at B1 B2 B3 B4 B5 ⊢
    have q1 : w0.cell? ⟨g, 0, none⟩ = some (.int .i64 a0) := (blk_cell B2.out 0).trans rfl
    have q2 : w0.cell? ⟨g + 1, 0, none⟩ = some (.int .i64 a1) := (blk_cell B3.out 0).trans rfl
    go_wp2_with (go_at_call 41; (with_reducible refine (impl_isSheet.calls a0 a1 false _ HT.out).mono ?_); rintro e w1 ⟨rfl, ⟨nd, rfl⟩⟩)
    go_ret2
    exact ⟨rfl, by first | exact pw_below_drewN B1.out _ | (have h_ := pw_below_drewN B1.out nd; rw [HG.out] at h_; exact h_)⟩
  | true =>
    rw [if_pos rfl] at h
    obtain ⟨x, hx, h2⟩ := Option.bind_eq_some_iff.1 h
    clear h
    obtain ⟨y, hy, h⟩ := Option.bind_eq_some_iff.1 h2
    clear h2
    by_cases hc : 0 ≤ x ∧ x ≤ 3 ∧ 0 ≤ y ∧ y ≤ 3
    · rw [if_pos hc] at h
      obtain ⟨p, rfl⟩ := Int.eq_ofNat_of_zero_le hc.1
      obtain ⟨q, rfl⟩ := Int.eq_ofNat_of_zero_le hc.2.2.1
      simp only [Int.toNat_natCast] at h hc
      obtain ⟨⟨b, t⟩, hrun, h3⟩ := Option.bind_eq_some_iff.1 h
      have HX := Aside0.mk hx
      have HY := Aside0.mk hy
      have HCC := Aside0.mk hc
      have HRUN := Aside0.mk hrun
      have HF := Aside0.mk h3
      clear hx hy hc h hrun h3
      go_enter Tryd.func32, Tryd.ntmps32
      go_upto_region 1 with (fail)
      clear hg
      generalize ((w.alloc (.cells #[.int .i64 a0] 2)).alloc (.cells #[.int .i64 a1] 2)).alloc (.cells #[.slice A0 l0.length c0] 27) = w0 at B1 B2 B3 B4 B5 ⊢
      have q1 : w0.cell? ⟨g, 0, none⟩ = some (.int .i64 a0) := (blk_cell B2.out 0).trans rfl
      have q2 : w0.cell? ⟨g + 1, 0, none⟩ = some (.int .i64 a1) := (blk_cell B3.out 0).trans rfl
      go_wp2_with (first | (go_at_call 41; (with_reducible refine (impl_isSheet.calls a0 a1 true _ HT.out).mono ?_); rintro e w1 ⟨rfl, ⟨nd, rfl⟩⟩) | ((with_reducible refine gate_dst (N := 8) rfl ?_); refine box_event ?hg (N := 8) ?hd (cs := #[.string (⟨#[]⟩ : ByteArray)]) (t := 9) ?hr ?_; (case hd => rfl); (case hg => rfl); (case hr => first | (go_simp; done) | (go_simp; rfl)); intro gb hgb w10 hbox hbb; have HBX := Aside0.mk hbox; have HBB := Aside0.mk hbb; have HGB := Aside0.mk hgb; have hcz : w10.cell? ⟨gb, 0, none⟩ = some (.string (⟨#[]⟩ : ByteArray)) := (blk_cell hbox 0).trans rfl; have hfz := blk_frozen hbox 0; clear hbb hbox hgb))
      have hgb2 : gb = w0.heap.size := HGB.out
      have hB10 : Below w.heap.size w w10 := below_step (pw_below_drewN B1.out nd) HBB.out
      have z3 := B5.out
      have zg := HG.out
      have HI0 := Aside0.mk (show FSInv w gb g (g + 1) (g + 1 + 1) a0 a1 (.slice A0 l0.length c0) (fun _ => False) (⟨#[]⟩ : ByteArray) w10 from ⟨hB10, fun k hk => hk.elim, HBX.out, (HBB.out.block _ (blk_lt B2.out)).trans B2.out, (HBB.out.block _ (blk_lt B3.out)).trans B3.out, (HBB.out.block _ (blk_lt B4.out)).trans B4.out, by omega, by omega, by omega, by omega⟩)
      have HI1 := Aside0.mk (FSInv.put HI0.out (⟨#[]⟩ : ByteArray)).1
      clear hgb2 hB10 z3 zg HI0 hcz hfz q1 q2
      generalize w10.setCell ⟨gb, 0, none⟩ (.string (⟨#[]⟩ : ByteArray)) = w11 at HI1 ⊢
      refine start_ (n := 7) (S := fun w' => w'.cell? ⟨g, 0, none⟩ = some (.int .i64 a0) ∧ w'.cell? ⟨g + 1, 0, none⟩ = some (.int .i64 a1)) (ds := []) #[false, false, false, false, false, false, false] (by kernel_rfl) rfl rfl ⟨(Lib.cell_of_heap HI1.out.2.2.2.1 0).trans rfl, (Lib.cell_of_heap HI1.out.2.2.2.2.1 0).trans rfl⟩ (fun hHeld => ?_)
      have HI2 := Aside0.mk (FSInv.below HI1.out (below_drew1 (Below.refl _ _))).1
      generalize w11.drew = w12 at HI2 hHeld ⊢
      refine pure_ (i := 4) (N := some 17) (v := ?_) (a' := ?_) #[false, false, false, false, true, false, false] rfl rfl (by kernel_rfl) (fun _ _ _ h => h) (Or.inl ⟨by rfl, ?_⟩) ?_ ?_
      rotate_left
      · intro w'
        go_simp
        with_reducible rfl
      rotate_left
      · simp only [Act.put, List.setIfInBounds_toArray, List.set_cons_zero, List.set_cons_succ, i64_w, i32_w]
        rfl
      refine take_ (i := 0) (N := some 13) (v := ?_) (a' := ?_) #[true, false, false, false, true, false, false] rfl rfl (by kernel_rfl) (fun _ _ _ h => h) (Or.inl ⟨by rfl, ?_⟩) hHeld ?_ ?_
      rotate_left
      · rintro w' ⟨s0, s1⟩
        go_simp
        with_reducible rfl
      rotate_left
      · simp only [Act.put, List.setIfInBounds_toArray, List.set_cons_zero, List.set_cons_succ, i64_w, i32_w]
        rfl
      refine take_ (i := 2) (N := some 15) (v := ?_) (a' := ?_) #[true, false, true, false, true, false, false] rfl rfl (by kernel_rfl) (fun _ _ _ h => h) (Or.inl ⟨by rfl, ?_⟩) hHeld ?_ ?_
      rotate_left
      · rintro w' ⟨s0, s1⟩
        go_simp
        with_reducible rfl
      rotate_left
      · simp only [Act.put, List.setIfInBounds_toArray, List.set_cons_zero, List.set_cons_succ, i64_w, i32_w]
        rfl
      refine one_ (i := 1) (N := some 14) #[true, true, true, false, true, false, false] rfl rfl (by kernel_rfl) (by decide) (fun K hK => ?_)
      refine goes_ Tryd.func44 (by kernel_rfl) rfl #[.int .i64 a0] (by rfl) rfl rfl (by (try simp only [List.map_toArray, List.map_cons, List.map_nil]); first | done | rfl) ?_
      with_reducible refine (impl_halvings.calls k a0 (p : Int) _ HX.out).mono ?_
      rintro e w_ ⟨rfl, ⟨nd14, rfl⟩⟩
      have HI3 := Aside0.mk (FSInv.below HI2.out (pw_below_drewN (Below.refl _ _) nd14)).1
      refine ⟨_, rfl, ?_⟩
      refine hK.out _ _ hHeld (fun hHeld => ?_)
      clear hK K
      refine norm_ (a' := ?_) ?_ ?_
      rotate_left
      · show Act.put _ (some 14) _ = _
        simp only [Act.put, List.setIfInBounds_toArray, List.set_cons_zero, List.set_cons_succ, i64_w, i32_w]
        rfl
      refine one_ (i := 3) (N := some 16) #[true, true, true, true, true, false, false] rfl rfl (by kernel_rfl) (by decide) (fun K hK => ?_)
      refine goes_ Tryd.func44 (by kernel_rfl) rfl #[.int .i64 a1] (by rfl) rfl rfl (by (try simp only [List.map_toArray, List.map_cons, List.map_nil]); first | done | rfl) ?_
      with_reducible refine (impl_halvings.calls k a1 (q : Int) _ HY.out).mono ?_
      rintro e w_ ⟨rfl, ⟨nd16, rfl⟩⟩
      have HI4 := Aside0.mk (FSInv.below HI3.out (pw_below_drewN (Below.refl _ _) nd16)).1
      refine ⟨_, rfl, ?_⟩
      refine hK.out _ _ hHeld (fun hHeld => ?_)
      clear hK K
      refine norm_ (a' := ?_) ?_ ?_
      rotate_left
      · show Act.put _ (some 16) _ = _
        simp only [Act.put, List.setIfInBounds_toArray, List.set_cons_zero, List.set_cons_succ, i64_w, i32_w]
        rfl
      refine one_ (i := 5) (N := some 18) #[true, true, true, true, true, true, false] rfl rfl (by kernel_rfl) (by decide) (fun K hK => ?_)
      refine goes_ Tryd.func61 (by kernel_rfl) rfl #[.int .i64 (p : Int), .int .i64 (q : Int), .string (⟨#[]⟩ : ByteArray), .func (.func 66) #[] #[.pointer (some ⟨gb, 0, none⟩), .pointer (some ⟨g, 0, none⟩), .pointer (some ⟨g + 1, 0, none⟩), .pointer (some ⟨g + 1 + 1, 0, none⟩)]] (by rfl) rfl rfl (by (try simp only [List.map_toArray, List.map_cons, List.map_nil]); first | done | rfl) ?_
      refine (sc_calls (CF := 66) #[.pointer (some ⟨gb, 0, none⟩), .pointer (some ⟨g, 0, none⟩), .pointer (some ⟨g + 1, 0, none⟩), .pointer (some ⟨g + 1 + 1, 0, none⟩)] (fs_p k a0 a1 l0) (FSInv w gb g (g + 1) (g + 1 + 1) a0 a1 (.slice A0 l0.length c0)) w Tryd.func66 (by kernel_rfl) rfl (fun F x W h => ⟨below_size h.1, fun k hk => (h.2.1 k hk).1⟩) (fun F x W s h => FSInv.iter s h) (fun F x W s p q kI h hk _ hl => FSInv.step h hk hl) (fun F F' x W h hs => ⟨h.1, fun k hk => h.2.1 k (hs k hk), h.2.2⟩) (fun F x W s b y h hp => fs_closure k A0 c0 l0 a0 a1 w HR.out HC.out gb g (g + 1) (g + 1 + 1) F x W s b y h hp) (p + q) p q (⟨#[]⟩ : ByteArray) (⟨#[]⟩ : ByteArray) t b (fun _ => False) _ rfl (by have := HCC.out; show 0 + (p + q) ≤ 100; omega) HI4.out HRUN.out).mono ?_
      rintro e w18 ⟨rfl, hI5, _⟩
      have HI5 := Aside0.mk hI5
      refine ⟨_, rfl, ?_⟩
      refine hK.out _ _ ⟨(Lib.cell_of_heap hI5.2.2.2.1 0).trans rfl, (Lib.cell_of_heap hI5.2.2.2.2.1 0).trans rfl⟩ (fun hHeld => ?_)
      clear hI5
      clear hK K
      refine norm_ (a' := ?_) ?_ ?_
      rotate_left
      · show Act.put _ (some 18) _ = _
        simp only [Act.put, List.setIfInBounds_toArray, List.set_cons_zero, List.set_cons_succ, i64_w, i32_w]
        rfl
      refine pure_ (i := 6) (N := some 19) (v := ?_) (a' := ?_) #[true, true, true, true, true, true, true] rfl rfl (by kernel_rfl) (fun _ _ _ h => h) (Or.inl ⟨by rfl, ?_⟩) ?_ ?_
      rotate_left
      · intro w'
        go_simp
        with_reducible rfl
      rotate_left
      · simp only [Act.put, List.setIfInBounds_toArray, List.set_cons_zero, List.set_cons_succ, i64_w, i32_w]
        rfl
      refine done_ (by kernel_rfl) ?_
      have hc8 : w18.cell? ⟨gb, 0, none⟩ = some (.string t) := (Lib.cell_of_heap HI5.out.2.2.1 0).trans rfl
      have h3 := HF.out
      clear HF
      cases b with
      | true =>
        rw [if_pos rfl] at h3
        injection h3 with h3
        injection h3 with e1 e2
        subst e1 e2
        go_wp2
        go_ret2
        exact ⟨rfl, by first | exact HI5.out.1 | (have h_ := HI5.out.1; rw [HG.out] at h_; exact h_)⟩
      | false =>
        rw [if_neg (by simp)] at h3
        injection h3 with h3
        injection h3 with e1 e2
        subst e1 e2
        go_wp2
        go_ret2
        exact ⟨rfl, by first | exact HI5.out.1 | (have h_ := HI5.out.1; rw [HG.out] at h_; exact h_)⟩
    · rw [if_neg hc] at h; cases h

/-! ### spec_l04Same: function 68 -/
def spec_l04Same.l0 : Nat → List (S39) → List (S39) → Int → Option (Bool)
  | 0, _, _, _ => none
  | k + 1, x0, x1, x5 => if x5 < (x0.length : Int) then (if 0 ≤ x5 then (if x5 < (x1.length : Int) then (if (!(((rd_T39 x0 x5).f0) == ((rd_T39 x1 x5).f0)) || (!(((rd_T39 x0 x5).f1) == ((rd_T39 x1 x5).f1)) || (!(((rd_T39 x0 x5).f2) == ((rd_T39 x1 x5).f2)) || (!(((rd_T39 x0 x5).f3) == ((rd_T39 x1 x5).f3)))))) = true then (some false) else (spec_l04Same.l0 k x0 x1 (wrap64 (x5 + 1)))) else (none)) else (none)) else (some true)
def spec_l04Same.f (k : Nat) (l0 : List (S39)) (l1 : List (S39)) : Option (Bool) := if (l0.length : Int) = (l1.length : Int) then (spec_l04Same.l0 k l0 l1 0) else (some false)
theorem spec_l04Same.mono_l : ∀ k, (∀ y0 y1 y2, LeO (spec_l04Same.l0 k y0 y1 y2) (spec_l04Same.l0 (k + 1) y0 y1 y2))
  | 0 => fun _ _ _ r h => by simp [spec_l04Same.l0] at h
  | k + 1 => by
    have ih0 := spec_l04Same.mono_l k
    · intro y0 y1 y2
      unfold spec_l04Same.l0
      repeat' first
      | (with_reducible exact ih0 _ _ _)
      | (with_reducible exact LeO.refl _)
      | (with_reducible exact LeO.none _)
      | (with_reducible refine LeO.ite ?_ ?_)
      | (with_reducible refine LeO.bind ?_ (fun _ => ?_))
      | exact ih0 _ _ _
      | exact LeO.none _
      | refine LeO.ite ?_ ?_
      | refine LeO.bind ?_ (fun _ => ?_)
theorem spec_l04Same.mono : ∀ a0 a1 k, LeO (spec_l04Same.f k a0 a1) (spec_l04Same.f (k + 1) a0 a1) := by
  intro a0 a1 k
  have ih0 := spec_l04Same.mono_l k
  unfold spec_l04Same.f
  repeat' first
      | (with_reducible exact ih0 _ _ _)
      | (with_reducible exact LeO.refl _)
      | (with_reducible exact LeO.none _)
      | (with_reducible refine LeO.ite ?_ ?_)
      | (with_reducible refine LeO.bind ?_ (fun _ => ?_))
      | exact ih0 _ _ _
      | exact LeO.none _
      | refine LeO.ite ?_ ?_
      | refine LeO.bind ?_ (fun _ => ?_)
set_option maxHeartbeats 8000000 in
set_option maxRecDepth 100000 in
theorem spec_l04Same.calls (k : Nat) (A0 : Option Addr) (c0 : Nat) (l0 : List (S39)) (A1 : Option Addr) (c1 : Nat) (l1 : List (S39)) (r : Bool) (w : World) (hr0 : Kd.C k39 w A0 l0.length l0) (hc0 : l0.length ≤ c0) (hr1 : Kd.C k39 w A1 l1.length l1) (hc1 : l1.length ≤ c1) (h : spec_l04Same.f k l0 l1 = some r) :
    Calls Tryd.prog 68 #[.slice A0 l0.length c0, .slice A1 l1.length c1] w fun e w' => e = .returned (.bool r) ∧ Drawn0 w w' := by
  have hu39 := Tryd.underlying39
  have HR0 := Aside0.mk hr0
  have HC0 := Aside0.mk hc0
  clear hr0 hc0
  have HR1 := Aside0.mk hr1
  have HC1 := Aside0.mk hc1
  clear hr1 hc1
  have H : (if (l0.length : Int) = (l1.length : Int) then (spec_l04Same.l0 k l0 l1 0) else (some false)) = some r := h
  clear h
  by_cases c3 : (l0.length : Int) = (l1.length : Int)
  · rw [if_pos c3] at H
    have c3b0 : ((l0.length : Int) == (l1.length : Int)) = true := beq_iff_eq.mpr c3
    have c3b1 : ((l0.length : Int) != (l1.length : Int)) = false := bne_eq_false_iff_eq.mpr c3
    have c3b2 : (l0.length == l1.length) = true := by first | simpa using c3 | (simp at c3 ⊢; omega)
    clear c3
    have H' := Aside0.mk H
    clear H
    go_enter Tryd.func68, Tryd.ntmps68
    go_wp2
    repeat (go_quiet (fail); try go_wp2)
    go_loopg [5] k (fun kq v5 w' => ∃ (x5_1 : Int), v5 = .int .i64 x5_1 ∧ Aside0 (spec_l04Same.l0 kq l0 l1 x5_1 = some r) ∧ Aside0 (kq ≤ k) ∧ Drawn0 w w')
    case atStart => exact ⟨(0), (by first | rfl | (simp; done) | (simp [*]; done)), H', ⟨Nat.le_refl _⟩, by repeat (first | exact Drawn0.refl _ | apply Drawn0.step)⟩
    case round =>
      clear H'
      try clear c1
      try clear p2
      try clear c3
      try clear c3b0
      try clear c3b1
      try clear c3b2
      obtain ⟨x5_1, rfl, HA, HK1, ⟨m1, rfl⟩⟩ := hrel
      cases gk with
      | zero => exact absurd HA.out (by simp [spec_l04Same.l0])
      | succ k1 =>
        have H := HA.out
        clear HA
        simp only [spec_l04Same.l0] at H
        by_cases c4 : x5_1 < (l0.length : Int)
        · rw [if_pos c4] at H
          have c4b0 : decide (x5_1 < (l0.length : Int)) = true := decide_eq_true c4
          clear c4
          by_cases c5 : 0 ≤ x5_1
          · rw [if_pos c5] at H
            have c5b0 : decide (0 ≤ x5_1) = true := decide_eq_true c5
            clear c5
            by_cases c6 : x5_1 < (l1.length : Int)
            · rw [if_pos c6] at H
              have c6b0 : decide (x5_1 < (l1.length : Int)) = true := decide_eq_true c6
              clear c6
              by_cases c7 : (!(((rd_T39 l0 x5_1).f0) == ((rd_T39 l1 x5_1).f0)) || (!(((rd_T39 l0 x5_1).f1) == ((rd_T39 l1 x5_1).f1)) || (!(((rd_T39 l0 x5_1).f2) == ((rd_T39 l1 x5_1).f2)) || (!(((rd_T39 l0 x5_1).f3) == ((rd_T39 l1 x5_1).f3)))))) = true
              · rw [if_pos c7] at H
                have c7b0 : (!(((rd_T39 l0 x5_1).f0) == ((rd_T39 l1 x5_1).f0)) || (!(((rd_T39 l0 x5_1).f1) == ((rd_T39 l1 x5_1).f1)) || (!(((rd_T39 l0 x5_1).f2) == ((rd_T39 l1 x5_1).f2)) || (!(((rd_T39 l0 x5_1).f3) == ((rd_T39 l1 x5_1).f3)))))) = true := c7
                clear c7
                obtain rfl := Option.some.inj H
                have p418 : 0 ≤ (x5_1 : Int) := of_decide_eq_true (by first | (with_reducible assumption) | assumption)
                have q418 : x5_1 < (l0.length : Int) := of_decide_eq_true (by first | (with_reducible assumption) | assumption)
                obtain ⟨ad418, e418, hx418_0, hx418_1, hx418_2, hx418_3⟩ := at_T39 HR0.out x5_1 p418 q418
                cases e418
                replace p418 := eq_true p418
                replace q418 := eq_true q418
                have p419 : 0 ≤ (x5_1 : Int) := of_decide_eq_true (by first | (with_reducible assumption) | assumption)
                have q419 : x5_1 < (l1.length : Int) := of_decide_eq_true (by first | (with_reducible assumption) | assumption)
                obtain ⟨ad419, e419, hx419_0, hx419_1, hx419_2, hx419_3⟩ := at_T39 HR1.out x5_1 p419 q419
                cases e419
                replace p419 := eq_true p419
                replace q419 := eq_true q419
                go_wp2
                repeat (go_quiet (fail); try go_wp2)
                go_ret
                exact ⟨by first | rfl | (simp only [Go.IntWalk.i64_left]; first | done | rfl) | (simp; done) | (simp [*]; done), by repeat (first | exact Drawn0.refl _ | apply Drawn0.step)⟩
              · rw [if_neg c7] at H
                have c7b0 : (!(((rd_T39 l0 x5_1).f0) == ((rd_T39 l1 x5_1).f0)) || (!(((rd_T39 l0 x5_1).f1) == ((rd_T39 l1 x5_1).f1)) || (!(((rd_T39 l0 x5_1).f2) == ((rd_T39 l1 x5_1).f2)) || (!(((rd_T39 l0 x5_1).f3) == ((rd_T39 l1 x5_1).f3)))))) = false := by simpa using c7
                clear c7
                have H' := Aside0.mk H
                clear H
                have p418 : 0 ≤ (x5_1 : Int) := of_decide_eq_true (by first | (with_reducible assumption) | assumption)
                have q418 : x5_1 < (l0.length : Int) := of_decide_eq_true (by first | (with_reducible assumption) | assumption)
                obtain ⟨ad418, e418, hx418_0, hx418_1, hx418_2, hx418_3⟩ := at_T39 HR0.out x5_1 p418 q418
                cases e418
                replace p418 := eq_true p418
                replace q418 := eq_true q418
                have p419 : 0 ≤ (x5_1 : Int) := of_decide_eq_true (by first | (with_reducible assumption) | assumption)
                have q419 : x5_1 < (l1.length : Int) := of_decide_eq_true (by first | (with_reducible assumption) | assumption)
                obtain ⟨ad419, e419, hx419_0, hx419_1, hx419_2, hx419_3⟩ := at_T39 HR1.out x5_1 p419 q419
                cases e419
                replace p419 := eq_true p419
                replace q419 := eq_true q419
                go_wp2
                repeat (go_quiet (fail); try go_wp2)
                go_roundg k1
                case measure => have := HK1.out; omega
                case rel => exact ⟨(wrap64 (x5_1 + 1)), (by first | rfl | (simp; done) | (simp [*]; done)), H', ⟨by have := HK1.out; omega⟩, by repeat (first | exact Drawn0.refl _ | apply Drawn0.step)⟩
            · rw [if_neg c6] at H
              exact absurd H (by simp)
          · rw [if_neg c5] at H
            exact absurd H (by simp)
        · rw [if_neg c4] at H
          have c4b0 : decide (x5_1 < (l0.length : Int)) = false := decide_eq_false c4
          clear c4
          obtain rfl := Option.some.inj H
          go_wp2
          repeat (go_quiet (fail); try go_wp2)
          go_ret
          exact ⟨by first | rfl | (simp only [Go.IntWalk.i64_left]; first | done | rfl) | (simp; done) | (simp [*]; done), by repeat (first | exact Drawn0.refl _ | apply Drawn0.step)⟩
  · rw [if_neg c3] at H
    have c3b0 : ((l0.length : Int) == (l1.length : Int)) = false := beq_eq_false_iff_ne.mpr c3
    have c3b1 : ((l0.length : Int) != (l1.length : Int)) = true := bne_iff_ne.mpr c3
    have c3b2 : (l0.length == l1.length) = false := by first | simpa using c3 | (simp at c3 ⊢; omega)
    obtain rfl := Option.some.inj H
    go_enter Tryd.func68, Tryd.ntmps68
    go_wp2
    repeat (go_quiet (fail); try go_wp2)
    go_ret
    exact ⟨by first | rfl | (simp only [Go.IntWalk.i64_left]; first | done | rfl) | (simp; done) | (simp [*]; done), by repeat (first | exact Drawn0.refl _ | apply Drawn0.step)⟩

/-! ### spec_FindScheme: function 33 -/
def spec_FindScheme.l0 : Nat → Int → Int → List (S39) → List ByteArray → Int → Option (ByteArray × Int)
  | 0, _, _, _, _, _ => none
  | k + 1, x0, x1, x2, x8, x9 => if x9 < (x8.length : Int) then (if 0 ≤ x9 then ((spec_l04Leaves.f k x0 x1 (rdOf ByteArray.empty x8 x9)).bind fun t425 => ((spec_l04Same.f k t425 x2).bind fun t428 => (if t428 = true then (some (rdOf ByteArray.empty x8 x9, 0)) else (spec_FindScheme.l0 k x0 x1 x2 x8 (wrap64 (x9 + 1)))))) else (none)) else (some ((⟨#[]⟩ : ByteArray), 4))
def spec_FindScheme.f (k : Nat) (a0 : Int) (a1 : Int) (l2 : List (S39)) : Option (ByteArray × Int) := (spec_l04Sheet.f a0 a1).bind fun t420 => (if t420 = true then ((spec_l04All.f k a0 a1).bind fun t421 => (spec_FindScheme.l0 k a0 a1 l2 t421 0)) else (some ((⟨#[]⟩ : ByteArray), 1)))
theorem spec_FindScheme.mono_l : ∀ k, (∀ y0 y1 y2 y3 y4, LeO (spec_FindScheme.l0 k y0 y1 y2 y3 y4) (spec_FindScheme.l0 (k + 1) y0 y1 y2 y3 y4))
  | 0 => fun _ _ _ _ _ r h => by simp [spec_FindScheme.l0] at h
  | k + 1 => by
    have ih0 := spec_FindScheme.mono_l k
    · intro y0 y1 y2 y3 y4
      unfold spec_FindScheme.l0
      repeat' first
      | (with_reducible exact ih0 _ _ _ _ _)
      | (with_reducible exact spec_l04All.mono _ _ _)
      | (with_reducible exact spec_l04Leaves.mono _ _ _ _)
      | (with_reducible exact spec_l04Same.mono _ _ _)
      | (with_reducible exact LeO.refl _)
      | (with_reducible exact LeO.none _)
      | (with_reducible refine LeO.ite ?_ ?_)
      | (with_reducible refine LeO.bind ?_ (fun _ => ?_))
      | exact ih0 _ _ _ _ _
      | exact spec_l04All.mono _ _ _
      | exact spec_l04Leaves.mono _ _ _ _
      | exact spec_l04Same.mono _ _ _
      | exact LeO.none _
      | refine LeO.ite ?_ ?_
      | refine LeO.bind ?_ (fun _ => ?_)
theorem spec_FindScheme.mono : ∀ a0 a1 a2 k, LeO (spec_FindScheme.f k a0 a1 a2) (spec_FindScheme.f (k + 1) a0 a1 a2) := by
  intro a0 a1 a2 k
  have ih0 := spec_FindScheme.mono_l k
  unfold spec_FindScheme.f
  repeat' first
      | (with_reducible exact ih0 _ _ _ _ _)
      | (with_reducible exact spec_l04All.mono _ _ _)
      | (with_reducible exact spec_l04Leaves.mono _ _ _ _)
      | (with_reducible exact spec_l04Same.mono _ _ _)
      | (with_reducible exact LeO.refl _)
      | (with_reducible exact LeO.none _)
      | (with_reducible refine LeO.ite ?_ ?_)
      | (with_reducible refine LeO.bind ?_ (fun _ => ?_))
      | exact ih0 _ _ _ _ _
      | exact spec_l04All.mono _ _ _
      | exact spec_l04Leaves.mono _ _ _ _
      | exact spec_l04Same.mono _ _ _
      | exact LeO.none _
      | refine LeO.ite ?_ ?_
      | refine LeO.bind ?_ (fun _ => ?_)
set_option maxHeartbeats 8000000 in
set_option maxRecDepth 100000 in
theorem spec_FindScheme.calls (k : Nat) (a0 : Int) (a1 : Int) (A2 : Option Addr) (c2 : Nat) (l2 : List (S39)) (r1 : ByteArray) (r2 : Int) (w : World) (hr2 : Kd.C k39 w A2 l2.length l2) (hc2 : l2.length ≤ c2) (h : spec_FindScheme.f k a0 a1 l2 = some (r1, r2)) :
    Calls Tryd.prog 33 #[.int .i64 a0, .int .i64 a1, .slice A2 l2.length c2] w fun e w' => e = .returned (.tuple #[.string r1, .int .i64 r2]) ∧ Below w.heap.size w w' := by
  have HR2 := Aside0.mk hr2
  have HC2 := Aside0.mk hc2
  clear hr2 hc2
  have HB := Aside0.mk (Below.refl w.heap.size w)
  have H : ((spec_l04Sheet.f a0 a1).bind fun t420 => (if t420 = true then ((spec_l04All.f k a0 a1).bind fun t421 => (spec_FindScheme.l0 k a0 a1 l2 t421 0)) else (some ((⟨#[]⟩ : ByteArray), 1)))) = some (r1, r2) := h
  clear h
  replace H := Option.bind_eq_some_iff.mp H
  obtain ⟨t420, A40, H⟩ := H
  replace H : (if t420 = true then ((spec_l04All.f k a0 a1).bind fun t421 => (spec_FindScheme.l0 k a0 a1 l2 t421 0)) else (some ((⟨#[]⟩ : ByteArray), 1))) = some (r1, r2) := H
  have A4 := Aside0.mk A40
  clear A40
  by_cases c5 : t420 = true
  · subst c5
    have H1 : ((spec_l04All.f k a0 a1).bind fun t421 => (spec_FindScheme.l0 k a0 a1 l2 t421 0)) = some (r1, r2) := by rw [if_pos rfl] at H; exact H
    clear H
    have H := H1
    clear H1
    replace H := Option.bind_eq_some_iff.mp H
    obtain ⟨t421, A60, H⟩ := H
    replace H : (spec_FindScheme.l0 k a0 a1 l2 t421 0) = some (r1, r2) := H
    have A6 := Aside0.mk A60
    clear A60
    have H' := Aside0.mk H
    clear H
    go_enter Tryd.func33, Tryd.ntmps33
    go_wp2_with (first | ((with_reducible refine gate_callee (f := 63) rfl ?_); refine goesL_ (some 12) rfl rfl Tryd.func63 (by kernel_rfl) rfl #[.int .i64 a0, .int .i64 a1] rfl (by (try simp only [List.map_toArray, List.map_cons, List.map_nil]); first | done | rfl | (simp only [List.length_drop, List.length_take]; rfl)) ?_; (with_reducible refine (spec_l04Sheet.calls a0 a1 true _ A4.out).mono ?_); rintro e w' ⟨rfl, ⟨nd, rfl⟩⟩; refine ⟨_, rfl, ?_⟩) | ((with_reducible refine gate_callee (f := 64) rfl ?_); refine goesL_ (some 16) rfl rfl Tryd.func64 (by kernel_rfl) rfl #[.int .i64 a0, .int .i64 a1] rfl (by (try simp only [List.map_toArray, List.map_cons, List.map_nil]); first | done | rfl | (simp only [List.length_drop, List.length_take]; rfl)) ?_; (with_reducible refine (spec_l04All.calls k a0 a1 t421 _ A6.out).mono ?_); rintro e w7 ⟨v422, rfl, ho0, hb⟩; refine ⟨_, rfl, ?_⟩; have n0_ := Aside0.mk (Kd.R_lower ho0 (below_size (by repeat (first | (with_reducible first | exact HB.out | apply below_alloc | apply pw_below_drewN | apply below_drew1) | exact HB.out)))); have n1_ := Aside0.mk (below_step (by repeat (first | (with_reducible first | exact HB.out | apply below_alloc | apply pw_below_drewN | apply below_drew1) | exact HB.out)) hb); clear HB; have HO423 := n0_; have HB := n1_; clear n0_ n1_; (try clear hb); (try clear hb2); (try clear hk); (try clear hi); (try clear ho0)))
    go_loopg [9] k (fun kq v9 w' => ∃ (x9_1 : Int), v9 = .int .i64 x9_1 ∧ Aside0 (spec_FindScheme.l0 kq a0 a1 l2 t421 x9_1 = some (r1, r2)) ∧ Aside0 (kq ≤ k) ∧ Aside0 (Kd.R Kd.string 9 w' w.heap.size (fun _ => True) v422 t421) ∧ Aside0 (Below w.heap.size w w'))
    case atStart => exact ⟨(0), (by first | rfl | (simp; done) | (simp [*]; done)), H', ⟨Nat.le_refl _⟩, ⟨by (with_reducible repeat (first | apply Kd.R_alloc | apply Kd.R_drewN | apply Kd.R_drew)); exact HO423.out⟩, ⟨by repeat (first | (with_reducible first | exact HB.out | apply below_alloc | apply pw_below_drewN | apply below_drew1) | exact HB.out)⟩⟩
    case round =>
      clear H'
      try clear c2
      try clear p2
      try clear c3
      try clear c5
      try clear c6
      obtain ⟨x9_1, rfl, HA, HK1, HO_8, HB⟩ := hrel
      cases gk with
      | zero => exact absurd HA.out (by simp [spec_FindScheme.l0])
      | succ k1 =>
        have H := HA.out
        clear HA
        simp only [spec_FindScheme.l0] at H
        by_cases c8 : x9_1 < (t421.length : Int)
        · rw [if_pos c8] at H
          have c8b0 : decide (x9_1 < (t421.length : Int)) = true := decide_eq_true c8
          clear c8
          by_cases c9 : 0 ≤ x9_1
          · rw [if_pos c9] at H
            have c9b0 : decide (0 ≤ x9_1) = true := decide_eq_true c9
            clear c9
            replace H := Option.bind_eq_some_iff.mp H
            obtain ⟨t425, A100, H⟩ := H
            replace H : ((spec_l04Same.f k1 t425 l2).bind fun t428 => (if t428 = true then (some (rdOf ByteArray.empty t421 x9_1, 0)) else (spec_FindScheme.l0 k1 a0 a1 l2 t421 (wrap64 (x9_1 + 1))))) = some (r1, r2) := H
            have A10 := Aside0.mk A100
            clear A100
            replace H := Option.bind_eq_some_iff.mp H
            obtain ⟨t428, A110, H⟩ := H
            replace H : (if t428 = true then (some (rdOf ByteArray.empty t421 x9_1, 0)) else (spec_FindScheme.l0 k1 a0 a1 l2 t421 (wrap64 (x9_1 + 1)))) = some (r1, r2) := H
            have A11 := Aside0.mk A110
            clear A110
            by_cases c12 : t428 = true
            · subst c12
              have H1 : (some (rdOf ByteArray.empty t421 x9_1, 0)) = some (r1, r2) := by rw [if_pos rfl] at H; exact H
              clear H
              have H := H1
              clear H1
              simp only [Option.some.injEq, Prod.mk.injEq] at H
              obtain ⟨rfl, rfl⟩ := H
              obtain ⟨Ao13, co13, eo13⟩ := Kd.R_slice HO_8.out
              subst eo13
              have p424 : 0 ≤ (x9_1 : Int) := of_decide_eq_true (by first | (with_reducible assumption) | assumption)
              have q424 : x9_1 < (t421.length : Int) := of_decide_eq_true (by first | (with_reducible assumption) | assumption)
              obtain ⟨ad424, e424, hx424_0⟩ := Kd.at_string (Kd.R_reads' HO_8.out).2.2 x9_1 p424 q424
              cases e424
              replace p424 := eq_true p424
              replace q424 := eq_true q424
              go_wp2_with (first | ((with_reducible refine gate_callee (f := 46) rfl ?_); refine goesL_ (some 29) rfl rfl Tryd.func46 (by kernel_rfl) rfl #[.int .i64 a0, .int .i64 a1, .string (rdOf ByteArray.empty t421 x9_1)] rfl (by (try simp only [List.map_toArray, List.map_cons, List.map_nil]); first | done | rfl | (simp only [List.length_drop, List.length_take]; rfl)) ?_; (with_reducible refine (spec_l04Leaves.calls k1 a0 a1 (rdOf ByteArray.empty t421 x9_1) t425 _ A10.out).mono ?_); rintro e w14 ⟨v426, rfl, ho0, hb⟩; refine ⟨_, rfl, ?_⟩; have n0_ := Aside0.mk (Kd.R_below (by (with_reducible repeat (first | apply Kd.R_alloc | apply Kd.R_drewN | apply Kd.R_drew)); exact HO_8.out) hb); have n1_ := Aside0.mk (Kd.R_lower ho0 (below_size (by repeat (first | (with_reducible first | exact HB.out | apply below_alloc | apply pw_below_drewN | apply below_drew1) | exact HB.out)))); have n2_ := Aside0.mk (below_step (by repeat (first | (with_reducible first | exact HB.out | apply below_alloc | apply pw_below_drewN | apply below_drew1) | exact HB.out)) hb); clear HO_8; clear HB; have HO_8 := n0_; have HO427 := n1_; have HB := n2_; clear n0_ n1_ n2_; (try clear hb); (try clear hb2); (try clear hk); (try clear hi); (try clear ho0); obtain ⟨Ao15, co15, eo15⟩ := Kd.R_slice HO427.out; subst eo15) | ((with_reducible refine gate_callee (f := 68) rfl ?_); refine goesL_ (some 31) rfl rfl Tryd.func68 (by kernel_rfl) rfl #[.slice Ao15 t425.length co15, .slice A2 l2.length c2] rfl (by (try simp only [List.map_toArray, List.map_cons, List.map_nil]); first | done | rfl | (simp only [List.length_drop, List.length_take]; rfl)) ?_; (with_reducible refine (spec_l04Same.calls k1 _ _ t425 _ _ l2 true _ ?side1 ?side2 ?side3 ?side4 A11.out).mono ?_); (case side1 => repeat (first | exact (Kd.R_reads' HO427.out).2.2 | (with_reducible refine Kd.C_alloc ?_ _) | (with_reducible refine Kd.C_drewN ?_ _) | (with_reducible refine Kd.C_drew ?_))); (case side2 => exact (Kd.R_reads' HO427.out).2.1); (case side3 => repeat (first | exact (Kd.C_below HR2.out HB.out) | (with_reducible refine Kd.C_alloc ?_ _) | (with_reducible refine Kd.C_drewN ?_ _) | (with_reducible refine Kd.C_drew ?_))); (case side4 => exact HC2.out); rintro e w' ⟨rfl, ⟨nd, rfl⟩⟩; refine ⟨_, rfl, ?_⟩; have p429 : 0 ≤ (x9_1 : Int) := of_decide_eq_true (by first | (with_reducible assumption) | assumption); have q429 : x9_1 < (t421.length : Int) := of_decide_eq_true (by first | (with_reducible assumption) | assumption); obtain ⟨ad429, e429, hx429_0⟩ := Kd.at_string (Kd.R_reads' HO_8.out).2.2 x9_1 p429 q429; obtain rfl : ad424 = ad429 := (by injection e429); replace p429 := eq_true p429; replace q429 := eq_true q429))
              go_ret2
              exact ⟨by first | rfl | (simp only [Go.IntWalk.i64_left]; first | done | rfl) | (simp [errW_none, errW_some] <;> rfl) | (simp [*, errW_none, errW_some] <;> rfl), by repeat (first | (with_reducible first | exact HB.out | apply below_alloc | apply pw_below_drewN | apply below_drew1) | exact HB.out)⟩
            · replace c12 := Bool.eq_false_iff.mpr c12
              subst c12
              have H1 : (spec_FindScheme.l0 k1 a0 a1 l2 t421 (wrap64 (x9_1 + 1))) = some (r1, r2) := by rw [if_neg (show ¬ (false = true) by decide)] at H; exact H
              clear H
              have H := H1
              clear H1
              have H' := Aside0.mk H
              clear H
              obtain ⟨Ao16, co16, eo16⟩ := Kd.R_slice HO_8.out
              subst eo16
              have p424 : 0 ≤ (x9_1 : Int) := of_decide_eq_true (by first | (with_reducible assumption) | assumption)
              have q424 : x9_1 < (t421.length : Int) := of_decide_eq_true (by first | (with_reducible assumption) | assumption)
              obtain ⟨ad424, e424, hx424_0⟩ := Kd.at_string (Kd.R_reads' HO_8.out).2.2 x9_1 p424 q424
              cases e424
              replace p424 := eq_true p424
              replace q424 := eq_true q424
              go_wp2_with (first | ((with_reducible refine gate_callee (f := 46) rfl ?_); refine goesL_ (some 29) rfl rfl Tryd.func46 (by kernel_rfl) rfl #[.int .i64 a0, .int .i64 a1, .string (rdOf ByteArray.empty t421 x9_1)] rfl (by (try simp only [List.map_toArray, List.map_cons, List.map_nil]); first | done | rfl | (simp only [List.length_drop, List.length_take]; rfl)) ?_; (with_reducible refine (spec_l04Leaves.calls k1 a0 a1 (rdOf ByteArray.empty t421 x9_1) t425 _ A10.out).mono ?_); rintro e w17 ⟨v426, rfl, ho0, hb⟩; refine ⟨_, rfl, ?_⟩; have n0_ := Aside0.mk (Kd.R_below (by (with_reducible repeat (first | apply Kd.R_alloc | apply Kd.R_drewN | apply Kd.R_drew)); exact HO_8.out) hb); have n1_ := Aside0.mk (Kd.R_lower ho0 (below_size (by repeat (first | (with_reducible first | exact HB.out | apply below_alloc | apply pw_below_drewN | apply below_drew1) | exact HB.out)))); have n2_ := Aside0.mk (below_step (by repeat (first | (with_reducible first | exact HB.out | apply below_alloc | apply pw_below_drewN | apply below_drew1) | exact HB.out)) hb); clear HO_8; clear HB; have HO_8 := n0_; have HO427 := n1_; have HB := n2_; clear n0_ n1_ n2_; (try clear hb); (try clear hb2); (try clear hk); (try clear hi); (try clear ho0); obtain ⟨Ao18, co18, eo18⟩ := Kd.R_slice HO427.out; subst eo18) | ((with_reducible refine gate_callee (f := 68) rfl ?_); refine goesL_ (some 31) rfl rfl Tryd.func68 (by kernel_rfl) rfl #[.slice Ao18 t425.length co18, .slice A2 l2.length c2] rfl (by (try simp only [List.map_toArray, List.map_cons, List.map_nil]); first | done | rfl | (simp only [List.length_drop, List.length_take]; rfl)) ?_; (with_reducible refine (spec_l04Same.calls k1 _ _ t425 _ _ l2 false _ ?side1 ?side2 ?side3 ?side4 A11.out).mono ?_); (case side1 => repeat (first | exact (Kd.R_reads' HO427.out).2.2 | (with_reducible refine Kd.C_alloc ?_ _) | (with_reducible refine Kd.C_drewN ?_ _) | (with_reducible refine Kd.C_drew ?_))); (case side2 => exact (Kd.R_reads' HO427.out).2.1); (case side3 => repeat (first | exact (Kd.C_below HR2.out HB.out) | (with_reducible refine Kd.C_alloc ?_ _) | (with_reducible refine Kd.C_drewN ?_ _) | (with_reducible refine Kd.C_drew ?_))); (case side4 => exact HC2.out); rintro e w' ⟨rfl, ⟨nd, rfl⟩⟩; refine ⟨_, rfl, ?_⟩))
              go_roundg k1
              case measure => have := HK1.out; omega
              case rel => exact ⟨(wrap64 (x9_1 + 1)), (by first | rfl | (simp; done) | (simp [*]; done)), H', ⟨by have := HK1.out; omega⟩, ⟨by (with_reducible repeat (first | apply Kd.R_alloc | apply Kd.R_drewN | apply Kd.R_drew)); exact HO_8.out⟩, ⟨by repeat (first | (with_reducible first | exact HB.out | apply below_alloc | apply pw_below_drewN | apply below_drew1) | exact HB.out)⟩⟩
          · rw [if_neg c9] at H
            exact absurd H (by simp)
        · rw [if_neg c8] at H
          have c8b0 : decide (x9_1 < (t421.length : Int)) = false := decide_eq_false c8
          clear c8
          simp only [Option.some.injEq, Prod.mk.injEq] at H
          obtain ⟨rfl, rfl⟩ := H
          obtain ⟨Ao19, co19, eo19⟩ := Kd.R_slice HO_8.out
          subst eo19
          go_wp2
          go_ret2
          exact ⟨by first | rfl | (simp only [Go.IntWalk.i64_left]; first | done | rfl) | (simp [errW_none, errW_some] <;> rfl) | (simp [*, errW_none, errW_some] <;> rfl), by repeat (first | (with_reducible first | exact HB.out | apply below_alloc | apply pw_below_drewN | apply below_drew1) | exact HB.out)⟩
  · replace c5 := Bool.eq_false_iff.mpr c5
    subst c5
    have H1 : (some ((⟨#[]⟩ : ByteArray), 1)) = some (r1, r2) := by rw [if_neg (show ¬ (false = true) by decide)] at H; exact H
    clear H
    have H := H1
    clear H1
    simp only [Option.some.injEq, Prod.mk.injEq] at H
    obtain ⟨rfl, rfl⟩ := H
    go_enter Tryd.func33, Tryd.ntmps33
    go_wp2_with (first | ((with_reducible refine gate_callee (f := 63) rfl ?_); refine goesL_ (some 12) rfl rfl Tryd.func63 (by kernel_rfl) rfl #[.int .i64 a0, .int .i64 a1] rfl (by (try simp only [List.map_toArray, List.map_cons, List.map_nil]); first | done | rfl | (simp only [List.length_drop, List.length_take]; rfl)) ?_; (with_reducible refine (spec_l04Sheet.calls a0 a1 false _ A4.out).mono ?_); rintro e w' ⟨rfl, ⟨nd, rfl⟩⟩; refine ⟨_, rfl, ?_⟩))
    go_ret2
    exact ⟨by first | rfl | (simp only [Go.IntWalk.i64_left]; first | done | rfl) | (simp [errW_none, errW_some] <;> rfl) | (simp [*, errW_none, errW_some] <;> rfl), by repeat (first | (with_reducible first | exact HB.out | apply below_alloc | apply pw_below_drewN | apply below_drew1) | exact HB.out)⟩

end Go.Proofs.YtijbccmcfagnfaaDoor.QFnSchemes
